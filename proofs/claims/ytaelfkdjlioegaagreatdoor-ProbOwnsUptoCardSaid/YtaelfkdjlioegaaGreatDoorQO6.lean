/- The walks and plain laws beneath the statements. -/
import Derived.Test.YtaelfkdjlioegaaGreatDoorQO4
import Derived.BigQuiet
import Derived.Deep.QuietTactic
import Derived.Test.YtaelfkdjlioegaaGreatDoorQO5
import Derived.StillTailTactics
namespace Go.Proofs.YtaelfkdjlioegaaGreatDoor
set_option maxRecDepth 100000
open Go.RowKit
theorem ret_int'{k:IntKind}{a b:Int}(h:a=b): Ending.returned (.int k a)=.returned (.int k b):=by rw[h]
set_option maxHeartbeats 400000 in
theorem cmp_any(A A':Option Addr)(n n' c c' u v:Nat)(w:World)(hn:n≤4294967296)(hn':n'≤4294967296)(hnc:n≤c)(hnc':n'≤c')(hu:u<LB^n)(hv:v<LB^n')(hr:Rd w A n fun j=>.int .u64 (dgt LB u j:Nat))(hr':Rd w A' n' fun j=>.int .u64 (dgt LB v j:Nat)):
    Calls Tryz.prog 183 #[.slice A n c,.slice A' n' c'] w fun e w'=>e=.returned (.int .i64 (cmpI u v))∧∃k,w'=w.drewN k:=by
  have hk:nd 64 u≤n:=nd_le_of_lt (by decide) hu
  have hk':nd 64 v≤n':=nd_le_of_lt (by decide) hv
  have HU:=Lib.hid hu
  have HV:=Lib.hid hv
  have c1:=Lib.hid (fun W (h:Rd W A n fun j=>.int .u64 (dgt LB u j:Nat))=>cut_any A n c u W (by omega) hnc hu h)
  have c2:=Lib.hid (fun W (h:Rd W A' n' fun j=>.int .u64 (dgt LB v j:Nat))=>cut_any A' n' c' v W (by omega) hnc' hv h)
  clear hu hv
  by_cases hlen:nd 64 u=nd 64 v
  · have hb:(((nd 64 u:Nat):Int) != ((nd 64 v:Nat):Int))=false:=by rw[hlen];simp
    have HL:=Lib.hid hlen
    have hk2:nd 64 u≤n':=by omega
    obtain⟨k0,hk0⟩:∃k0,k0=nd 64 v:=⟨_,rfl⟩
    rw[hlen]at c1 hb
    rw[hlen]at hk
    rw[← hk0]at c1 c2 hb hk hk'
    have HK:=Lib.hid hk0
    clear hlen hk0 hk2
    go_enter Tryz.func183,Tryz.ntmps183
    go_wp2_with fail
    refine(c1.out _ hr).mono ?_
    rintro e w' ⟨rfl,rfl⟩
    go_wp2_with fail
    refine(c2.out _ hr').mono ?_
    rintro e w' ⟨rfl,rfl⟩
    go_wp2
    go_loopw [5] (fun i wr=>∃k:Nat,k≤k0∧i=.int .i64 ((k:Int)-1)∧Hid (∀j,k≤j→j<k0→dgt LB u j=dgt LB v j)∧∃m,wr=w.drewN m) (fun i _=>(intOf i+1).toNat)
    case atStart=>exact⟨k0,Nat.le_refl _,rfl,fun j h1 h2=>by omega,0,rfl⟩
    case round =>
      obtain⟨k,hk1,rfl,hz,m,rfl⟩:=hrel
      rcases k with _|p
      · have hfin:=Lib.hid (show cmpI u v=0 by
          have e:u=v:=by
            refine dgt_ext (B:=LB) (n:=k0) ?_ ?_ (fun j hj=>hz.out j (Nat.zero_le _) hj)
            · rw[HK.out,← HL.out];exact LB_nd u
            · rw[HK.out];exact LB_nd v
          subst e;unfold cmpI;simp)
        have e0:((0:Nat):Int)-1=-1:=rfl
        rw[e0]
        go_wp2
        go_ret
        exact⟨by rw[hfin.out];rfl,m,rfl⟩
      · have e0:((p+1:Nat):Int)-1=(p:Int):=by omega
        rw[e0]
        clear e0
        obtain⟨b,off,rfl,hc1⟩:=hr (by omega)
        obtain⟨b',off',rfl,hc2⟩:=hr' (by omega)
        have g1:w.cell? ⟨b,off+p,none⟩=some (.int .u64 (dgt LB u p:Nat)):=hc1 p (by omega)
        have g2:w.cell? ⟨b',off'+p,none⟩=some (.int .u64 (dgt LB v p:Nat)):=hc2 p (by omega)
        clear hc1 hc2
        have hgt:∀a b:Nat,a<LB^k0→b<LB^k0→(∀j,p+1≤j→j<k0→dgt LB a j=dgt LB b j)→dgt LB a p<dgt LB b p→a<b:=fun a b ha hb hz hd =>
          lt_of_dgt LB_pos ha hb hk1 (fun j h1 h2=>hz j h1 h2) hd
        have hu:u<LB^k0:=by rw[HK.out,← HL.out];exact LB_nd u
        have hv:v<LB^k0:=by rw[HK.out];exact LB_nd v
        have HG:=Lib.hid (show(dgt LB u p<dgt LB v p→cmpI u v=-1)∧(dgt LB v p<dgt LB u p→cmpI u v=1)from
          ⟨fun h=>by have:=hgt u v hu hv hz.out h;unfold cmpI;rw[if_pos this],
           fun h=>by have:=hgt v u hv hu (fun j h1 h2=>(hz.out j h1 h2).symm) h;unfold cmpI;rw[if_neg (by omega),if_neg (by omega)]⟩)
        clear hgt hu hv
        rcases Nat.lt_trichotomy (dgt LB u p) (dgt LB v p)with hd|hd|hd
        · have hd1:((dgt LB u p:Nat):Int)<((dgt LB v p:Nat):Int):=by omega
          have hfin:=Lib.hid (HG.out.1 hd)
          clear hd
          go_wp2
          go_quiet (fail)
          go_wp2
          go_ret
          exact⟨by rw[hfin.out];rfl,by simp only[World.drewN_drewN];exact⟨_,rfl⟩⟩
        · have hd1:¬((dgt LB u p:Nat):Int)<((dgt LB v p:Nat):Int):=by omega
          have hd2:¬((dgt LB v p:Nat):Int)<((dgt LB u p:Nat):Int):=by omega
          have HD:=Lib.hid hd
          clear hd
          go_wp2
          go_quiet (fail)
          go_wp2
          go_quiet (fail)
          go_wp2
          refine⟨⟨p,by omega,rfl,fun j h1 h2=>?_,_,rfl⟩,by simp[intOf]⟩
          by_cases e:j=p
          · subst e;exact HD.out
          · exact hz.out j (by omega) h2
        · have hd1:¬((dgt LB u p:Nat):Int)<((dgt LB v p:Nat):Int):=by omega
          have hd2:((dgt LB v p:Nat):Int)<((dgt LB u p:Nat):Int):=by omega
          have hfin:=Lib.hid (HG.out.2 hd)
          clear hd
          go_wp2
          go_quiet (fail)
          go_wp2
          go_quiet (fail)
          go_wp2
          go_ret
          exact⟨by rw[hfin.out];rfl,by simp only[World.drewN_drewN];exact⟨_,rfl⟩⟩
  · have hb:(((nd 64 u:Nat):Int) != ((nd 64 v:Nat):Int))=true:=by rw[bne_iff_ne];omega
    have hb2:(((nd 64 u:Nat):Int)==((nd 64 v:Nat):Int))=false:=beq_eq_false_iff_ne.2 (by omega)
    clear hlen
    by_cases hlt:nd 64 u<nd 64 v
    · have hfin:=Lib.hid (show cmpI u v=-1 by unfold cmpI;rw[if_pos (lt_of_nd_lt (k:=64) (by decide) hlt)])
      go_enter Tryz.func183,Tryz.ntmps183
      go_wp2_with fail
      refine(c1.out _ hr).mono ?_
      rintro e w' ⟨rfl,rfl⟩
      go_wp2_with fail
      refine(c2.out _ hr').mono ?_
      rintro e w' ⟨rfl,rfl⟩
      go_wp2
      go_ret
      exact⟨by rw[hfin.out];rfl,0,rfl⟩
    · have hgt:¬((nd 64 u:Nat):Int)<((nd 64 v:Nat):Int):=by omega
      have hfin:=Lib.hid (show cmpI u v=1 by
        have:=lt_of_nd_lt (k:=64) (u:=v) (v:=u) (by decide) (by have:=of_decide_eq_true (p:=True) rfl;have h3:=beq_eq_false_iff_ne.1 hb2;omega)
        unfold cmpI;rw[if_neg (by omega),if_neg (by omega)])
      go_enter Tryz.func183,Tryz.ntmps183
      go_wp2_with fail
      refine(c1.out _ hr).mono ?_
      rintro e w' ⟨rfl,rfl⟩
      go_wp2_with fail
      refine(c2.out _ hr').mono ?_
      rintro e w' ⟨rfl,rfl⟩
      go_wp2
      go_ret
      exact⟨by rw[hfin.out];rfl,0,rfl⟩
set_option maxHeartbeats 400000 in
theorem len_any(A:Option Addr)(n c v:Nat)(w:World)(hn:n≤4294967296)(hnc:n≤c)(hv:v<LB^n)(hr:Rd w A n fun j=>.int .u64 (dgt LB v j:Nat)):
  Calls Tryz.prog 171 #[.slice A n c] w fun e w'=>e=.returned (.int .i64 (nd 1 v:Nat))∧w=w':=by
 have hk:nd 64 v≤n:=nd_le_of_lt (by decide) hv
 have c1:=Lib.hid (cut_any A n c v w (by omega) hnc hv hr)
 by_cases h0:v=0
 ·subst h0
  rw[nd_zero]at c1
  go_enter Tryz.func171,Tryz.ntmps171
  go_wp2_with fail
  refine c1.out.mono ?_
  rintro e w' ⟨rfl,rfl⟩
  go_wp2
  go_ret
  exact⟨rfl,rfl⟩
 ·have hp:=nd_pos (k:=64) h0
  have htop:=nd1_top h0
  obtain⟨b,off,rfl,hc⟩:=hr (by omega)
  obtain⟨q,hq⟩:∃q,nd 64 v=q+1:=⟨nd 64 v-1,by omega⟩
  rw[hq,Nat.add_sub_cancel]at htop
  rw[hq]at c1 hk
  have hlt:dgt LB v q<18446744073709551616:=dgt_lt LB_pos v q
  have g1:w.cell? ⟨b,off+q,none⟩=some (.int .u64 (dgt LB v q:Nat)):=hc q (by omega)
  have c2:=Lib.hid (Tryz.bits_LeadingZeros64 (dgt LB v q:Nat) w (by omega) (by omega))
  have h1:Lib.bitLen ((dgt LB v q:Nat):Int).toNat=nd 1 (dgt LB v q):=by rw[Int.toNat_natCast,bitLen_nd _ hlt]
  have hb:nd 1 (dgt LB v q)≤64:=nd_le_of_lt (by decide) (by simpa using hlt)
  have H1:=Lib.hid h1
  have HT:=Lib.hid htop
  clear hc hr hv hq hp h1 htop h0 hlt
  go_enter Tryz.func171,Tryz.ntmps171
  go_wp2_with fail
  refine c1.out.mono ?_
  rintro e w' ⟨rfl,rfl⟩
  go_wp2_with fail
  refine c2.out.mono ?_
  rintro e w' ⟨rfl,rfl⟩
  rw[H1.out]
  go_wp2
  go_ret
  exact⟨ret_int' (by rw[HT.out];omega),rfl⟩
set_option maxHeartbeats 400000 in
theorem text_any(A:Option Addr)(n c v:Nat)(w:World)(hn:n≤4294967296)(hnc:n≤c)(hv:v<LB^n)(hr:Rd w A n fun j=>.int .u64 (dgt LB v j:Nat)):
  Calls Tryz.prog 168 #[.slice A n c] w fun e w'=>e=.returned (.string (nstr v))∧Below w.heap.size w w':=by
 have hk:nd 64 v≤n:=nd_le_of_lt (by decide) hv
 have hv2:=LB_nd v
 have c1:=Lib.hid (cut_any A n c v w (by omega) hnc hv hr)
 have hr2:=hr.of_le hk
 obtain⟨k0,hk0⟩:∃k,k=nd 64 v:=⟨_,rfl⟩
 have h8:=nd_bytes v
 rw[← hk0]at c1 hr2 hv2 hk
 have c2:=Lib.hid (len_any A k0 c v w (by omega) (by omega) hv2 hr2)
 have hb:nd 8 v≤8*k0:=nd_le_of_lt (by decide) (by rw[pow2_pow];rw[LB_pow,pow2_pow]at hv2;rwa [show 8*(8*k0)=64*k0 by omega])
 obtain⟨N,hN⟩:∃N,N=nd 8 v:=⟨_,rfl⟩
 rw[← hN]at h8 hb
 have HL:=Lib.hid (show(((nd 1 v:Nat):Int)+7) / 8=(N:Int)by omega)
 have HE:=Lib.hid h8
 have hLle:(((nd 1 v:Nat):Int)+7) / 8≤(N:Int):=by omega
 have hLge:(N:Int)≤(((nd 1 v:Nat):Int)+7) / 8:=by omega
 have hl:nd 1 v≤64*k0:=nd_le_of_lt (by decide) (by rw[Nat.pow_one];rwa [LB_pow,pow2_pow]at hv2)
 have hb2:1*N≤281474976710656:=by omega
 have hb3:N≤9223372036854775807:=by omega
 have HN:=Lib.hid hN
 have HK:=Lib.hid hk0
 clear hk0 hN h8 hv hv2
 go_enter Tryz.func168,Tryz.ntmps168
 go_wp2_with fail
 refine c1.out.mono ?_
 rintro e w' ⟨rfl,rfl⟩
 go_wp2_with fail
 refine c2.out.mono ?_
 rintro e w' ⟨rfl,rfl⟩
 go_wp2_with (at_make;refine wpList_make_cel rfl (.tmp 12) (.tmp 12) _ rfl 5 (.int .u8 0) 1 under_bytes info_u8 rfl .i64 .i64 _ _ N rfl rfl HL.out HL.out hb2 hb3 ?_;intro w1 hC hB hlt)
 go_loopw [15] (fun i wr=>∃k:Nat,k≤N∧i=.int .i64 k∧Below w.heap.size w wr∧Cel wr w.heap.size 5 N (fun j=>.int .u8 ((if N≤j+k then dgt 256 v (N-1-j)else 0:Nat):Int))) (fun i _=>N-(intOf i).toNat)
 case atStart=>exact⟨0,Nat.zero_le _,rfl,hB,hC.congr fun j hj=>by rw[if_neg (by omega)];rfl⟩
 case round =>
  obtain⟨k,hk1,rfl,hB2,hC2⟩:=hrel
  by_cases hlt:k<N
  ·obtain⟨q,hq⟩:∃q,q=k / 8:=⟨_,rfl⟩
   obtain⟨r,hr8⟩:∃r,r=k % 8:=⟨_,rfl⟩
   have hqk:q<k0:=by omega
   obtain⟨b,off,rfl,hc⟩:=hr2 (by omega)
   have g1:wr.cell? ⟨b,off+q,none⟩=some (.int .u64 (dgt LB v q:Nat)):=cell_later hB2 (hc q hqk)
   obtain⟨d,hd⟩:∃d,N=k+d+1:=⟨N-k-1,by omega⟩
   have hdN:d<N:=by omega
   have e1:(nd 1 v+7) / 8-1-k=d:=by have:=HE.out;omega
   have g2:=hC2.cell (i:=(nd 1 v+7) / 8-1-k) (by omega)
   have g3:=hC2.frozen ((nd 1 v+7) / 8-1-k)
   have HEQ:=Lib.hid e1
   clear e1
   have e2:(k:Int) / 8=(q:Int):=by omega
   have e3:(k:Int) % 8=(r:Int):=by omega
   have e4:((dgt LB v q:Nat):Int) / 2^(r*8) % 256=((dgt 256 v k:Nat):Int):=by
    rw[← dgt_of_limb v k,← hq,← hr8,show(2:Int)^(r*8)=((2^(r*8):Nat):Int)by simp]
    rfl
   have hr7:r<8:=by omega
   have HQ:=Lib.hid (show k=8*q+r by omega)
   have HD:=Lib.hid hd
   clear hq hr8 hd hc
   go_wp2
   rw[HEQ.out]
   refine⟨⟨k+1,hlt,by go_num,hB2.setCell (Nat.le_refl _) _,(hC2.set_ d _).congr fun j hj=>?_⟩,by simp[intOf];omega⟩
   have:=HD.out
   by_cases e:j=d
   ·subst e;simp only[if_true];rw[if_pos (by omega),show N-1-j=k by omega]
   ·simp only[if_neg e]
    by_cases e2:N≤j+k
    ·rw[if_pos e2,if_pos (by omega)]
    ·rw[if_neg e2,if_neg (by omega)]
  ·obtain rfl:k=N:=by omega
   have hrd:=(hC2.rd (o:=0) (n:=k) (by omega)).congr (f':=fun j=>.int .u8 ((dgt 256 v (k-1-j):Nat):Int)) (fun j hj=>by simp only[Nat.zero_add];rw[if_pos (by omega)])
   have hcv:=run_bytes_rd (P:=Tryz.prog) 104 9 5 under_bytes Tryz.underlying5 Tryz.underlying9 (some ⟨w.heap.size,0,none⟩) k k (fun j=>dgt 256 v (k-1-j)) hrd
   have hn8:(⟨((List.range k).map fun j=>UInt8.ofNat (dgt 256 v (k-1-j))).toArray⟩:ByteArray)=nstr v:=by unfold nstr nbytes;rw[← HN.out]
   rw[hn8]at hcv
   clear hn8 hrd hC2
   go_wp2
   go_ret
   exact⟨rfl,hB2⟩
open Go.RowKit
def limb(v j:Nat): Value:=.int .u64 (dgt LB v j:Nat)
theorem add64_run(x y k:Nat)(w:World): (callFunc 203 #[.int .u64 (dgt LB x k:Nat),.int .u64 (dgt LB y k:Nat),.int .u64 (carry LB x y k:Nat)]).run Tryz.prog w =
  .ok (.value (.tuple #[.int .u64 (dgt LB (x+y) k:Nat),.int .u64 (carry LB x y (k+1):Nat)])) w:=by
 rw[Tryz.bits_Add64 _ _ _ (carry_le LB_pos x y k) w,dgt_add LB_pos x y k,carry_succ LB_pos x y k];rfl
theorem sub64_run(x y k:Nat)(h:y≤x)(w:World): (callFunc 204 #[.int .u64 (dgt LB x k:Nat),.int .u64 (dgt LB y k:Nat),.int .u64 (borrow LB x y k:Nat)]).run Tryz.prog w =
  .ok (.value (.tuple #[.int .u64 (dgt LB (x-y) k:Nat),.int .u64 (borrow LB x y (k+1):Nat)])) w:=by
 rw[Tryz.bits_Sub64 _ _ _ (borrow_le LB x y k) w,dgt_sub LB_pos h k,borrow_succ LB_pos x y k];rfl
theorem add64_runz(x y k:Nat)(hd:dgt LB y k=0)(w:World): (callFunc 203 #[.int .u64 (dgt LB x k:Nat),.int .u64 0,.int .u64 (carry LB x y k:Nat)]).run Tryz.prog w =
  .ok (.value (.tuple #[.int .u64 (dgt LB (x+y) k:Nat),.int .u64 (carry LB x y (k+1):Nat)])) w:=by
 have:=add64_run x y k w
 rw[hd]at this
 exact this
theorem sub64_runz(x y k:Nat)(h:y≤x)(hd:dgt LB y k=0)(w:World): (callFunc 204 #[.int .u64 (dgt LB x k:Nat),.int .u64 0,.int .u64 (borrow LB x y k:Nat)]).run Tryz.prog w =
  .ok (.value (.tuple #[.int .u64 (dgt LB (x-y) k:Nat),.int .u64 (borrow LB x y (k+1):Nat)])) w:=by
 have:=sub64_run x y k h w
 rw[hd]at this
 exact this
set_option maxHeartbeats 400000 in
theorem add_any(g o n c T n' c' x y:Nat)(A':Option Addr)(f:Nat→Value)(w:World)(hn:n≤4294967296)(hT:o+n≤T)(hC:Cel w g 119 T (mix o n (limb x) f))(hn':n'≤4294967296)(hy:y<LB^n')(hr:Rd w A' n' (limb y))(ho:Off A' g):
  Calls Tryz.prog 197 #[.slice (some ⟨g,o,none⟩) n c,.slice A' n' c'] w fun e w'=>e=.returned (.tuple #[])∧w.grownBy w' (some g)∧Cel w' g 119 T (mix o n (limb (x+y)) f):=by
 go_enter Tryz.func197,Tryz.ntmps197
 go_wp2
 go_loopw [4,9] (fun cy i wr=>∃k:Nat,k≤n∧i=.int .i64 k∧cy=.int .u64 (carry LB x y k:Nat)∧w.grownBy wr (some g)∧Cel wr g 119 T (mix o n (fun j=>if j<k then limb (x+y) j else limb x j) f))
  (fun _ i _=>n-(intOf i).toNat)
 case atStart=>exact⟨0,Nat.zero_le _,rfl,by rw[carry_zero];rfl,World.grownBy.refl _ _,hC.congr fun j _=>mix_congr (fun i _=>by rw[if_neg (by omega)]) j⟩
 case round =>
  obtain⟨k,hk,rfl,rfl,hg,hC2⟩:=hrel
  by_cases hlt:k<n
  ·have g1:wr.cell? ⟨g,o+k,none⟩=some (.int .u64 (dgt LB x k:Nat)):=by rw[hC2.cell (by omega),mix_in hlt,if_neg (by omega)];rfl
   have g2:=hC2.frozen (o+k)
   have hadd:=add64_run x y k
   have hr2:=hr.grown hg ho
   by_cases hlt2:k<n'
   ·obtain⟨b,off,rfl,hc⟩:=hr2 (by omega)
    have g3:wr.cell? ⟨b,off+k,none⟩=some (.int .u64 (dgt LB y k:Nat)):=hc k hlt2
    clear hc
    go_wp2
    exact⟨⟨k+1,hlt,by go_num,rfl,grownBy_setCell hg (Or.inl rfl) _,(hC2.set_ (o+k) _).congr fun j _=>mix_set hlt (by simp only[Nat.lt_succ_self,if_true];rfl) (fun j h1 h2=>by
     by_cases h3:j<k
     ·rw[if_pos h3,if_pos (by omega)]
     ·rw[if_neg h3,if_neg (by omega)]) j⟩,by simp[intOf];omega⟩
   ·have hd:dgt LB y k=0:=dgt_big' LB_pos hy (by omega)
    clear hadd
    have hadd:=add64_runz x y k hd
    clear hd
    go_wp2
    exact⟨⟨k+1,hlt,by go_num,rfl,grownBy_setCell hg (Or.inl rfl) _,(hC2.set_ (o+k) _).congr fun j _=>mix_set hlt (by simp only[Nat.lt_succ_self,if_true];rfl) (fun j h1 h2=>by
     by_cases h3:j<k
     ·rw[if_pos h3,if_pos (by omega)]
     ·rw[if_neg h3,if_neg (by omega)]) j⟩,by simp[intOf];omega⟩
  ·obtain rfl:k=n:=by omega
   go_wp2
   go_end0
   exact⟨rfl,hg,hC2.congr fun j _=>mix_congr (fun i hi=>by rw[if_pos hi]) j⟩
set_option maxHeartbeats 400000 in
theorem take_any(g o n c T n' c' x y:Nat)(A':Option Addr)(f:Nat→Value)(w:World)(hn:n≤4294967296)(hT:o+n≤T)(hC:Cel w g 119 T (mix o n (limb x) f))(hn':n'≤4294967296)(hy:y<LB^n')(hyx:y≤x)(hx:x<LB^n)(hr:Rd w A' n' (limb y))(ho:Off A' g):
  Calls Tryz.prog 196 #[.slice (some ⟨g,o,none⟩) n c,.slice A' n' c'] w fun e w'=>e=.returned (.bool true)∧w.grownBy w' (some g)∧Cel w' g 119 T (mix o n (limb (x-y)) f):=by
 go_enter Tryz.func196,Tryz.ntmps196
 go_wp2
 go_loopw [5,10] (fun cy i wr=>∃k:Nat,k≤n∧i=.int .i64 k∧cy=.int .u64 (borrow LB x y k:Nat)∧w.grownBy wr (some g)∧Cel wr g 119 T (mix o n (fun j=>if j<k then limb (x-y) j else limb x j) f))
  (fun _ i _=>n-(intOf i).toNat)
 case atStart=>exact⟨0,Nat.zero_le _,rfl,by rw[borrow_zero];rfl,World.grownBy.refl _ _,hC.congr fun j _=>mix_congr (fun i _=>by rw[if_neg (by omega)]) j⟩
 case round =>
  obtain⟨k,hk,rfl,rfl,hg,hC2⟩:=hrel
  by_cases hlt:k<n
  ·have g1:wr.cell? ⟨g,o+k,none⟩=some (.int .u64 (dgt LB x k:Nat)):=by rw[hC2.cell (by omega),mix_in hlt,if_neg (by omega)];rfl
   have g2:=hC2.frozen (o+k)
   have hadd:=sub64_run x y k hyx
   have hr2:=hr.grown hg ho
   by_cases hlt2:k<n'
   ·obtain⟨b,off,rfl,hc⟩:=hr2 (by omega)
    have g3:wr.cell? ⟨b,off+k,none⟩=some (.int .u64 (dgt LB y k:Nat)):=hc k hlt2
    clear hc
    go_wp2
    exact⟨⟨k+1,hlt,by go_num,rfl,grownBy_setCell hg (Or.inl rfl) _,(hC2.set_ (o+k) _).congr fun j _=>mix_set hlt (by simp only[Nat.lt_succ_self,if_true];rfl) (fun j h1 h2=>by
     by_cases h3:j<k
     ·rw[if_pos h3,if_pos (by omega)]
     ·rw[if_neg h3,if_neg (by omega)]) j⟩,by simp[intOf];omega⟩
   ·have hd:dgt LB y k=0:=dgt_big' LB_pos hy (by omega)
    clear hadd
    have hadd:=sub64_runz x y k hyx hd
    clear hd
    go_wp2
    exact⟨⟨k+1,hlt,by go_num,rfl,grownBy_setCell hg (Or.inl rfl) _,(hC2.set_ (o+k) _).congr fun j _=>mix_set hlt (by simp only[Nat.lt_succ_self,if_true];rfl) (fun j h1 h2=>by
     by_cases h3:j<k
     ·rw[if_pos h3,if_pos (by omega)]
     ·rw[if_neg h3,if_neg (by omega)]) j⟩,by simp[intOf];omega⟩
  ·obtain rfl:k=n:=by omega
   have hb0:borrow LB x y k=0:=by unfold borrow;rw[Nat.mod_eq_of_lt hx,Nat.mod_eq_of_lt (Nat.lt_of_le_of_lt hyx hx),if_neg (by omega)]
   rw[hb0]
   clear hb0 hx hy hyx
   go_wp2
   go_ret
   exact⟨rfl,hg,hC2.congr fun j _=>mix_congr (fun i hi=>by rw[if_pos hi]) j⟩
open Go.RowKit
set_option maxHeartbeats 400000 in
theorem up_any(A:Option Addr)(n c v sh:Nat)(w:World)(hn:n≤4294967296)(hnc:n≤c)(hsh:sh≤68719476736)(hv:v<LB^n)(hr:Rd w A n (limb v)):
  Calls Tryz.prog 167 #[.slice A n c,.int .i64 (sh:Nat)] w fun e w'=>∃g N,e=.returned (.slice (some ⟨g,0,none⟩) (nd 64 (v*2^sh)) N)∧w.heap.size≤g∧Below w.heap.size w w' ∧
   Cel w' g 119 N (limb (v*2^sh))∧N=n+sh / 64+1:=by
 obtain⟨q,hq⟩:∃q,q=sh / 64:=⟨_,rfl⟩
 obtain⟨s,hs⟩:∃s,s=sh % 64:=⟨_,rfl⟩
 have hqs:sh=64*q+s:=by omega
 have e1:(sh:Int) / 64=(q:Int):=by omega
 have e2:(sh:Int) % 64=(s:Int):=by omega
 have e3:(sh:Int).tmod 64=(s:Int):=by rw[Int.tmod_eq_emod_of_nonneg (by omega)];exact e2
 have hs64:s<64:=by omega
 have hq2:q≤1073741824:=by omega
 rw[← hq]
 have HQ:=Lib.hid hqs
 have HV:=Lib.hid hv
 have hb2:8*(n+q+1)≤281474976710656:=by omega
 have hb3:n+q+1≤9223372036854775807:=by omega
 clear hq hs hqs hv
 go_enter Tryz.func167,Tryz.ntmps167
 go_wp2_with (at_make;refine wpList_make_cel rfl (.tmp 14) (.tmp 14) _ rfl 119 (.int .u64 0) 8 under_limbs info_u64 rfl .i64 .i64 _ _ (n+q+1) rfl rfl rfl rfl hb2 hb3 ?_;intro w1 hC hB hlt)
 go_loopw [18] (fun i wr=>∃k:Nat,k≤n∧i=.int .i64 k∧Below w.heap.size w wr∧Cel wr w.heap.size 119 (n+q+1) (limb (v % LB^k*2^sh))) (fun i _=>n-(intOf i).toNat)
 case atStart=>exact⟨0,Nat.zero_le _,rfl,hB,hC.congr fun j hj=>by unfold limb;rw[Nat.pow_zero,Nat.mod_one,Nat.zero_mul,dgt_zero];rfl⟩
 case round =>
  obtain⟨k,hk,rfl,hB2,hC2⟩:=hrel
  by_cases hlt:k<n
  ·obtain⟨b,off,rfl,hc⟩:=hr (by omega)
   have g1:wr.cell? ⟨b,off+k,none⟩=some (.int .u64 (dgt LB v k:Nat)):=cell_later hB2 (hc k hlt)
   have g2:wr.cell? ⟨w.heap.size,k+q,none⟩=some (.int .u64 (dgt LB (v % LB^k*2^sh) (k+q):Nat)):=hC2.cell (i:=k+q) (by omega)
   have g3:=hC2.frozen (k+q)
   clear hc
   have hd:dgt LB v k<LB:=dgt_lt LB_pos v k
   have hU:v % LB^k*2^sh<LB^(k+q)*2^s:=by
    have h1:=Nat.mod_lt v (Nat.pow_pos (n:=k) LB_pos)
    rw[HQ.out,Nat.pow_add 2,Nat.pow_add LB,LB_pow,pow2_pow 64 q,← Nat.mul_assoc]
    exact Nat.mul_lt_mul_of_pos_right (Nat.mul_lt_mul_of_pos_right h1 (Nat.two_pow_pos _)) (Nat.two_pow_pos s)
   have hst:=dgt_up hU hd hs64
   have hU2:v % LB^k*2^sh+LB^(k+q)*(2^s*dgt LB v k)=v % LB^(k+1)*2^sh:=by
    rw[mod_succ,HQ.out,Nat.pow_add 2,Nat.pow_add LB,LB_pow,pow2_pow 64 q,Nat.add_mul]
    congr 1
    simp only[Nat.mul_assoc,Nat.mul_left_comm,Nat.mul_comm]
   rw[hU2]at hst
   have ho:=or_u64 (dgt LB (v % LB^k*2^sh) (k+q)) (dgt LB v k*2^s % LB) (dgt_lt LB_pos _ _) (Nat.mod_lt _ LB_pos)
   have hsl:=shl_wrap_mod (dgt LB v k) s
   have hz:dgt LB (v % LB^k*2^sh) (k+q+1)=0:=by
    refine dgt_big' (n:=k+q+1) LB_pos ?_ (Nat.le_refl _)
    rw[Nat.pow_succ]
    exact Nat.lt_of_lt_of_le hU (Nat.mul_le_mul_left _ (by rw[LB_pow];exact Nat.pow_le_pow_right (by decide) (by omega)))
   have HS:=Lib.hid hst
   have HZ:=Lib.hid hz
   obtain⟨d,hdd⟩:∃d,d=dgt LB v k:=⟨_,rfl⟩
   rw[← hdd]at g1 ho hsl
   obtain⟨lo,hlo⟩:∃lo,lo=d*2^s % LB:=⟨_,rfl⟩
   rw[← hlo]at ho hsl
   have hn1:(dgt LB (v % LB^k*2^sh) (k+q) ||| lo)=dgt LB (v % LB^(k+1)*2^sh) (k+q):=by rw[hst,if_pos rfl,← hdd,hlo]
   rw[hn1]at ho
   have hw1:IntKind.i64.wrap (s:Int)=(s:Int):=IntWalk.i64_in _ (by omega)
   have hw2:IntKind.i64.wrap (64-(s:Int))=64-(s:Int):=IntWalk.i64_in _ (by omega)
   have hw3:IntKind.i64.wrap ((k:Int)+(q:Int)+1)=(k:Int)+(q:Int)+1:=IntWalk.i64_in _ (by omega)
   have b1:(0:Int)≤(k:Int)+(q:Int):=by omega
   have b2:(k:Int)+(q:Int)<(n:Int)+(q:Int)+1:=by omega
   have b3:((k:Int)+(q:Int)).toNat=k+q:=by omega
   have b4:(0:Int)≤(k:Int)+(q:Int)+1:=by omega
   have b5:(k:Int)+(q:Int)+1<(n:Int)+(q:Int)+1:=by omega
   have b6:((k:Int)+(q:Int)+1).toNat=k+q+1:=by omega
   have HD:=Lib.hid hdd
   have HL:=Lib.hid hlo
   clear hst hz hdd hlo hn1 hU2 hU hd
   go_wp2
   go_still_tail 10,(by kernel_rfl)
   change wpList _ _ _ _ _ wr.drew
   have hB3:=hB2.drew
   have hC3:=hC2.drew
   have g4:wr.drew.cell? ⟨w.heap.size,k+q,none⟩=some (.int .u64 (dgt LB (v % LB^k*2^sh) (k+q):Nat)):=hC3.cell (i:=k+q) (by omega)
   have g5:=hC3.frozen (k+q)
   clear hB2 hC2 g1 g2 g3
   generalize wr.drew=w2 at *
   by_cases hs0:0<s
   ·have hsr:(d:Int) / 2^(64-s)=((d / 2^(64-s):Nat):Int):=shr_cast d (64-s)
    have ht6:(64-(s:Int)).toNat=64-s:=by omega
    have hor0:bits .or .u64 0 ((d / 2^(64-s):Nat):Int)=((d / 2^(64-s):Nat):Int):=by
     have hdl:d<LB:=by rw[HD.out];exact dgt_lt LB_pos v k
     have:=or_u64 0 (d / 2^(64-s)) LB_pos (Nat.lt_of_le_of_lt (Nat.div_le_self _ _) hdl)
     rw[Nat.zero_or]at this
     exact this
    obtain⟨hi,hhi⟩:∃hi,hi=d / 2^(64-s):=⟨_,rfl⟩
    rw[← hhi]at hsr hor0
    have HH:=Lib.hid hhi
    clear hhi
    have hC4:=hC3.set_ (k+q) (.int .u64 ((dgt LB (v % LB^(k+1)*2^sh) (k+q):Nat):Int))
    have hB4:=hB3.setCell (p:=⟨w.heap.size,k+q,none⟩) (Nat.le_refl _) (.int .u64 ((dgt LB (v % LB^(k+1)*2^sh) (k+q):Nat):Int))
    have HC4:=Lib.hid hC4
    clear hC4
    go_wp2
    have hC5:=HC4.out
    clear HC4
    generalize w2.setCell ⟨w.heap.size,k+q,none⟩ (.int .u64 ((dgt LB (v % LB^(k+1)*2^sh) (k+q):Nat):Int))=w3 at *
    have g6:w3.cell? ⟨w.heap.size,k+q+1,none⟩=some (.int .u64 0):=by
     rw[hC5.cell (i:=k+q+1) (by omega),if_neg (by omega)];unfold limb;rw[HZ.out];rfl
    have g7:=hC5.frozen (k+q+1)
    clear g4 g5 hC3
    go_still_tail 12,(by kernel_rfl)
    change wpList _ _ _ _ _ w3.drew
    have hB6:=hB4.drew
    have hC6:=hC5.drew
    have g8:w3.drew.cell? ⟨w.heap.size,k+q+1,none⟩=some (.int .u64 0):=g6
    have g9:=hC6.frozen (k+q+1)
    clear hB4 hC5 g6 g7
    generalize w3.drew=w4 at *
    go_wp2
    refine⟨⟨k+1,hlt,by go_num,hB6.setCell (Nat.le_refl _) _,(hC6.set_ (k+q+1) _).congr fun j hj=>?_⟩,by simp[intOf];omega⟩
    have h1:=HS.out j
    unfold limb
    rw[h1]
    by_cases a1:j=k+q+1
    ·subst a1;rw[if_pos rfl,if_neg (by omega),if_pos rfl,← HD.out,← HH.out]
    ·rw[if_neg a1,if_neg a1]
     by_cases a2:j=k+q
     ·subst a2;rw[if_pos rfl,if_pos rfl,HS.out (k+q),if_pos rfl]
     ·rw[if_neg a2,if_neg a2]
   ·go_wp2
    refine⟨⟨k+1,hlt,by go_num,hB3.setCell (Nat.le_refl _) _,(hC3.set_ (k+q) _).congr fun j hj=>?_⟩,by simp[intOf];omega⟩
    have h1:=HS.out j
    unfold limb
    by_cases a2:j=k+q
    ·subst a2;rw[if_pos rfl]
    ·rw[if_neg a2,h1,if_neg a2]
     by_cases a1:j=k+q+1
     ·subst a1
      have hdl:dgt LB v k<LB:=dgt_lt LB_pos v k
      rw[if_pos rfl,HZ.out,show 64-s=64 by omega,Nat.div_eq_of_lt (by rw[← LB_pow];exact hdl)]
     ·rw[if_neg a1]
  ·obtain rfl:k=n:=by omega
   rw[Nat.mod_eq_of_lt HV.out]at hC2
   have hrd:Rd wr (some ⟨w.heap.size,0,none⟩) (k+q+1) (limb (v*2^sh)):=by simpa using hC2.rd (o:=0) (n:=k+q+1) (by omega)
   have hvv:=Lib.hid (show v*2^sh<LB^(k+q+1)by
    rw[HQ.out,Nat.pow_add 2,Nat.pow_succ,Nat.pow_add LB,← Nat.mul_assoc,LB_pow,pow2_pow 64 q]
    refine Nat.lt_of_lt_of_le (Nat.mul_lt_mul_of_pos_right (Nat.mul_lt_mul_of_pos_right (show v<(2^64)^k from HV.out) (Nat.two_pow_pos (64*q))) (Nat.two_pow_pos s)) ?_
    exact Nat.mul_le_mul_left _ (Nat.pow_le_pow_right (by decide) (by omega)))
   go_wp2_with (go_at_call 166;refine(cut_any _ _ _ _ _ hb3 (Nat.le_refl _) hvv.out hrd).mono ?_;rintro e w' ⟨rfl,rfl⟩)
   go_ret
   exact⟨_,_,rfl,Nat.le_refl _,hB2,hC2,rfl⟩
theorem dgt_shr_zero{v n sh:Nat}(hv:v<LB^n)(h:n≤sh / 64): v / 2^sh=0:=by
 refine Nat.div_eq_of_lt (Nat.lt_of_lt_of_le hv ?_)
 rw[LB_pow,pow2_pow]
 exact Nat.pow_le_pow_right (by decide) (by omega)
set_option maxHeartbeats 400000 in
theorem down_nil(A:Option Addr)(n c _v sh:Nat)(w:World)(hn:n≤4294967296)(hsh:sh≤9223372036854775807)(hq:n≤sh / 64):
  Calls Tryz.prog 170 #[.slice A n c,.int .i64 (sh:Nat)] w fun e w'=>e=.returned (.slice none 0 0)∧w=w':=by
 have hq2:(n:Int)≤(sh:Int) / 64:=by omega
 clear hq
 go_enter Tryz.func170,Tryz.ntmps170
 go_wp2
 go_ret
 exact⟨rfl,rfl⟩
set_option maxHeartbeats 400000 in
theorem down_some(A:Option Addr)(n c v sh:Nat)(w:World)(hn:n≤4294967296)(hnc:n≤c)(hsh:sh≤9223372036854775807)(hq0:sh / 64<n)(hv:v<LB^n)(hr:Rd w A n (limb v)):
  Calls Tryz.prog 170 #[.slice A n c,.int .i64 (sh:Nat)] w fun e w'=>∃g N,e=.returned (.slice (some ⟨g,0,none⟩) (nd 64 (v / 2^sh)) N)∧w.heap.size≤g∧Below w.heap.size w w' ∧
   Cel w' g 119 N (limb (v / 2^sh))∧N≤n∧nd 64 (v / 2^sh)≤N:=by
 obtain⟨q,hq⟩:∃q,q=sh / 64:=⟨_,rfl⟩
 obtain⟨s,hs⟩:∃s,s=sh % 64:=⟨_,rfl⟩
 have hqs:sh=64*q+s:=by omega
 have e1:(sh:Int) / 64=(q:Int):=by omega
 have e2:(sh:Int) % 64=(s:Int):=by omega
 have e3:(sh:Int).tmod 64=(s:Int):=by rw[Int.tmod_eq_emod_of_nonneg (by omega)];exact e2
 have hs64:s<64:=by omega
 rw[← hq]at hq0
 obtain⟨b,off,rfl,hc⟩:=hr (by omega)
 obtain⟨N,hN⟩:∃N,n=q+N:=⟨n-q,by omega⟩
 have hX:v / LB^q<LB^N:=by rw[Nat.div_lt_iff_lt_mul (Nat.pow_pos LB_pos),← Nat.pow_add,Nat.add_comm,← hN];exact hv
 have hr2:Rd w (some ⟨b,off+q,none⟩) N (limb (v / LB^q)):=fun _=>⟨b,off+q,rfl,fun j hj=>by
  rw[Nat.add_assoc,hc (q+j) (by omega)];unfold limb;rw[dgt_div]⟩
 have cc:=Lib.hid (copied_any (some ⟨b,off+q,none⟩) N (c-q) (v / LB^q) 0 N w (by omega) (by omega) (by omega) (by simp) (by omega) hX hr2)
 have hC:=Lib.hid hc
 have HQ:=Lib.hid hqs
 have HV:=Lib.hid hv
 subst hN
 have h3:q+N-q=N:=by omega
 have hN0:0<N:=by omega
 clear hq hs hqs hv hc hr hX hr2
 go_enter Tryz.func170,Tryz.ntmps170
 go_wp2_with fail
 refine cc.out.mono ?_
 rintro e w1 ⟨g,rfl,hgw,hB,hC1⟩
 have hglt:=hC1.lt
 go_wp2
 go_loopw [19] (fun i wr=>∃k:Nat,k≤N∧i=.int .i64 k∧Below w.heap.size w wr∧Cel wr g 119 N (fun j=>if j<k then limb (v / 2^sh) j else limb (v / LB^q) j)) (fun i _=>N-(intOf i).toNat)
 case atStart=>exact⟨0,Nat.zero_le _,rfl,hB,hC1.congr fun j hj=>by rw[if_neg (by omega)];rfl⟩
 case round =>
  obtain⟨k,hk,rfl,hB2,hC2⟩:=hrel
  by_cases hlt:k<N
  ·have g1:wr.cell? ⟨g,k,none⟩=some (.int .u64 (dgt LB (v / LB^q) k:Nat)):=by rw[hC2.cell hlt,if_neg (by omega)];rfl
   have g2:=hC2.frozen k
   have hdn:=dgt_down v q s k hs64
   rw[← HQ.out,← dgt_div LB v q k]at hdn
   have hsr:=shr_cast (dgt LB (v / LB^q) k) s
   have hdl:dgt LB (v / LB^q) k / 2^s<LB:=Nat.lt_of_le_of_lt (Nat.div_le_self _ _) (dgt_lt LB_pos _ _)
   have ho:=or_u64 (dgt LB (v / LB^q) k / 2^s) (dgt LB v (q+k+1)*2^(64-s) % LB) hdl (Nat.mod_lt _ LB_pos)
   rw[← hdn]at ho
   have hsl:=shl_wrap_mod (dgt LB v (q+k+1)) (64-s)
   obtain⟨p,hp⟩:∃p,p=dgt LB (v / LB^q) k / 2^s:=⟨_,rfl⟩
   obtain⟨t,ht⟩:∃t,t=dgt LB v (q+k+1)*2^(64-s) % LB:=⟨_,rfl⟩
   rw[← hp]at hsr ho hdn
   rw[← ht]at ho hsl hdn
   have hC3:=hC2.set_ k (.int .u64 (p:Int))
   have hB3:=hB2.setCell (p:=⟨g,k,none⟩) hgw (.int .u64 (p:Int))
   by_cases hk1:k+1<N
   ·by_cases hs0:0<s
    ·have hk1':(k:Int)+1<(N:Int):=by omega
     have hs0':(0:Int)<(s:Int):=by omega
     have HC3:=Lib.hid hC3
     have HDN:=Lib.hid hdn
     clear hC3 hdl hp ht hdn
     go_wp2
     have hC4:=HC3.out
     clear HC3 g1 g2 hB2 hC2
     generalize wr.setCell ⟨g,k,none⟩ (.int .u64 (p:Int))=w3 at *
     have g3:w3.cell? ⟨g,k,none⟩=some (.int .u64 (p:Nat)):=by rw[hC4.cell hlt,if_pos rfl]
     have g4:=hC4.frozen k
     have g5:w3.cell? ⟨b,off+(q+k+1),none⟩=some (.int .u64 (dgt LB v (q+k+1):Nat)):=cell_later hB3 (hC.out (q+k+1) (by omega))
     have b1:(0:Int)≤(q:Int)+(k:Int)+1:=by omega
     have b2:(q:Int)+(k:Int)+1<(q:Int)+(N:Int):=by omega
     have b3:((q:Int)+(k:Int)+1).toNat=q+k+1:=by omega
     have hw1:IntKind.i64.wrap (s:Int)=(s:Int):=IntWalk.i64_in _ (by omega)
     have hw2:IntKind.i64.wrap (64-(s:Int))=64-(s:Int):=IntWalk.i64_in _ (by omega)
     have hw3:IntKind.i64.wrap ((q:Int)+(k:Int))=(q:Int)+(k:Int):=IntWalk.i64_in _ (by omega)
     have hw4:IntKind.i64.wrap ((q:Int)+(k:Int)+1)=(q:Int)+(k:Int)+1:=IntWalk.i64_in _ (by omega)
     have hw5:IntKind.i64.wrap (q:Int)=(q:Int):=IntWalk.i64_in _ (by omega)
     have ht6:(64-(s:Int)).toNat=64-s:=by omega
     have b4:(0:Int)≤64-(s:Int):=by omega
     go_still_tail 18,(by kernel_rfl)
     change wpList _ _ _ _ _ w3.drew
     have hB6:=hB3.drew
     have hC6:=hC4.drew
     have g8:w3.drew.cell? ⟨g,k,none⟩=some (.int .u64 (p:Nat)):=g3
     have g9:=hC6.frozen k
     clear hB3 hC4 g3 g4 g5
     generalize w3.drew=w4 at *
     go_wp2
     refine⟨⟨k+1,hlt,by go_num,hB6.setCell hgw _,(hC6.set_ k _).congr fun j hj=>?_⟩,by simp[intOf];omega⟩
     by_cases a1:j=k
     ·subst a1;rw[if_pos rfl,if_pos (by omega)];rfl
     ·rw[if_neg a1,if_neg a1]
      by_cases a2:j<k
      ·rw[if_pos a2,if_pos (by omega)]
      ·rw[if_neg a2,if_neg (by omega)]
    ·have hs0':¬(0:Int)<(s:Int):=by omega
     have hk1':(k:Int)+1<(N:Int):=by omega
     have hp0:dgt LB (v / 2^sh) k=p:=by
      rw[hdn,ht,show s=0 by omega,Nat.sub_zero,← LB_pow,Nat.mul_mod_left,Nat.or_zero]
     have HP:=Lib.hid hp0
     have HC3:=Lib.hid hC3
     clear hdl hp ht hdn hp0 hC3
     go_wp2
     have hp0:=HP.out
     have hC3:=HC3.out
     refine⟨⟨k+1,hlt,by go_num,hB3,hC3.congr fun j hj=>?_⟩,by simp[intOf];omega⟩
     by_cases a1:j=k
     ·subst a1;rw[if_pos rfl,if_pos (by omega)];unfold limb;rw[hp0]
     ·rw[if_neg a1]
      by_cases a2:j<k
      ·rw[if_pos a2,if_pos (by omega)]
      ·rw[if_neg a2,if_neg (by omega)]
   ·have hk1':¬(k:Int)+1<(N:Int):=by omega
    have hp0:dgt LB (v / 2^sh) k=p:=by
     rw[hdn,ht,show q+k+1=q+N by omega,dgt_big' LB_pos HV.out (Nat.le_refl _),Nat.zero_mul,Nat.zero_mod,Nat.or_zero]
    have HP:=Lib.hid hp0
    have HC3:=Lib.hid hC3
    clear hdl hp ht hdn hp0 hC3
    go_wp2
    have hp0:=HP.out
    have hC3:=HC3.out
    refine⟨⟨k+1,hlt,by go_num,hB3,hC3.congr fun j hj=>?_⟩,by simp[intOf];omega⟩
    by_cases a1:j=k
    ·subst a1;rw[if_pos rfl,if_pos (by omega)];unfold limb;rw[hp0]
    ·rw[if_neg a1]
     by_cases a2:j<k
     ·rw[if_pos a2,if_pos (by omega)]
     ·rw[if_neg a2,if_neg (by omega)]
  ·obtain rfl:k=N:=by omega
   have hC3:=hC2.congr (f':=limb (v / 2^sh)) (fun j hj=>by rw[if_pos hj])
   have hrd:Rd wr (some ⟨g,0,none⟩) k (limb (v / 2^sh)):=by simpa using hC3.rd (o:=0) (n:=k) (by omega)
   have hvv:=Lib.hid (show v / 2^sh<LB^k by
    rw[HQ.out,Nat.pow_add 2,← Nat.div_div_eq_div_mul,← pow2_pow 64 q,← LB_pow]
    refine Nat.lt_of_le_of_lt (Nat.div_le_self _ _) ?_
    rw[Nat.div_lt_iff_lt_mul (Nat.pow_pos LB_pos),← Nat.pow_add,Nat.add_comm]
    exact HV.out)
   have hkb:k≤9223372036854775807:=by omega
   clear hC2
   go_wp2_with (go_at_call 166;refine(cut_any _ _ _ _ _ hkb (Nat.le_refl _) hvv.out hrd).mono ?_;rintro e w' ⟨rfl,rfl⟩)
   go_ret
   exact⟨_,_,rfl,hgw,hB2,hC3,by omega,nd_le_of_lt (k:=64) (by decide) hvv.out⟩
open Go.RowKit
def sval(s:ByteArray): Nat:=bval s.data.toList
theorem sval_nstr(v:Nat): sval (nstr v)=v:=nstr_bval v
theorem sval_lt(s:ByteArray): sval s<256^s.size:=by have:=bval_lt s.data.toList;rwa [show s.data.toList.length=s.size by simp]at this
theorem nd_sval(s:ByteArray): nd 64 (sval s)≤(s.size+7) / 8:=by have:=nd_bval s.data.toList;rwa [show s.data.toList.length=s.size by simp]at this
theorem Cel.rd0{w:World}{g:Nat}{t:TypeId}{T n:Nat}{f:Nat→Value}(h:Cel w g t T f)(hn:n≤T): Rd w (some ⟨g,0,none⟩) n f :=
 (h.rd (o:=0) (n:=n) (by omega)).congr fun j _=>by rw[Nat.zero_add]
theorem of_rd(s:ByteArray)(w:World)(hs:s.size≤4294967296):
  Calls Tryz.prog 142 #[.string s] w fun e w'=>∃g N,e=.returned (.slice (some ⟨g,0,none⟩) (nd 64 (sval s)) N)∧w.heap.size≤g∧Below w.heap.size w w' ∧
   Cel w' g 119 N (limb (sval s))∧nd 64 (sval s)≤N∧N≤4294967296∧Rd w' (some ⟨g,0,none⟩) (nd 64 (sval s)) (limb (sval s)) :=
 (of_any s w hs).mono fun e w' ⟨g,N,he,hg,hb,hc,hN⟩=>by
  have h1:=nd_sval s
  have h2:nd 64 (sval s)≤N:=by omega
  exact⟨g,N,he,hg,hb,hc,h2,by omega,Cel.rd0 hc h2⟩
theorem len_rd(A:Option Addr)(c v:Nat)(w:World)(hn:nd 64 v≤4294967296)(hnc:nd 64 v≤c)(hr:Rd w A (nd 64 v) (limb v)):
 Calls Tryz.prog 171 #[.slice A (nd 64 v) c] w fun e w'=>e=.returned (.int .i64 (nd 1 v:Nat))∧w=w':=len_any A _ c v w hn hnc (LB_nd v) hr
theorem text_rd(A:Option Addr)(c v:Nat)(w:World)(hn:nd 64 v≤4294967296)(hnc:nd 64 v≤c)(hr:Rd w A (nd 64 v) (limb v)):
 Calls Tryz.prog 168 #[.slice A (nd 64 v) c] w fun e w'=>e=.returned (.string (nstr v))∧Below w.heap.size w w':=text_any A _ c v w hn hnc (LB_nd v) hr
theorem cmp_rd(A A':Option Addr)(c c' u v:Nat)(w:World)(hn:nd 64 u≤4294967296)(hn':nd 64 v≤4294967296)(hnc:nd 64 u≤c)(hnc':nd 64 v≤c')(hr:Rd w A (nd 64 u) (limb u))(hr':Rd w A' (nd 64 v) (limb v)):
  Calls Tryz.prog 183 #[.slice A (nd 64 u) c,.slice A' (nd 64 v) c'] w fun e w'=>e=.returned (.int .i64 (cmpI u v))∧∃k,w'=w.drewN k :=
 cmp_any A A' _ _ c c' u v w hn hn' hnc hnc' (LB_nd u) (LB_nd v) hr hr'
set_option maxHeartbeats 400000 in
theorem nLen_any(s:ByteArray)(w:World)(hs:s.size≤4294967296):
  Calls Tryz.prog 147 #[.string s] w fun e w'=>e=.returned (.int .i64 (nd 1 (sval s):Nat))∧Below w.heap.size w w':=by
 go_enter Tryz.func147,Tryz.ntmps147
 go_wp2_with fail
 refine(of_rd s w hs).mono ?_
 rintro e w1 ⟨g,N,rfl,hg,hb,hc,h1,h2,hr⟩
 go_wp2_with fail
 refine(len_rd _ _ _ _ (by omega) h1 hr).mono ?_
 rintro e w2 ⟨rfl,rfl⟩
 go_wp2
 go_ret
 exact⟨rfl,hb⟩
set_option maxHeartbeats 400000 in
theorem nCmp_any(s t:ByteArray)(w:World)(hs:s.size≤4294967296)(ht:t.size≤4294967296):
  Calls Tryz.prog 198 #[.string s,.string t] w fun e w'=>e=.returned (.int .i64 (cmpI (sval s) (sval t)))∧Below w.heap.size w w':=by
 go_enter Tryz.func198,Tryz.ntmps198
 go_wp2_with fail
 refine(of_rd s w hs).mono ?_
 rintro e w1 ⟨g,N,rfl,hg,hb,hc,h1,h2,hr⟩
 go_wp2_with fail
 refine(of_rd t w1 ht).mono ?_
 rintro e w2 ⟨g',N',rfl,hg',hb',hc',h1',h2',hr'⟩
 go_wp2_with fail
 refine(cmp_rd _ _ _ _ _ _ _ (by omega) (by omega) h1 h1' (hr.below hb') hr').mono ?_
 rintro e w3 ⟨rfl,k,rfl⟩
 go_wp2
 go_ret
 exact⟨rfl,below_drewN' (below_bel hb hb' hb.size) k⟩
set_option maxHeartbeats 400000 in
theorem nTrim_any(s:ByteArray)(w:World):
  Calls Tryz.prog 169 #[.string s] w fun e w'=>e=.returned (.string (nstr (sval s)))∧w=w':=by
 have ht:=Tryz.strings_TrimLeft_one s 0 (by decide) w
 have he:(⟨(Lib.trimLeftB s.data.toList 0).toArray⟩:ByteArray)=nstr (sval s):=by unfold nstr sval;rw[nbytes_dropWhile];rfl
 rw[he]at ht
 have HT:=Lib.hid ht
 clear ht he
 go_enter Tryz.func169,Tryz.ntmps169
 go_wp2_with fail
 refine HT.out.mono ?_
 rintro e w1 ⟨rfl,rfl⟩
 go_wp2
 go_ret
 exact⟨rfl,rfl⟩
set_option maxHeartbeats 400000 in
theorem nOf_any(n:Nat)(w:World)(hn:n<LB):
  Calls Tryz.prog 172 #[.int .u64 (n:Nat)] w fun e w'=>e=.returned (.string (nstr n))∧Below w.heap.size w w':=by
 have hr:Rd (w.alloc (.cells #[.int .u64 (n:Nat)] 119)) (some ⟨w.heap.size,0,none⟩) 1 (limb n):=by
  have:=(Cel.new w 119 #[.int .u64 (n:Nat)]).rd (o:=0) (n:=1) (by simp)
  refine this.congr fun j hj=>?_
  obtain rfl:j=0:=by omega
  simp[limb,dgt,Nat.mod_eq_of_lt hn]
 have ht:=Lib.hid (text_any (some ⟨w.heap.size,0,none⟩) 1 1 n _ (by omega) (by omega) (by simpa using hn) hr)
 clear hr hn
 go_enter Tryz.func172,Tryz.ntmps172
 go_wp2_with fail
 refine ht.out.mono ?_
 rintro e w1 ⟨rfl,hb⟩
 go_wp2
 go_ret
 exact⟨rfl,below_bel ((Below.refl _ _).alloc (Nat.le_refl _) _) hb (by simp)⟩
theorem mix_self(o n:Nat)(f:Nat→Value)(j:Nat): mix o n (fun i=>f (o+i)) f j=f j:=by
 unfold mix;split
 ·rename_i h;simp only;congr 1;omega
 ·rfl
set_option maxHeartbeats 400000 in
theorem nSub_any(s t:ByteArray)(w:World)(hs:s.size≤4294967296)(ht:t.size≤4294967296):
  Calls Tryz.prog 187 #[.string s,.string t] w fun e w'=>e=.returned (if sval s<sval t then .tuple #[.string ⟨#[]⟩,.bool false]else .tuple #[.string (nstr (sval s-sval t)),.bool true])∧Below w.heap.size w w':=by
 by_cases hlt:sval s<sval t
 ·rw[if_pos hlt]
  have hc:=cmpI_lt.2 hlt
  clear hlt
  go_enter Tryz.func187,Tryz.ntmps187
  go_wp2_with fail
  refine(of_rd s w hs).mono ?_
  rintro e w1 ⟨g,N,rfl,hg,hb,hC,h1,h2,hr⟩
  go_wp2_with fail
  refine(of_rd t w1 ht).mono ?_
  rintro e w2 ⟨g',N',rfl,hg',hb',hC',h1',h2',hr'⟩
  go_wp2_with fail
  refine(cmp_rd _ _ _ _ _ _ _ (by omega) (by omega) h1 h1' (hr.below hb') hr').mono ?_
  rintro e w3 ⟨rfl,k,rfl⟩
  go_wp2
  go_ret2
  exact⟨rfl,below_drewN' (below_bel hb hb' hb.size) k⟩
 ·rw[if_neg hlt]
  have hc:¬ cmpI (sval s) (sval t)<0:=fun h=>hlt (cmpI_lt.1 h)
  have hle:=Lib.hid (Nat.le_of_not_lt hlt)
  clear hlt
  go_enter Tryz.func187,Tryz.ntmps187
  go_wp2_with fail
  refine(of_rd s w hs).mono ?_
  rintro e w1 ⟨g,N,rfl,hg,hb,hC,h1,h2,hr⟩
  go_wp2_with fail
  refine(of_rd t w1 ht).mono ?_
  rintro e w2 ⟨g',N',rfl,hg',hb',hC',h1',h2',hr'⟩
  go_wp2_with fail
  refine(cmp_rd _ _ _ _ _ _ _ (by omega) (by omega) h1 h1' (hr.below hb') hr').mono ?_
  rintro e w3 ⟨rfl,k,rfl⟩
  have hgl:=hC.lt
  have hC2:Cel (w2.drewN k) g 119 N (mix 0 (nd 64 (sval s)) (limb (sval s)) (limb (sval s))):=((hC.bel hb').drewN k).congr fun j _=>by
   have:=mix_self 0 (nd 64 (sval s)) (limb (sval s)) j
   simp only[Nat.zero_add]at this
   exact this.symm
  go_wp2_with fail
  refine(take_any _ _ _ _ _ _ _ _ _ _ _ _ (by omega) (by omega) hC2 (by omega) (LB_nd _) hle.out (LB_nd _) (hr'.drewN k) (Off.some_ (by omega))).mono ?_
  rintro e w4 ⟨rfl,hg4,hC4⟩
  have hnd:nd 64 (sval s-sval t)≤nd 64 (sval s):=nd_mono (by decide) (Nat.sub_le _ _)
  have hr4:Rd w4 (some ⟨g,0,none⟩) (nd 64 (sval s)) (limb (sval s-sval t)):=(hC4.rd (o:=0) (n:=nd 64 (sval s)) (by omega)).congr fun j hj=>mix_in hj
  go_wp2_with fail
  refine(text_any _ _ _ _ _ (by omega) h1 (Nat.lt_of_le_of_lt (Nat.sub_le _ _) (LB_nd _)) hr4).mono ?_
  rintro e w5 ⟨rfl,hb5⟩
  go_wp2
  go_ret2
  have hbk:=below_drewN' (below_bel hb hb' hb.size) k
  have hb4:Below w.heap.size w w4:=below_grownBy hbk hg4 hbk.size hg
  exact⟨rfl,below_bel hb4 hb5 hb4.size⟩
theorem tab_keep{g:Nat}{tab:List Nat}{w w':World}(h:TabAt g tab w)(hb:Below w.heap.size w w'): TabAt g tab w':=fun j hj=>(hb.cell (p:=⟨g,j,none⟩) (cell_lt (h j hj))).trans (h j hj)
set_option maxHeartbeats 400000 in
theorem nZeros_any(s:ByteArray)(w:World)(hs:s.size≤4294967296)(hT:TabAt 0 Lib.deBruijn64tab w):
  Calls Tryz.prog 121 #[.string s] w fun e w'=>e=.returned (.int .i64 (tz (sval s):Nat))∧Below w.heap.size w w':=by
 have HT:=Lib.hid hT
 clear hT
 go_enter Tryz.func121,Tryz.ntmps121
 go_wp2_with fail
 refine(of_rd s w hs).mono ?_
 rintro e w1 ⟨g,N,rfl,hg,hb,hC,h1,h2,hr⟩
 go_wp2
 go_loop [8] (fun i=>∃k:Nat,k≤nd 64 (sval s)∧i=.int .i64 k∧Hid (∀j,j<k→dgt LB (sval s) j=0)) (fun i=>nd 64 (sval s)-(intOf i).toNat)
 case atStart=>exact⟨0,Nat.zero_le _,rfl,fun j hj=>by omega⟩
 case round =>
  obtain⟨k,hk,rfl,hz⟩:=hrel
  by_cases hlt:k<nd 64 (sval s)
  ·have g1:w1.cell? ⟨g,k,none⟩=some (.int .u64 (dgt LB (sval s) k:Nat)):=hC.cell (by omega)
   by_cases hd:dgt LB (sval s) k=0
   ·have HD:=Lib.hid hd
    have hd0:(((dgt LB (sval s) k:Nat):Int) != 0)=false:=by rw[hd];rfl
    clear hd
    go_wp2
    refine⟨⟨k+1,hlt,by go_num,fun j hj=>?_⟩,by simp[intOf];omega⟩
    by_cases e:j=k
    ·subst e;exact HD.out
    ·exact hz.out j (by omega)
   ·have hd0:(((dgt LB (sval s) k:Nat):Int) != 0)=true:=by rw[bne_iff_ne];omega
    have hfin:=Lib.hid (show tz (sval s)=64*k+tz (dgt LB (sval s) k)from tz_limb (by
     refine dgt_ext (B:=LB) (n:=k) (Nat.mod_lt _ (Nat.pow_pos LB_pos)) (Nat.pow_pos LB_pos) fun j hj=>?_
     rw[dgt_mod hj,dgt_zero];exact hz.out j hj) hd)
    have hc:=Tryz.bits_TrailingZeros64 (dgt LB (sval s) k) (dgt_lt LB_pos _ _) w1 (fun _=>tab_keep HT.out hb)
    have htb:Lib.ctz 64 (dgt LB (sval s) k)≤64:=by
     obtain⟨m,_,hm⟩:=Lib.ctzFrom_spec 64 (dgt LB (sval s) k) (by omega) (dgt_lt LB_pos _ _)
     unfold Lib.ctz;rw[if_neg hd];omega
    rw[tz_ctz hd (dgt_lt LB_pos _ _)]at hc htb
    have HC:=Lib.hid hc
    clear hd hc
    go_wp2_with fail
    refine HC.out.mono ?_
    rintro e w2 ⟨rfl,rfl⟩
    go_wp2
    go_ret
    exact⟨ret_int' (by rw[hfin.out];omega),hb⟩
  ·obtain rfl:k=nd 64 (sval s):=by omega
   have hfin:=Lib.hid (show sval s=0 by
    refine dgt_ext (B:=LB) (n:=nd 64 (sval s)) (LB_nd _) (Nat.pow_pos LB_pos) fun j hj=>?_
    rw[dgt_zero];exact hz.out j hj)
   go_wp2
   go_ret
   exact⟨by rw[hfin.out];rfl,hb⟩
def ival(b:Bool)(v:Nat): Int:=if b then -(v:Int)else v
def neg(z:Int): Bool:=decide (z<0)
def mag(z:Int): ByteArray:=nstr z.natAbs
def bsz(z:Int): Nat:=nd 8 z.natAbs
def sgn(z:Int): Int:=if z<0 then -1 else if z=0 then 0 else 1
theorem sval_mag(z:Int): sval (mag z)=z.natAbs:=nstr_bval _
theorem ival_mk(z:Int): ival (neg z) (sval (mag z))=z:=by
 rw[sval_mag];unfold ival neg;by_cases h:z<0
 ·rw[decide_eq_true h,if_pos rfl];omega
 ·rw[decide_eq_false h,if_neg (by simp)];omega
theorem mag_size(z:Int): (mag z).size=bsz z:=nstr_size _
theorem ival_natAbs(b:Bool)(v:Nat): (ival b v).natAbs=v:=by unfold ival;split<;>omega
theorem ival_not(b:Bool)(v:Nat): ival (!b) v=-ival b v:=by cases b<;>simp[ival]
theorem ival_zero(b:Bool): ival b 0=0:=by cases b<;>rfl
theorem ival_neg(b:Bool)(v:Nat): neg (ival b v)=(b&&!(v==0)):=by
 unfold neg ival;cases b
 ·simp
 ·by_cases h:v=0
  ·subst h;simp
  ·have:(v==0)=false:=by simpa using h
   rw[this];simp;omega
theorem mag_ival(b:Bool)(v:Nat): mag (ival b v)=nstr v:=by unfold mag;rw[ival_natAbs]
theorem nstr_empty{v:Nat}: (nstr v).toList=[]↔v=0:=by
 rw[ByteArray.toList_eq]
 constructor
 ·intro h
  have h2:=nstr_bval v
  rw[h]at h2
  exact h2.symm
 ·rintro rfl;rfl
theorem mag_zero:mag 0=⟨#[]⟩:=rfl
theorem lt_bsz(z:Int): z.natAbs<256^bsz z:=nd_lt (k:=8) (by decide) _
theorem bsz_le{z:Int}{n:Nat}(h:z.natAbs<256^n): bsz z≤n:=nd_le_of_lt (k:=8) (by decide) h
theorem bsz_ival(b:Bool)(s:ByteArray): bsz (ival b (sval s))≤s.size:=bsz_le (by rw[ival_natAbs];exact sval_lt s)
theorem bsz_neg(z:Int): bsz (-z)=bsz z:=by unfold bsz;rw[Int.natAbs_neg]
theorem bsz_add_le{x y:Int}{n:Nat}(hx:bsz x≤n)(hy:bsz y≤n): bsz (x+y)≤n+1:=by
 refine bsz_le ?_
 have h1:=Nat.lt_of_lt_of_le (lt_bsz x) (Nat.pow_le_pow_right (by decide) hx)
 have h2:=Nat.lt_of_lt_of_le (lt_bsz y) (Nat.pow_le_pow_right (by decide) hy)
 have h3:=Int.natAbs_add_le x y
 rw[Nat.pow_succ];omega
theorem bsz_sub_le{x y:Int}{n:Nat}(hx:bsz x≤n)(hy:bsz y≤n): bsz (x-y)≤n+1:=by
 rw[Int.sub_eq_add_neg];exact bsz_add_le hx (by rw[bsz_neg];exact hy)
theorem bsz_mul_le{x y:Int}{n m:Nat}(hx:bsz x≤n)(hy:bsz y≤m): bsz (x*y)≤n+m:=by
 refine bsz_le ?_
 rw[Int.natAbs_mul,Nat.pow_add]
 exact Nat.mul_lt_mul'' (Nat.lt_of_lt_of_le (lt_bsz x) (Nat.pow_le_pow_right (by decide) hx)) (Nat.lt_of_lt_of_le (lt_bsz y) (Nat.pow_le_pow_right (by decide) hy))
theorem bsz_natAbs_le{x y:Int}(h:x.natAbs≤y.natAbs): bsz x≤bsz y:=nd_mono (by decide) h
theorem bsz_shl_le{x:Int}{n k:Nat}(hx:bsz x≤n): bsz (x*2^k)≤n+k / 8+1:=by
 refine bsz_le ?_
 rw[Int.natAbs_mul,Int.natAbs_pow,Nat.add_assoc,Nat.pow_add]
 refine Nat.mul_lt_mul'' (Nat.lt_of_lt_of_le (lt_bsz x) (Nat.pow_le_pow_right (by decide) hx)) ?_
 rw[show(256:Nat)=2^8 from rfl,← Nat.pow_mul]
 exact Nat.pow_lt_pow_right (by decide) (by omega)
def sumI(f:Nat→Int): Nat→Int|0=>0|k+1=>sumI f k+f k
theorem bsz_sumI{f:Nat→Int}{S:Nat}(h:∀j,bsz (f j)≤S): ∀k,bsz (sumI f k)≤S+k
 | 0=>Nat.le_trans (show bsz 0≤0 by decide) (Nat.zero_le _)
 | k+1=>bsz_add_le (bsz_sumI h k) (Nat.le_trans (h k) (Nat.le_add_right _ _))
theorem sgn_lt{z:Int}: sgn z<0↔z<0:=by unfold sgn;split<;>(try split)<;>omega
theorem sgn_eq{z:Int}: sgn z=0↔z=0:=by unfold sgn;split<;>(try split)<;>omega
theorem sgn_gt{z:Int}: 0<sgn z↔0<z:=by unfold sgn;split<;>(try split)<;>omega
theorem sgn_bd(z:Int): -1≤sgn z∧sgn z≤1:=by unfold sgn;split<;>(try split)<;>omega
theorem sgn_mul(x y:Int): sgn (x*y)=sgn x*sgn y:=by
 rcases Int.lt_trichotomy x 0 with hx|hx|hx<;>rcases Int.lt_trichotomy y 0 with hy|hy|hy<;>(try subst hx)<;>(try subst hy) <;>
  (try simp only[Int.zero_mul,Int.mul_zero,show sgn 0=0 from rfl])
 ·rw[show sgn x=-1 by unfold sgn;rw[if_pos hx],show sgn y=-1 by unfold sgn;rw[if_pos hy]]
  have:=Int.mul_pos_of_neg_of_neg hx hy
  unfold sgn;rw[if_neg (by omega),if_neg (by omega)];rfl
 ·rw[show sgn x=-1 by unfold sgn;rw[if_pos hx],show sgn y=1 by unfold sgn;rw[if_neg (by omega),if_neg (by omega)]]
  have:=Int.mul_neg_of_neg_of_pos hx hy
  unfold sgn;rw[if_pos (by omega)];rfl
 ·rw[show sgn x=1 by unfold sgn;rw[if_neg (by omega),if_neg (by omega)],show sgn y=-1 by unfold sgn;rw[if_pos hy]]
  have:=Int.mul_neg_of_pos_of_neg hx hy
  unfold sgn;rw[if_pos (by omega)];rfl
 ·rw[show sgn x=1 by unfold sgn;rw[if_neg (by omega),if_neg (by omega)],show sgn y=1 by unfold sgn;rw[if_neg (by omega),if_neg (by omega)]]
  have:=Int.mul_pos hx hy
  unfold sgn;rw[if_neg (by omega),if_neg (by omega)];rfl
theorem div_signs(a b:Bool)(u v:Nat)(hv:0<v):
  (ival a u / ival b v=ival (a != b) (if a=true∧u % v≠0 then u / v+1 else u / v))∧(ival a u % ival b v=((if a=true∧u % v≠0 then v-u % v else u % v:Nat):Int)):=by
 have hm:=Nat.div_add_mod u v
 have hlt:=Nat.mod_lt u hv
 have key:∀(q r:Int),ival a u=ival b v*q+r→0≤r→r<v→ival a u / ival b v=q∧ival a u % ival b v=r:=by
  intro q r h h1 h2
  have hb0:ival b v≠0:=by unfold ival;split<;>omega
  have e1:=Int.emod_add_mul_ediv (ival a u) (ival b v)
  have e2:=Int.emod_nonneg (ival a u) hb0
  have e3:ival a u % ival b v<v:=by
   have:=Int.emod_lt (ival a u) hb0
   rw[ival_natAbs]at this;exact this
  generalize ival a u / ival b v=Q at *
  generalize ival a u % ival b v=R at *
  have hd:ival b v*(Q-q)=r-R:=by rw[Int.mul_sub];omega
  have hQ:Q-q=0:=by
   apply Classical.byContradiction
   intro hne
   have h3:(ival b v*(Q-q)).natAbs=v*(Q-q).natAbs:=by rw[Int.natAbs_mul,ival_natAbs]
   have h4:v*1≤v*(Q-q).natAbs:=Nat.mul_le_mul_left _ (by omega)
   rw[hd]at h3
   omega
  rw[hQ,Int.mul_zero]at hd
  omega
 generalize u / v=q at *
 generalize u % v=r at *
 have hmI:(u:Int)=(v:Int)*(q:Int)+(r:Int):=by rw[← hm];simp
 cases a
 ·simp only[Bool.false_eq_true,false_and,if_false]
  cases b
  ·exact key _ _ (by simp[ival];exact hmI) (by omega) (by omega)
  ·exact key _ _ (by simp[ival,Int.neg_mul,Int.mul_neg];exact hmI) (by omega) (by omega)
 ·by_cases hr:r=0
  ·simp only[hr,ne_eq,not_true,and_false,if_false]
   subst hr
   cases b
   ·exact key _ _ (by simp[ival,Int.mul_neg];omega) (by omega) (by omega)
   ·exact key _ _ (by simp[ival,Int.neg_mul];omega) (by omega) (by omega)
  ·simp only[hr,ne_eq,not_false_iff,and_true,if_true]
   have e:((v-r:Nat):Int)=(v:Int)-r:=by omega
   cases b
   ·refine key _ _ ?_ (by omega) (by omega)
    rw[e];simp[ival,Int.mul_add,Int.mul_neg];omega
   ·refine key _ _ ?_ (by omega) (by omega)
    rw[e];simp[ival,Int.mul_add,Int.neg_mul];omega
theorem shr_signs(a:Bool)(u k:Nat): ival a u / 2^k=ival a (u / 2^k)-(if a=true∧u % 2^k≠0 then 1 else 0):=by
 have h:=(div_signs a false u (2^k) (Nat.two_pow_pos k)).1
 have e:ival false (2^k)=2^k:=by simp[ival]
 rw[e]at h
 rw[h]
 cases a
 ·simp[ival]
 ·by_cases hr:u % 2^k=0
  ·simp[ival,hr]
  ·simp[ival,hr];omega
open Go
def dy(m e:Int): Dyadic:=Dyadic.ofIntWithPrec m (-e)
def dm:Dyadic→Int | .zero=>0 | .ofOdd n _ _=>n
def de:Dyadic→Int | .zero=>0 | .ofOdd _ k _=>-k
theorem dy_rat(m e:Int): (dy m e).toRat=(m:Rat)*2^e:=by
 unfold dy
 rw[Dyadic.toRat_ofIntWithPrec_eq_mul_two_pow,Int.neg_neg]
theorem dy_ext{x y:Dyadic}(h:x.toRat=y.toRat): x=y:=Dyadic.toRat_inj.1 h
theorem dy_zero(e:Int): dy 0 e=0:=by
 unfold dy Dyadic.ofIntWithPrec;rw[dif_pos rfl];rfl
theorem dy_dm(x:Dyadic): dy (dm x) (de x)=x:=by
 cases x with
 | zero=>exact dy_zero _
 | ofOdd n k hn=>show Dyadic.ofIntWithPrec n (- -k)=_;rw[Int.neg_neg];exact Dyadic.ofOdd_eq_ofIntWithPrec.symm
theorem dm_zero{x:Dyadic}: dm x=0↔x=0:=by
 cases x with
 | zero=>exact⟨fun _=>rfl,fun _=>rfl⟩
 | ofOdd n k hn=>exact⟨fun h=>by have h1:n=0:=h;subst h1;simp at hn,fun h=>by cases h⟩
theorem two_ne:(2:Rat)≠0:=by decide
theorem two_pow_nat(k:Nat): (2:Rat)^(k:Int)=((2^k:Int):Rat):=by
 rw[Rat.zpow_natCast];simp
theorem dy_shl(m e:Int)(k:Nat): dy (m*2^k) e=dy m (e+k):=by
 apply dy_ext
 rw[dy_rat,dy_rat,Rat.zpow_add two_ne,two_pow_nat,Rat.intCast_mul]
 grind
theorem dy_of_odd{m:Int}(e:Int)(h:m % 2=1): dm (dy m e)=m∧de (dy m e)=e:=by
 have h1:dy m e=Dyadic.ofOdd m (-e) h:=Dyadic.ofOdd_eq_ofIntWithPrec.symm
 rw[h1]
 exact⟨rfl,Int.neg_neg e⟩
theorem tz_int{m:Int}(h:m≠0): ∃o:Int,m=o*2^tz m.natAbs∧o % 2=1:=by
 obtain⟨q,hq⟩:=tz_spec (v:=m.natAbs) (by omega)
 generalize tz m.natAbs=t at *
 rcases Int.natAbs_eq m with h1|h1
 ·refine⟨2*q+1,?_,by omega⟩
  rw[h1,hq];simp[Int.mul_comm]
 ·refine⟨-(2*q+1),?_,by omega⟩
  rw[h1,hq,Int.neg_mul];simp[Int.mul_comm]
theorem dm_dy{m:Int}(e:Int)(h:m≠0): dm (dy m e)=m / 2^tz m.natAbs∧de (dy m e)=e+tz m.natAbs:=by
 obtain⟨o,ho,h2⟩:=tz_int h
 generalize tz m.natAbs=t at *
 have h3:dy m e=dy o (e+t):=by rw[ho];exact dy_shl o e t
 have h4:=dy_of_odd (e+t) h2
 rw[h3,h4.1,h4.2]
 refine⟨?_,rfl⟩
 rw[ho,Int.mul_ediv_cancel _ (Int.ne_of_gt (Int.pow_pos (by decide)))]
theorem dy_sub(m n e:Int): dy m e-dy n e=dy (m-n) e:=by
 apply dy_ext
 rw[Dyadic.toRat_sub,dy_rat,dy_rat,dy_rat,Rat.intCast_sub];grind
theorem dy_lt{m n e:Int}: dy m e<dy n e↔m<n:=by
 rw[← Dyadic.toRat_lt_toRat_iff,dy_rat,dy_rat,Rat.mul_lt_mul_right (Rat.zpow_pos (by decide)),Rat.intCast_lt_intCast]
def dsgn(x:Dyadic): Int:=sgn (dm x)
theorem sgn_mul_pow(m:Int)(k:Nat): sgn (m*2^k)=sgn m:=by
 have h:sgn ((2:Int)^k)=1:=by
  have:=Int.pow_pos (n:=2) (m:=k) (by decide)
  unfold sgn;rw[if_neg (by omega),if_neg (by omega)]
 rw[sgn_mul,h,Int.mul_one]
theorem dsgn_dy(m e:Int): dsgn (dy m e)=sgn m:=by
 unfold dsgn
 by_cases h:m=0
 ·subst h;rw[dy_zero];rfl
 ·obtain⟨o,ho,h2⟩:=tz_int h
  generalize tz m.natAbs=t at *
  rw[ho,dy_shl,(dy_of_odd (e+t) h2).1,sgn_mul_pow]
theorem dsgn_lt{x:Dyadic}: dsgn x<0↔x<0:=by
 rw[← dy_dm x,dsgn_dy,sgn_lt,← dy_zero (de x),dy_lt]
theorem dsgn_gt{x:Dyadic}: 0<dsgn x↔0<x:=by
 rw[← dy_dm x,dsgn_dy,sgn_gt,← dy_zero (de x),dy_lt]
theorem dsgn_eq{x:Dyadic}: dsgn x=0↔x=0:=by
 unfold dsgn;rw[sgn_eq,dm_zero]
theorem dsgn_bd(x:Dyadic): -1≤dsgn x∧dsgn x≤1:=sgn_bd _
