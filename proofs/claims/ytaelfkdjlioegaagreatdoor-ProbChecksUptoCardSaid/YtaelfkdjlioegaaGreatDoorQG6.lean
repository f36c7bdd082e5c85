/- The walks and plain laws beneath the statements. -/
import Derived.Test.YtaelfkdjlioegaaGreatDoorQG4
import Derived.BigQuiet
import Derived.Deep.QuietTactic
import Derived.Test.YtaelfkdjlioegaaGreatDoorQG5
import Derived.StillTailTactics
namespace Go.Proofs.YtaelfkdjlioegaaGreatDoor
open Tryz
set_option maxHeartbeats 4000000
set_option maxRecDepth 100000
open Go.RowKit
variable{m z y:Int}{n T S L:Nat}{w:World}{f:Nat→Int}{x:Dyadic}
theorem Nf{k:IntKind}{a b:Int}(h:a=b): Ending.returned (.int k a)=.returned (.int k b):=by rw[h]
theorem Hc(A A':Option Addr)(n n' c c' u v:Nat)(w:World)(hn:n≤4294967296)(hn':n'≤4294967296)(hnc:n≤c)(hnc':n'≤c')(hu:u<LB^n)(hv:v<LB^n')(hr:Rd w A n fun j=>.int .u64 (Ql LB u j:Nat))(hr':Rd w A' n' fun j=>.int .u64 (Ql LB v j:Nat)):
    Calls prog 183 #[.slice A n c,.slice A' n' c'] w fun e w'=>e=.returned (.int .i64 (YM u v))∧∃k,w'=w.drewN k:=by
  have hk:nd 64 u≤n:=QU (by decide) hu
  have hk':nd 64 v≤n':=QU (by decide) hv
  have HU:=Lib.hid hu
  have HV:=Lib.hid hv
  have c1:=Lib.hid (fun W (h:Rd W A n fun j=>.int .u64 (Ql LB u j:Nat))=>ZU A n c u W (by omega) hnc hu h)
  have c2:=Lib.hid (fun W (h:Rd W A' n' fun j=>.int .u64 (Ql LB v j:Nat))=>ZU A' n' c' v W (by omega) hnc' hv h)
  clear hu hv
  by_cases hlen:nd 64 u=nd 64 v
  · have hb:(((nd 64 u:Nat):Int) != ((nd 64 v:Nat):Int))=false:=by rw[hlen];simp
    have HL:=Lib.hid hlen
    have hk2:nd 64 u≤n':=by omega
    obtain⟨k0,hk0⟩:∃k0,k0=nd 64 v:=⟨_,rfl⟩
    rw[hlen]at c1 hb
    rw[hlen]at hk
    rw[← hk0]at c1 c2 hb hk hk'
    have HK:=Lib.hid hk0
    clear hlen hk0 hk2
    go_enter func183,ntmps183
    go_wp2_with fail
    refine(c1.out _ hr).mono ?_
    rintro e w' ⟨rfl,rfl⟩
    go_wp2_with fail
    refine(c2.out _ hr').mono ?_
    rintro e w' ⟨rfl,rfl⟩
    go_wp2
    go_loopw [5] (fun i wr=>∃k:Nat,k≤k0∧i=.int .i64 ((k:Int)-1)∧Hid (∀j,k≤j→j<k0→Ql LB u j=Ql LB v j)∧∃m,wr=w.drewN m) (fun i _=>(intOf i+1).toNat)
    case atStart=>exact⟨k0,L3 _,rfl,fun j h1 h2=>by omega,0,rfl⟩
    case round =>
      obtain⟨k,hk1,rfl,hz,m,rfl⟩:=hrel
      rcases k with _|p
      · have hfin:=Lib.hid (show YM u v=0 by
          have e:u=v:=by
            refine Vk (B:=LB) (n:=k0) ?_ ?_ (fun j hj=>hz.out j (L9 _) hj)
            · rw[HK.out,← HL.out];exact X8 u
            · rw[HK.out];exact X8 v
          subst e;unfold YM;simp)
        have e0:((0:Nat):Int)-1=-1:=rfl
        rw[e0]
        go_wp2
        go_ret
        exact⟨by rw[hfin.out];rfl,m,rfl⟩
      · have e0:((p+1:Nat):Int)-1=(p:Int):=by omega
        rw[e0]
        clear e0
        obtain⟨b,off,rfl,hc1⟩:=hr (by omega)
        obtain⟨b',off',rfl,hc2⟩:=hr' (by omega)
        have g1:w.cell? ⟨b,off+p,none⟩=some (.int .u64 (Ql LB u p:Nat)):=hc1 p (by omega)
        have g2:w.cell? ⟨b',off'+p,none⟩=some (.int .u64 (Ql LB v p:Nat)):=hc2 p (by omega)
        clear hc1 hc2
        have hgt:∀a b:Nat,a<LB^k0→b<LB^k0→(∀j,p+1≤j→j<k0→Ql LB a j=Ql LB b j)→Ql LB a p<Ql LB b p→a<b:=fun a b ha hb hz hd =>
          BA Qu ha hb hk1 (fun j h1 h2=>hz j h1 h2) hd
        have hu:u<LB^k0:=by rw[HK.out,← HL.out];exact X8 u
        have hv:v<LB^k0:=by rw[HK.out];exact X8 v
        have HG:=Lib.hid (show(Ql LB u p<Ql LB v p→YM u v=-1)∧(Ql LB v p<Ql LB u p→YM u v=1)from
          ⟨fun h=>by have:=hgt u v hu hv hz.out h;unfold YM;rw[if_pos this],
           fun h=>by have:=hgt v u hv hu (fun j h1 h2=>(hz.out j h1 h2).symm) h;unfold YM;rw[if_neg (by omega),if_neg (by omega)]⟩)
        clear hgt hu hv
        rcases Nat.lt_trichotomy (Ql LB u p) (Ql LB v p)with hd|hd|hd
        · have hd1:((Ql LB u p:Nat):Int)<((Ql LB v p:Nat):Int):=by omega
          have hfin:=Lib.hid (HG.out.1 hd)
          clear hd
          go_wp2
          go_quiet (fail)
          go_wp2
          go_ret
          exact⟨by rw[hfin.out];rfl,by simp only[World.drewN_drewN];exact⟨_,rfl⟩⟩
        · have hd1:¬((Ql LB u p:Nat):Int)<((Ql LB v p:Nat):Int):=by omega
          have hd2:¬((Ql LB v p:Nat):Int)<((Ql LB u p:Nat):Int):=by omega
          have HD:=Lib.hid hd
          clear hd
          go_wp2
          go_quiet (fail)
          go_wp2
          go_quiet (fail)
          go_wp2
          refine⟨⟨p,by omega,rfl,fun j h1 h2=>?_,_,rfl⟩,by simp[intOf]⟩
          by_cases e:j=p
          · subst e;exact HD.out
          · exact hz.out j (by omega) h2
        · have hd1:¬((Ql LB u p:Nat):Int)<((Ql LB v p:Nat):Int):=by omega
          have hd2:((Ql LB v p:Nat):Int)<((Ql LB u p:Nat):Int):=by omega
          have hfin:=Lib.hid (HG.out.2 hd)
          clear hd
          go_wp2
          go_quiet (fail)
          go_wp2
          go_quiet (fail)
          go_wp2
          go_ret
          exact⟨by rw[hfin.out];rfl,by simp only[World.drewN_drewN];exact⟨_,rfl⟩⟩
  · have hb:(((nd 64 u:Nat):Int) != ((nd 64 v:Nat):Int))=true:=by rw[bne_iff_ne];omega
    have hb2:(((nd 64 u:Nat):Int)==((nd 64 v:Nat):Int))=false:=R6.2 (by omega)
    clear hlen
    by_cases hlt:nd 64 u<nd 64 v
    · have hfin:=Lib.hid (show YM u v=-1 by unfold YM;rw[if_pos (Ae (k:=64) (by decide) hlt)])
      go_enter func183,ntmps183
      go_wp2_with fail
      refine(c1.out _ hr).mono ?_
      rintro e w' ⟨rfl,rfl⟩
      go_wp2_with fail
      refine(c2.out _ hr').mono ?_
      rintro e w' ⟨rfl,rfl⟩
      go_wp2
      go_ret
      exact⟨by rw[hfin.out];rfl,0,rfl⟩
    · have hgt:¬((nd 64 u:Nat):Int)<((nd 64 v:Nat):Int):=by omega
      have hfin:=Lib.hid (show YM u v=1 by
        have:=Ae (k:=64) (u:=v) (v:=u) (by decide) (by have:=of_decide_eq_true (p:=True) rfl;have h3:=R6.1 hb2;omega)
        unfold YM;rw[if_neg (by omega),if_neg (by omega)])
      go_enter func183,ntmps183
      go_wp2_with fail
      refine(c1.out _ hr).mono ?_
      rintro e w' ⟨rfl,rfl⟩
      go_wp2_with fail
      refine(c2.out _ hr').mono ?_
      rintro e w' ⟨rfl,rfl⟩
      go_wp2
      go_ret
      exact⟨by rw[hfin.out];rfl,0,rfl⟩
theorem O6(A:Option Addr)(n c v:Nat)(w:World)(hn:n≤4294967296)(hnc:n≤c)(hv:v<LB^n)(hr:Rd w A n fun j=>.int .u64 (Ql LB v j:Nat)):
  Calls prog 171 #[.slice A n c] w fun e w'=>e=.returned (.int .i64 (nd 1 v:Nat))∧w=w':=by
 have hk:nd 64 v≤n:=QU (by decide) hv
 have c1:=Lib.hid (ZU A n c v w (by omega) hnc hv hr)
 by_cases h0:v=0
 ·subst h0
  rw[Gk]at c1
  go_enter func171,ntmps171
  go_wp2_with fail
  refine c1.out.mono ?_
  rintro e w' ⟨rfl,rfl⟩
  go_wp2
  go_ret
  exact⟨rfl,rfl⟩
 ·have hp:=Y8 (k:=64) h0
  have htop:=PN h0
  obtain⟨b,off,rfl,hc⟩:=hr (by omega)
  obtain⟨q,hq⟩:∃q,nd 64 v=q+1:=⟨nd 64 v-1,by omega⟩
  rw[hq,Tf]at htop
  rw[hq]at c1 hk
  have hlt:Ql LB v q<18446744073709551616:=Q8 Qu v q
  have g1:w.cell? ⟨b,off+q,none⟩=some (.int .u64 (Ql LB v q:Nat)):=hc q (by omega)
  have c2:=Lib.hid (Tryz.bits_LeadingZeros64 (Ql LB v q:Nat) w (by omega) (by omega))
  have h1:Lib.bitLen ((Ql LB v q:Nat):Int).toNat=nd 1 (Ql LB v q):=by rw[Ro,BF _ hlt]
  have hb:nd 1 (Ql LB v q)≤64:=QU (by decide) (by simpa using hlt)
  have H1:=Lib.hid h1
  have HT:=Lib.hid htop
  clear hc hr hv hq hp h1 htop h0 hlt
  go_enter func171,ntmps171
  go_wp2_with fail
  refine c1.out.mono ?_
  rintro e w' ⟨rfl,rfl⟩
  go_wp2_with fail
  refine c2.out.mono ?_
  rintro e w' ⟨rfl,rfl⟩
  rw[H1.out]
  go_wp2
  go_ret
  exact⟨Nf (by rw[HT.out];omega),rfl⟩
theorem V0(A:Option Addr)(n c v:Nat)(w:World)(hn:n≤4294967296)(hnc:n≤c)(hv:v<LB^n)(hr:Rd w A n fun j=>.int .u64 (Ql LB v j:Nat)):
  Calls prog 168 #[.slice A n c] w fun e w'=>e=.returned (.string (Qx v))∧Below w.heap.size w w':=by
 have hk:nd 64 v≤n:=QU (by decide) hv
 have hv2:=X8 v
 have c1:=Lib.hid (ZU A n c v w (by omega) hnc hv hr)
 have hr2:=hr.of_le hk
 obtain⟨k0,hk0⟩:∃k,k=nd 64 v:=⟨_,rfl⟩
 have h8:=My v
 rw[← hk0]at c1 hr2 hv2 hk
 have c2:=Lib.hid (O6 A k0 c v w (by omega) (by omega) hv2 hr2)
 have hb:nd 8 v≤8*k0:=QU (by decide) (by rw[Xj];rw[Xn,Xj]at hv2;rwa [show 8*(8*k0)=64*k0 by omega])
 obtain⟨N,hN⟩:∃N,N=nd 8 v:=⟨_,rfl⟩
 rw[← hN]at h8 hb
 have HL:=Lib.hid (show(((nd 1 v:Nat):Int)+7) / 8=(N:Int)by omega)
 have HE:=Lib.hid h8
 have hLle:(((nd 1 v:Nat):Int)+7) / 8≤(N:Int):=by omega
 have hLge:(N:Int)≤(((nd 1 v:Nat):Int)+7) / 8:=by omega
 have hl:nd 1 v≤64*k0:=QU (by decide) (by rw[Rn];rwa [Xn,Xj]at hv2)
 have hb2:1*N≤281474976710656:=by omega
 have hb3:N≤9223372036854775807:=by omega
 have HN:=Lib.hid hN
 have HK:=Lib.hid hk0
 clear hk0 hN h8 hv hv2
 go_enter func168,ntmps168
 go_wp2_with fail
 refine c1.out.mono ?_
 rintro e w' ⟨rfl,rfl⟩
 go_wp2_with fail
 refine c2.out.mono ?_
 rintro e w' ⟨rfl,rfl⟩
 go_wp2_with (at_make;refine Q1 rfl (.tmp 12) (.tmp 12) _ rfl 5 (.int .u8 0) 1 X7 Kw rfl .i64 .i64 _ _ N rfl rfl HL.out HL.out hb2 hb3 ?_;intro w1 hC hB hlt)
 go_loopw [15] (fun i wr=>∃k:Nat,k≤N∧i=.int .i64 k∧Below w.heap.size w wr∧Cel wr w.heap.size 5 N (fun j=>.int .u8 ((if N≤j+k then Ql 256 v (N-1-j)else 0:Nat):Int))) (fun i _=>N-(intOf i).toNat)
 case atStart=>exact⟨0,L9 _,rfl,hB,hC.congr fun j hj=>by rw[if_neg (by omega)];rfl⟩
 case round =>
  obtain⟨k,hk1,rfl,hB2,hC2⟩:=hrel
  by_cases hlt:k<N
  ·obtain⟨q,hq⟩:∃q,q=k / 8:=⟨_,rfl⟩
   obtain⟨r,hr8⟩:∃r,r=k % 8:=⟨_,rfl⟩
   have hqk:q<k0:=by omega
   obtain⟨b,off,rfl,hc⟩:=hr2 (by omega)
   have g1:wr.cell? ⟨b,off+q,none⟩=some (.int .u64 (Ql LB v q:Nat)):=L7 hB2 (hc q hqk)
   obtain⟨d,hd⟩:∃d,N=k+d+1:=⟨N-k-1,by omega⟩
   have hdN:d<N:=by omega
   have e1:(nd 1 v+7) / 8-1-k=d:=by have:=HE.out;omega
   have g2:=hC2.cell (i:=(nd 1 v+7) / 8-1-k) (by omega)
   have g3:=hC2.frozen ((nd 1 v+7) / 8-1-k)
   have HEQ:=Lib.hid e1
   clear e1
   have e2:(k:Int) / 8=(q:Int):=by omega
   have e3:(k:Int) % 8=(r:Int):=by omega
   have e4:((Ql LB v q:Nat):Int) / 2^(r*8) % 256=((Ql 256 v k:Nat):Int):=by
    rw[← Nu v k,← hq,← hr8,show(2:Int)^(r*8)=((2^(r*8):Nat):Int)by simp]
    rfl
   have hr7:r<8:=by omega
   have HQ:=Lib.hid (show k=8*q+r by omega)
   have HD:=Lib.hid hd
   clear hq hr8 hd hc
   go_wp2
   rw[HEQ.out]
   refine⟨⟨k+1,hlt,by go_num,hB2.setCell (L3 _) _,(hC2.set_ d _).congr fun j hj=>?_⟩,by simp[intOf];omega⟩
   have:=HD.out
   by_cases e:j=d
   ·subst e;simp only[if_true];rw[if_pos (by omega),show N-1-j=k by omega]
   ·simp only[if_neg e]
    by_cases e2:N≤j+k
    ·rw[if_pos e2,if_pos (by omega)]
    ·rw[if_neg e2,if_neg (by omega)]
  ·obtain rfl:k=N:=by omega
   have hrd:=(hC2.rd (o:=0) (n:=k) (by omega)).congr (f':=fun j=>.int .u8 ((Ql 256 v (k-1-j):Nat):Int)) (fun j hj=>by simp only[Ld];rw[if_pos (by omega)])
   have hcv:=Vm (P:=prog) 104 9 5 X7 Tryz.underlying5 Tryz.underlying9 (some ⟨w.heap.size,0,none⟩) k k (fun j=>Ql 256 v (k-1-j)) hrd
   have hn8:(⟨((List.range k).map fun j=>UInt8.ofNat (Ql 256 v (k-1-j))).toArray⟩:ByteArray)=Qx v:=by unfold Qx YA;rw[← HN.out]
   rw[hn8]at hcv
   clear hn8 hrd hC2
   go_wp2
   go_ret
   exact⟨rfl,hB2⟩
def QQ(v j:Nat): Value:=.int .u64 (Ql LB v j:Nat)
theorem FI(x y k:Nat)(w:World): (callFunc 203 #[.int .u64 (Ql LB x k:Nat),.int .u64 (Ql LB y k:Nat),.int .u64 (Ys LB x y k:Nat)]).run prog w =
  .ok (.value (.tuple #[.int .u64 (Ql LB (x+y) k:Nat),.int .u64 (Ys LB x y (k+1):Nat)])) w:=by
 rw[Tryz.bits_Add64 _ _ _ (Eb Qu x y k) w,Ip Qu x y k,CF Qu x y k];rfl
theorem Fz(x y k:Nat)(h:y≤x)(w:World): (callFunc 204 #[.int .u64 (Ql LB x k:Nat),.int .u64 (Ql LB y k:Nat),.int .u64 (XZ LB x y k:Nat)]).run prog w =
  .ok (.value (.tuple #[.int .u64 (Ql LB (x-y) k:Nat),.int .u64 (XZ LB x y (k+1):Nat)])) w:=by
 rw[Tryz.bits_Sub64 _ _ _ (Fp LB x y k) w,Pi Qu h k,Al Qu x y k];rfl
theorem C9(a b:Nat)(w:World): (callFunc 203 #[.int .u64 (a:Nat),.int .u64 (b:Nat),.int .u64 0]).run prog w =
 .ok (.value (.tuple #[.int .u64 ((a+b) % 18446744073709551616:Nat),.int .u64 ((a+b) / 18446744073709551616:Nat)])) w:=Tryz.bits_Add64 a b 0 (by omega) w
theorem NM(x y k:Nat)(hd:Ql LB y k=0)(w:World): (callFunc 203 #[.int .u64 (Ql LB x k:Nat),.int .u64 0,.int .u64 (Ys LB x y k:Nat)]).run prog w =
  .ok (.value (.tuple #[.int .u64 (Ql LB (x+y) k:Nat),.int .u64 (Ys LB x y (k+1):Nat)])) w:=by
 have:=FI x y k w
 rw[hd]at this
 exact this
theorem NF(x y k:Nat)(h:y≤x)(hd:Ql LB y k=0)(w:World): (callFunc 204 #[.int .u64 (Ql LB x k:Nat),.int .u64 0,.int .u64 (XZ LB x y k:Nat)]).run prog w =
  .ok (.value (.tuple #[.int .u64 (Ql LB (x-y) k:Nat),.int .u64 (XZ LB x y (k+1):Nat)])) w:=by
 have:=Fz x y k h w
 rw[hd]at this
 exact this
theorem iH(g o n c T n' c' x y:Nat)(A':Option Addr)(f:Nat→Value)(w:World)(hn:n≤4294967296)(hT:o+n≤T)(hC:Cel w g 119 T (G8 o n (QQ x) f))(hn':n'≤4294967296)(hy:y<LB^n')(hr:Rd w A' n' (QQ y))(ho:Off A' g):
  Calls prog 197 #[.slice (some ⟨g,o,none⟩) n c,.slice A' n' c'] w fun e w'=>e=.returned (.tuple #[])∧w.grownBy w' (some g)∧Cel w' g 119 T (G8 o n (QQ (x+y)) f):=by
 go_enter func197,ntmps197
 go_wp2
 go_loopw [4,9] (fun cy i wr=>∃k:Nat,k≤n∧i=.int .i64 k∧cy=.int .u64 (Ys LB x y k:Nat)∧w.grownBy wr (some g)∧Cel wr g 119 T (G8 o n (fun j=>if j<k then QQ (x+y) j else QQ x j) f))
  (fun _ i _=>n-(intOf i).toNat)
 case atStart=>exact⟨0,L9 _,rfl,by rw[ED];rfl,World.grownBy.refl _ _,hC.congr fun j _=>J4 (fun i _=>by rw[if_neg (by omega)]) j⟩
 case round =>
  obtain⟨k,hk,rfl,rfl,hg,hC2⟩:=hrel
  by_cases hlt:k<n
  ·have g1:wr.cell? ⟨g,o+k,none⟩=some (.int .u64 (Ql LB x k:Nat)):=by rw[hC2.cell (by omega),BV hlt,if_neg (by omega)];rfl
   have g2:=hC2.frozen (o+k)
   have hadd:=FI x y k
   have hr2:=hr.grown hg ho
   by_cases hlt2:k<n'
   ·obtain⟨b,off,rfl,hc⟩:=hr2 (by omega)
    have g3:wr.cell? ⟨b,off+k,none⟩=some (.int .u64 (Ql LB y k:Nat)):=hc k hlt2
    clear hc
    go_wp2
    exact⟨⟨k+1,hlt,by go_num,rfl,Ym hg (Or.inl rfl) _,(hC2.set_ (o+k) _).congr fun j _=>GM hlt (by simp only[T8,if_true];rfl) (fun j h1 h2=>by
     by_cases h3:j<k
     ·rw[if_pos h3,if_pos (by omega)]
     ·rw[if_neg h3,if_neg (by omega)]) j⟩,by simp[intOf];omega⟩
   ·have hd:Ql LB y k=0:=Yu Qu hy (by omega)
    clear hadd
    have hadd:=NM x y k hd
    clear hd
    go_wp2
    exact⟨⟨k+1,hlt,by go_num,rfl,Ym hg (Or.inl rfl) _,(hC2.set_ (o+k) _).congr fun j _=>GM hlt (by simp only[T8,if_true];rfl) (fun j h1 h2=>by
     by_cases h3:j<k
     ·rw[if_pos h3,if_pos (by omega)]
     ·rw[if_neg h3,if_neg (by omega)]) j⟩,by simp[intOf];omega⟩
  ·obtain rfl:k=n:=by omega
   go_wp2
   go_end0
   exact⟨rfl,hg,hC2.congr fun j _=>J4 (fun i hi=>by rw[if_pos hi]) j⟩
theorem MD(g o n c T n' c' x y:Nat)(A':Option Addr)(f:Nat→Value)(w:World)(hn:n≤4294967296)(hT:o+n≤T)(hC:Cel w g 119 T (G8 o n (QQ x) f))(hn':n'≤4294967296)(hy:y<LB^n')(hyx:y≤x)(hx:x<LB^n)(hr:Rd w A' n' (QQ y))(ho:Off A' g):
  Calls prog 196 #[.slice (some ⟨g,o,none⟩) n c,.slice A' n' c'] w fun e w'=>e=.returned (.bool true)∧w.grownBy w' (some g)∧Cel w' g 119 T (G8 o n (QQ (x-y)) f):=by
 go_enter func196,ntmps196
 go_wp2
 go_loopw [5,10] (fun cy i wr=>∃k:Nat,k≤n∧i=.int .i64 k∧cy=.int .u64 (XZ LB x y k:Nat)∧w.grownBy wr (some g)∧Cel wr g 119 T (G8 o n (fun j=>if j<k then QQ (x-y) j else QQ x j) f))
  (fun _ i _=>n-(intOf i).toNat)
 case atStart=>exact⟨0,L9 _,rfl,by rw[Aa];rfl,World.grownBy.refl _ _,hC.congr fun j _=>J4 (fun i _=>by rw[if_neg (by omega)]) j⟩
 case round =>
  obtain⟨k,hk,rfl,rfl,hg,hC2⟩:=hrel
  by_cases hlt:k<n
  ·have g1:wr.cell? ⟨g,o+k,none⟩=some (.int .u64 (Ql LB x k:Nat)):=by rw[hC2.cell (by omega),BV hlt,if_neg (by omega)];rfl
   have g2:=hC2.frozen (o+k)
   have hadd:=Fz x y k hyx
   have hr2:=hr.grown hg ho
   by_cases hlt2:k<n'
   ·obtain⟨b,off,rfl,hc⟩:=hr2 (by omega)
    have g3:wr.cell? ⟨b,off+k,none⟩=some (.int .u64 (Ql LB y k:Nat)):=hc k hlt2
    clear hc
    go_wp2
    exact⟨⟨k+1,hlt,by go_num,rfl,Ym hg (Or.inl rfl) _,(hC2.set_ (o+k) _).congr fun j _=>GM hlt (by simp only[T8,if_true];rfl) (fun j h1 h2=>by
     by_cases h3:j<k
     ·rw[if_pos h3,if_pos (by omega)]
     ·rw[if_neg h3,if_neg (by omega)]) j⟩,by simp[intOf];omega⟩
   ·have hd:Ql LB y k=0:=Yu Qu hy (by omega)
    clear hadd
    have hadd:=NF x y k hyx hd
    clear hd
    go_wp2
    exact⟨⟨k+1,hlt,by go_num,rfl,Ym hg (Or.inl rfl) _,(hC2.set_ (o+k) _).congr fun j _=>GM hlt (by simp only[T8,if_true];rfl) (fun j h1 h2=>by
     by_cases h3:j<k
     ·rw[if_pos h3,if_pos (by omega)]
     ·rw[if_neg h3,if_neg (by omega)]) j⟩,by simp[intOf];omega⟩
  ·obtain rfl:k=n:=by omega
   have hb0:XZ LB x y k=0:=by unfold XZ;rw[Lz hx,Lz (Lu hyx hx),if_neg (by omega)]
   rw[hb0]
   clear hb0 hx hy hyx
   go_wp2
   go_ret
   exact⟨rfl,hg,hC2.congr fun j _=>J4 (fun i hi=>by rw[if_pos hi]) j⟩
theorem SU{d m:Nat}(hd:d<LB)(hm:m<LB): d*m≤340282366920938463426481119284349108225:=by
 have:=Nat.mul_le_mul (Nat.le_pred_of_lt hd) (Nat.le_pred_of_lt hm)
 exact this
theorem UG{d m cy xk:Nat}(hd:d<LB)(hm:m<LB)(hc:cy<LB)(_hx:xk<LB):
  d*m / 18446744073709551616+(d*m % 18446744073709551616+cy) / 18446744073709551616<LB ∧
  (xk+(d*m % 18446744073709551616+cy) % 18446744073709551616) % 18446744073709551616=(xk+d*m+cy) % LB ∧
  d*m / 18446744073709551616+(d*m % 18446744073709551616+cy) / 18446744073709551616+(xk+(d*m % 18446744073709551616+cy) % 18446744073709551616) / 18446744073709551616=(xk+d*m+cy) / LB:=by
 have h:=SU hd hm
 generalize d*m=p at *
 simp only[YW]at *
 refine⟨?_,?_,?_⟩<;>omega
theorem Ei(g o n c T n' c' x y m:Nat)(A':Option Addr)(f:Nat→Value)(w:World)(hn:n≤4294967296)(hT:o+n≤T)(hC:Cel w g 119 T (G8 o n (QQ x) f))(hn':n'≤4294967296)(hm:m<LB)(hy:y<LB^n')(hr:Rd w A' n' (QQ y))(ho:Off A' g):
  Calls prog 193 #[.slice (some ⟨g,o,none⟩) n c,.slice A' n' c',.int .u64 m] w fun e w'=>e=.returned (.tuple #[])∧w.grownBy w' (some g)∧Cel w' g 119 T (G8 o n (QQ (x+y*m)) f):=by
 have HM:=Lib.hid hm
 clear hm
 go_enter func193,ntmps193
 go_wp2
 go_loopw [6,14] (fun cy i wr=>∃k:Nat,k≤n∧i=.int .i64 k∧cy=.int .u64 (Ze LB x y m k:Nat)∧w.grownBy wr (some g)∧Cel wr g 119 T (G8 o n (fun j=>if j<k then QQ (x+y*m) j else QQ x j) f))
  (fun _ i _=>n-(intOf i).toNat)
 case atStart=>exact⟨0,L9 _,rfl,by rw[Nk];rfl,World.grownBy.refl _ _,hC.congr fun j _=>J4 (fun i _=>by rw[if_neg (by omega)]) j⟩
 case round =>
  obtain⟨k,hk,rfl,rfl,hg,hC2⟩:=hrel
  by_cases hlt:k<n
  ·have g1:wr.cell? ⟨g,o+k,none⟩=some (.int .u64 (Ql LB x k:Nat)):=by rw[hC2.cell (by omega),BV hlt,if_neg (by omega)];rfl
   have g2:=hC2.frozen (o+k)
   have hr2:=hr.grown hg ho
   obtain⟨d,hd⟩:∃d,d=Ql LB y k:=⟨_,rfl⟩
   have hdl:d<LB:=by rw[hd];exact Q8 Qu _ _
   obtain⟨s1,s2,s3⟩:=UG hdl HM.out (Fe Qu HM.out x y k) (Q8 Qu x k)
   have t2:=Ny Qu x y m k
   have t3:=MN Qu x y m k
   rw[← hd]at t2 t3
   rw[← t2]at s2
   rw[← t3]at s3
   have cm:=Tryz.bits_Mul64 d m hdl HM.out wr
   have ca:=C9 (d*m % 18446744073709551616) (Ze LB x y m k) wr
   have cb:=C9 (Ql LB x k) ((d*m % 18446744073709551616+Ze LB x y m k) % 18446744073709551616) wr
   rw[s2]at cb
   generalize (d*m % 18446744073709551616+Ze LB x y m k) % 18446744073709551616=lo2 at *
   generalize (d*m % 18446744073709551616+Ze LB x y m k) / 18446744073709551616=c2 at *
   generalize (Ql LB x k+lo2) / 18446744073709551616=c3 at *
   generalize d*m % 18446744073709551616=lo at *
   generalize d*m / 18446744073709551616=hi at *
   have w1:IntKind.u64.wrap ((hi:Int)+(c2:Int))=((hi+c2:Nat):Int):=by rw[IntKind.wrap_u64];rw[YW]at s1;omega
   have h3:=Fe Qu HM.out x y (k+1)
   obtain⟨h2,hh2⟩:∃h2,h2=hi+c2:=⟨_,rfl⟩
   rw[← hh2]at w1 s3
   have w2:IntKind.u64.wrap ((h2:Int)+(c3:Int))=((Ze LB x y m (k+1):Nat):Int):=by rw[IntKind.wrap_u64,← s3];rw[← s3,YW]at h3;omega
   have CM:=Lib.hid cm
   clear s1 s2 s3 t2 t3 h3 hh2 cm
   by_cases hlt2:k<n'
   ·obtain⟨b,off,rfl,hc⟩:=hr2 (by omega)
    have g3:wr.cell? ⟨b,off+k,none⟩=some (.int .u64 (d:Nat)):=by rw[hd];exact hc k hlt2
    clear hc hd hdl
    go_wp2_with (go_at_call 202;refine CM.out.mono ?_;rintro e w' ⟨rfl,rfl⟩)
    exact⟨⟨k+1,hlt,by go_num,rfl,Ym hg (Or.inl rfl) _,(hC2.set_ (o+k) _).congr fun j _=>GM hlt (by simp only[T8,if_true];rfl) (fun j h1 h2=>by
     by_cases h3:j<k
     ·rw[if_pos h3,if_pos (by omega)]
     ·rw[if_neg h3,if_neg (by omega)]) j⟩,by simp[intOf];omega⟩
   ·have hd0:d=0:=by rw[hd];exact Yu Qu hy (by omega)
    clear hd hdl
    subst hd0
    have CM0:Hid (Calls prog 202 #[.int .u64 0,.int .u64 m] wr fun e w'=>e=.returned (.tuple #[.int .u64 hi,.int .u64 lo])∧w'=wr):=CM
    clear CM
    have CM:=CM0
    clear CM0
    go_wp2_with (go_at_call 202;refine CM.out.mono ?_;rintro e w' ⟨rfl,rfl⟩)
    exact⟨⟨k+1,hlt,by go_num,rfl,Ym hg (Or.inl rfl) _,(hC2.set_ (o+k) _).congr fun j _=>GM hlt (by simp only[T8,if_true];rfl) (fun j h1 h2=>by
     by_cases h3:j<k
     ·rw[if_pos h3,if_pos (by omega)]
     ·rw[if_neg h3,if_neg (by omega)]) j⟩,by simp[intOf];omega⟩
  ·obtain rfl:k=n:=by omega
   go_wp2
   go_end0
   exact⟨rfl,hg,hC2.congr fun j _=>J4 (fun i hi=>by rw[if_pos hi]) j⟩
theorem Om(A:Option Addr)(n c v sh:Nat)(w:World)(hn:n≤4294967296)(hnc:n≤c)(hsh:sh≤68719476736)(hv:v<LB^n)(hr:Rd w A n (QQ v)):
  Calls prog 167 #[.slice A n c,.int .i64 (sh:Nat)] w fun e w'=>∃g N,e=.returned (.slice (some ⟨g,0,none⟩) (nd 64 (v*2^sh)) N)∧w.heap.size≤g∧Below w.heap.size w w' ∧
   Cel w' g 119 N (QQ (v*2^sh))∧N=n+sh / 64+1:=by
 obtain⟨q,hq⟩:∃q,q=sh / 64:=⟨_,rfl⟩
 obtain⟨s,hs⟩:∃s,s=sh % 64:=⟨_,rfl⟩
 have hqs:sh=64*q+s:=by omega
 have e1:(sh:Int) / 64=(q:Int):=by omega
 have e2:(sh:Int) % 64=(s:Int):=by omega
 have e3:(sh:Int).tmod 64=(s:Int):=by rw[Sn (by omega)];exact e2
 have hs64:s<64:=by omega
 have hq2:q≤1073741824:=by omega
 rw[← hq]
 have HQ:=Lib.hid hqs
 have HV:=Lib.hid hv
 have hb2:8*(n+q+1)≤281474976710656:=by omega
 have hb3:n+q+1≤9223372036854775807:=by omega
 clear hq hs hqs hv
 go_enter func167,ntmps167
 go_wp2_with (at_make;refine Q1 rfl (.tmp 14) (.tmp 14) _ rfl 119 (.int .u64 0) 8 YJ Kf rfl .i64 .i64 _ _ (n+q+1) rfl rfl rfl rfl hb2 hb3 ?_;intro w1 hC hB hlt)
 go_loopw [18] (fun i wr=>∃k:Nat,k≤n∧i=.int .i64 k∧Below w.heap.size w wr∧Cel wr w.heap.size 119 (n+q+1) (QQ (v % LB^k*2^sh))) (fun i _=>n-(intOf i).toNat)
 case atStart=>exact⟨0,L9 _,rfl,hB,hC.congr fun j hj=>by unfold QQ;rw[Sl,Ty,Th,ZV];rfl⟩
 case round =>
  obtain⟨k,hk,rfl,hB2,hC2⟩:=hrel
  by_cases hlt:k<n
  ·obtain⟨b,off,rfl,hc⟩:=hr (by omega)
   have g1:wr.cell? ⟨b,off+k,none⟩=some (.int .u64 (Ql LB v k:Nat)):=L7 hB2 (hc k hlt)
   have g2:wr.cell? ⟨w.heap.size,k+q,none⟩=some (.int .u64 (Ql LB (v % LB^k*2^sh) (k+q):Nat)):=hC2.cell (i:=k+q) (by omega)
   have g3:=hC2.frozen (k+q)
   clear hc
   have hd:Ql LB v k<LB:=Q8 Qu v k
   have hU:v % LB^k*2^sh<LB^(k+q)*2^s:=by
    have h1:=Ly v (Nat.pow_pos (n:=k) Qu)
    rw[HQ.out,Ll 2,Ll LB,Xn,Xj 64 q,← Lw]
    exact R9 (R9 h1 (Lq _)) (Lq s)
   have hst:=lm hU hd hs64
   have hU2:v % LB^k*2^sh+LB^(k+q)*(2^s*Ql LB v k)=v % LB^(k+1)*2^sh:=by
    rw[YP,HQ.out,Ll 2,Ll LB,Xn,Xj 64 q,Rv]
    congr 1
    simp only[Lw,Nat.mul_left_comm,Lh]
   rw[hU2]at hst
   have ho:=NY (Ql LB (v % LB^k*2^sh) (k+q)) (Ql LB v k*2^s % LB) (Q8 Qu _ _) (Ly _ Qu)
   have hsl:=DM (Ql LB v k) s
   have hz:Ql LB (v % LB^k*2^sh) (k+q+1)=0:=by
    refine Yu (n:=k+q+1) Qu ?_ (L3 _)
    rw[Lx]
    exact Lb hU (Lt _ (by rw[Xn];exact Le (by decide) (by omega)))
   have HS:=Lib.hid hst
   have HZ:=Lib.hid hz
   obtain⟨d,hdd⟩:∃d,d=Ql LB v k:=⟨_,rfl⟩
   rw[← hdd]at g1 ho hsl
   obtain⟨lo,hlo⟩:∃lo,lo=d*2^s % LB:=⟨_,rfl⟩
   rw[← hlo]at ho hsl
   have hn1:(Ql LB (v % LB^k*2^sh) (k+q) ||| lo)=Ql LB (v % LB^(k+1)*2^sh) (k+q):=by rw[hst,if_pos rfl,← hdd,hlo]
   rw[hn1]at ho
   have hw1:IntKind.i64.wrap (s:Int)=(s:Int):=Ln _ (by omega)
   have hw2:IntKind.i64.wrap (64-(s:Int))=64-(s:Int):=Ln _ (by omega)
   have hw3:IntKind.i64.wrap ((k:Int)+(q:Int)+1)=(k:Int)+(q:Int)+1:=Ln _ (by omega)
   have b1:(0:Int)≤(k:Int)+(q:Int):=by omega
   have b2:(k:Int)+(q:Int)<(n:Int)+(q:Int)+1:=by omega
   have b3:((k:Int)+(q:Int)).toNat=k+q:=by omega
   have b4:(0:Int)≤(k:Int)+(q:Int)+1:=by omega
   have b5:(k:Int)+(q:Int)+1<(n:Int)+(q:Int)+1:=by omega
   have b6:((k:Int)+(q:Int)+1).toNat=k+q+1:=by omega
   have HD:=Lib.hid hdd
   have HL:=Lib.hid hlo
   clear hst hz hdd hlo hn1 hU2 hU hd
   go_wp2
   go_still_tail 10,(by kernel_rfl)
   change wpList _ _ _ _ _ wr.drew
   have hB3:=hB2.drew
   have hC3:=hC2.drew
   have g4:wr.drew.cell? ⟨w.heap.size,k+q,none⟩=some (.int .u64 (Ql LB (v % LB^k*2^sh) (k+q):Nat)):=hC3.cell (i:=k+q) (by omega)
   have g5:=hC3.frozen (k+q)
   clear hB2 hC2 g1 g2 g3
   generalize wr.drew=w2 at *
   by_cases hs0:0<s
   ·have hsr:(d:Int) / 2^(64-s)=((d / 2^(64-s):Nat):Int):=MV d (64-s)
    have ht6:(64-(s:Int)).toNat=64-s:=by omega
    have hor0:bits .or .u64 0 ((d / 2^(64-s):Nat):Int)=((d / 2^(64-s):Nat):Int):=by
     have hdl:d<LB:=by rw[HD.out];exact Q8 Qu v k
     have:=NY 0 (d / 2^(64-s)) Qu (Lu (Rl _ _) hdl)
     rw[Nat.zero_or]at this
     exact this
    obtain⟨hi,hhi⟩:∃hi,hi=d / 2^(64-s):=⟨_,rfl⟩
    rw[← hhi]at hsr hor0
    have HH:=Lib.hid hhi
    clear hhi
    have hC4:=hC3.set_ (k+q) (.int .u64 ((Ql LB (v % LB^(k+1)*2^sh) (k+q):Nat):Int))
    have hB4:=hB3.setCell (p:=⟨w.heap.size,k+q,none⟩) (L3 _) (.int .u64 ((Ql LB (v % LB^(k+1)*2^sh) (k+q):Nat):Int))
    have HC4:=Lib.hid hC4
    clear hC4
    go_wp2
    have hC5:=HC4.out
    clear HC4
    generalize w2.setCell ⟨w.heap.size,k+q,none⟩ (.int .u64 ((Ql LB (v % LB^(k+1)*2^sh) (k+q):Nat):Int))=w3 at *
    have g6:w3.cell? ⟨w.heap.size,k+q+1,none⟩=some (.int .u64 0):=by
     rw[hC5.cell (i:=k+q+1) (by omega),if_neg (by omega)];unfold QQ;rw[HZ.out];rfl
    have g7:=hC5.frozen (k+q+1)
    clear g4 g5 hC3
    go_still_tail 12,(by kernel_rfl)
    change wpList _ _ _ _ _ w3.drew
    have hB6:=hB4.drew
    have hC6:=hC5.drew
    have g8:w3.drew.cell? ⟨w.heap.size,k+q+1,none⟩=some (.int .u64 0):=g6
    have g9:=hC6.frozen (k+q+1)
    clear hB4 hC5 g6 g7
    generalize w3.drew=w4 at *
    go_wp2
    refine⟨⟨k+1,hlt,by go_num,hB6.setCell (L3 _) _,(hC6.set_ (k+q+1) _).congr fun j hj=>?_⟩,by simp[intOf];omega⟩
    have h1:=HS.out j
    unfold QQ
    rw[h1]
    by_cases a1:j=k+q+1
    ·subst a1;rw[if_pos rfl,if_neg (by omega),if_pos rfl,← HD.out,← HH.out]
    ·rw[if_neg a1,if_neg a1]
     by_cases a2:j=k+q
     ·subst a2;rw[if_pos rfl,if_pos rfl,HS.out (k+q),if_pos rfl]
     ·rw[if_neg a2,if_neg a2]
   ·go_wp2
    refine⟨⟨k+1,hlt,by go_num,hB3.setCell (L3 _) _,(hC3.set_ (k+q) _).congr fun j hj=>?_⟩,by simp[intOf];omega⟩
    have h1:=HS.out j
    unfold QQ
    by_cases a2:j=k+q
    ·subst a2;rw[if_pos rfl]
    ·rw[if_neg a2,h1,if_neg a2]
     by_cases a1:j=k+q+1
     ·subst a1
      have hdl:Ql LB v k<LB:=Q8 Qu v k
      rw[if_pos rfl,HZ.out,show 64-s=64 by omega,Rz (by rw[← Xn];exact hdl)]
     ·rw[if_neg a1]
  ·obtain rfl:k=n:=by omega
   rw[Lz HV.out]at hC2
   have hrd:Rd wr (some ⟨w.heap.size,0,none⟩) (k+q+1) (QQ (v*2^sh)):=by simpa using hC2.rd (o:=0) (n:=k+q+1) (by omega)
   have hvv:=Lib.hid (show v*2^sh<LB^(k+q+1)by
    rw[HQ.out,Ll 2,Lx,Ll LB,← Lw,Xn,Xj 64 q]
    refine Lb (R9 (R9 (show v<(2^64)^k from HV.out) (Lq (64*q))) (Lq s)) ?_
    exact Lt _ (Le (by decide) (by omega)))
   go_wp2_with (go_at_call 166;refine(ZU _ _ _ _ _ hb3 (L3 _) hvv.out hrd).mono ?_;rintro e w' ⟨rfl,rfl⟩)
   go_ret
   exact⟨_,_,rfl,L3 _,hB2,hC2,rfl⟩
theorem D8{v sh:Nat}(hv:v<LB^n)(h:n≤sh / 64): v / 2^sh=0:=by
 refine Rz (Lb hv ?_)
 rw[Xn,Xj]
 exact Le (by decide) (by omega)
theorem Me(A:Option Addr)(n c _v sh:Nat)(w:World)(hn:n≤4294967296)(hsh:sh≤9223372036854775807)(hq:n≤sh / 64):
  Calls prog 170 #[.slice A n c,.int .i64 (sh:Nat)] w fun e w'=>e=.returned (.slice none 0 0)∧w=w':=by
 have hq2:(n:Int)≤(sh:Int) / 64:=by omega
 clear hq
 go_enter func170,ntmps170
 go_wp2
 go_ret
 exact⟨rfl,rfl⟩
theorem F0(A:Option Addr)(n c v sh:Nat)(w:World)(hn:n≤4294967296)(hnc:n≤c)(hsh:sh≤9223372036854775807)(hq0:sh / 64<n)(hv:v<LB^n)(hr:Rd w A n (QQ v)):
  Calls prog 170 #[.slice A n c,.int .i64 (sh:Nat)] w fun e w'=>∃g N,e=.returned (.slice (some ⟨g,0,none⟩) (nd 64 (v / 2^sh)) N)∧w.heap.size≤g∧Below w.heap.size w w' ∧
   Cel w' g 119 N (QQ (v / 2^sh))∧N≤n∧nd 64 (v / 2^sh)≤N:=by
 obtain⟨q,hq⟩:∃q,q=sh / 64:=⟨_,rfl⟩
 obtain⟨s,hs⟩:∃s,s=sh % 64:=⟨_,rfl⟩
 have hqs:sh=64*q+s:=by omega
 have e1:(sh:Int) / 64=(q:Int):=by omega
 have e2:(sh:Int) % 64=(s:Int):=by omega
 have e3:(sh:Int).tmod 64=(s:Int):=by rw[Sn (by omega)];exact e2
 have hs64:s<64:=by omega
 rw[← hq]at hq0
 obtain⟨b,off,rfl,hc⟩:=hr (by omega)
 obtain⟨N,hN⟩:∃N,n=q+N:=⟨n-q,by omega⟩
 have hX:v / LB^q<LB^N:=by rw[Li (Rq Qu),← Ll,Ta,← hN];exact hv
 have hr2:Rd w (some ⟨b,off+q,none⟩) N (QQ (v / LB^q)):=fun _=>⟨b,off+q,rfl,fun j hj=>by
  rw[Sb,hc (q+j) (by omega)];unfold QQ;rw[JA]⟩
 have cc:=Lib.hid (Da (some ⟨b,off+q,none⟩) N (c-q) (v / LB^q) 0 N w (by omega) (by omega) (by omega) (by simp) (by omega) hX hr2)
 have hC:=Lib.hid hc
 have HQ:=Lib.hid hqs
 have HV:=Lib.hid hv
 subst hN
 have h3:q+N-q=N:=by omega
 have hN0:0<N:=by omega
 clear hq hs hqs hv hc hr hX hr2
 go_enter func170,ntmps170
 go_wp2_with fail
 refine cc.out.mono ?_
 rintro e w1 ⟨g,rfl,hgw,hB,hC1⟩
 have hglt:=hC1.lt
 go_wp2
 go_loopw [19] (fun i wr=>∃k:Nat,k≤N∧i=.int .i64 k∧Below w.heap.size w wr∧Cel wr g 119 N (fun j=>if j<k then QQ (v / 2^sh) j else QQ (v / LB^q) j)) (fun i _=>N-(intOf i).toNat)
 case atStart=>exact⟨0,L9 _,rfl,hB,hC1.congr fun j hj=>by rw[if_neg (by omega)];rfl⟩
 case round =>
  obtain⟨k,hk,rfl,hB2,hC2⟩:=hrel
  by_cases hlt:k<N
  ·have g1:wr.cell? ⟨g,k,none⟩=some (.int .u64 (Ql LB (v / LB^q) k:Nat)):=by rw[hC2.cell hlt,if_neg (by omega)];rfl
   have g2:=hC2.frozen k
   have hdn:=ed v q s k hs64
   rw[← HQ.out,← JA LB v q k]at hdn
   have hsr:=MV (Ql LB (v / LB^q) k) s
   have hdl:Ql LB (v / LB^q) k / 2^s<LB:=Lu (Rl _ _) (Q8 Qu _ _)
   have ho:=NY (Ql LB (v / LB^q) k / 2^s) (Ql LB v (q+k+1)*2^(64-s) % LB) hdl (Ly _ Qu)
   rw[← hdn]at ho
   have hsl:=DM (Ql LB v (q+k+1)) (64-s)
   obtain⟨p,hp⟩:∃p,p=Ql LB (v / LB^q) k / 2^s:=⟨_,rfl⟩
   obtain⟨t,ht⟩:∃t,t=Ql LB v (q+k+1)*2^(64-s) % LB:=⟨_,rfl⟩
   rw[← hp]at hsr ho hdn
   rw[← ht]at ho hsl hdn
   have hC3:=hC2.set_ k (.int .u64 (p:Int))
   have hB3:=hB2.setCell (p:=⟨g,k,none⟩) hgw (.int .u64 (p:Int))
   by_cases hk1:k+1<N
   ·by_cases hs0:0<s
    ·have hk1':(k:Int)+1<(N:Int):=by omega
     have hs0':(0:Int)<(s:Int):=by omega
     have HC3:=Lib.hid hC3
     have HDN:=Lib.hid hdn
     clear hC3 hdl hp ht hdn
     go_wp2
     have hC4:=HC3.out
     clear HC3 g1 g2 hB2 hC2
     generalize wr.setCell ⟨g,k,none⟩ (.int .u64 (p:Int))=w3 at *
     have g3:w3.cell? ⟨g,k,none⟩=some (.int .u64 (p:Nat)):=by rw[hC4.cell hlt,if_pos rfl]
     have g4:=hC4.frozen k
     have g5:w3.cell? ⟨b,off+(q+k+1),none⟩=some (.int .u64 (Ql LB v (q+k+1):Nat)):=L7 hB3 (hC.out (q+k+1) (by omega))
     have b1:(0:Int)≤(q:Int)+(k:Int)+1:=by omega
     have b2:(q:Int)+(k:Int)+1<(q:Int)+(N:Int):=by omega
     have b3:((q:Int)+(k:Int)+1).toNat=q+k+1:=by omega
     have hw1:IntKind.i64.wrap (s:Int)=(s:Int):=Ln _ (by omega)
     have hw2:IntKind.i64.wrap (64-(s:Int))=64-(s:Int):=Ln _ (by omega)
     have hw3:IntKind.i64.wrap ((q:Int)+(k:Int))=(q:Int)+(k:Int):=Ln _ (by omega)
     have hw4:IntKind.i64.wrap ((q:Int)+(k:Int)+1)=(q:Int)+(k:Int)+1:=Ln _ (by omega)
     have hw5:IntKind.i64.wrap (q:Int)=(q:Int):=Ln _ (by omega)
     have ht6:(64-(s:Int)).toNat=64-s:=by omega
     have b4:(0:Int)≤64-(s:Int):=by omega
     go_still_tail 18,(by kernel_rfl)
     change wpList _ _ _ _ _ w3.drew
     have hB6:=hB3.drew
     have hC6:=hC4.drew
     have g8:w3.drew.cell? ⟨g,k,none⟩=some (.int .u64 (p:Nat)):=g3
     have g9:=hC6.frozen k
     clear hB3 hC4 g3 g4 g5
     generalize w3.drew=w4 at *
     go_wp2
     refine⟨⟨k+1,hlt,by go_num,hB6.setCell hgw _,(hC6.set_ k _).congr fun j hj=>?_⟩,by simp[intOf];omega⟩
     by_cases a1:j=k
     ·subst a1;rw[if_pos rfl,if_pos (by omega)];rfl
     ·rw[if_neg a1,if_neg a1]
      by_cases a2:j<k
      ·rw[if_pos a2,if_pos (by omega)]
      ·rw[if_neg a2,if_neg (by omega)]
    ·have hs0':¬(0:Int)<(s:Int):=by omega
     have hk1':(k:Int)+1<(N:Int):=by omega
     have hp0:Ql LB (v / 2^sh) k=p:=by
      rw[hdn,ht,show s=0 by omega,Nat.sub_zero,← Xn,Nat.mul_mod_left,Nat.or_zero]
     have HP:=Lib.hid hp0
     have HC3:=Lib.hid hC3
     clear hdl hp ht hdn hp0 hC3
     go_wp2
     have hp0:=HP.out
     have hC3:=HC3.out
     refine⟨⟨k+1,hlt,by go_num,hB3,hC3.congr fun j hj=>?_⟩,by simp[intOf];omega⟩
     by_cases a1:j=k
     ·subst a1;rw[if_pos rfl,if_pos (by omega)];unfold QQ;rw[hp0]
     ·rw[if_neg a1]
      by_cases a2:j<k
      ·rw[if_pos a2,if_pos (by omega)]
      ·rw[if_neg a2,if_neg (by omega)]
   ·have hk1':¬(k:Int)+1<(N:Int):=by omega
    have hp0:Ql LB (v / 2^sh) k=p:=by
     rw[hdn,ht,show q+k+1=q+N by omega,Yu Qu HV.out (L3 _),Th,Nat.zero_mod,Nat.or_zero]
    have HP:=Lib.hid hp0
    have HC3:=Lib.hid hC3
    clear hdl hp ht hdn hp0 hC3
    go_wp2
    have hp0:=HP.out
    have hC3:=HC3.out
    refine⟨⟨k+1,hlt,by go_num,hB3,hC3.congr fun j hj=>?_⟩,by simp[intOf];omega⟩
    by_cases a1:j=k
    ·subst a1;rw[if_pos rfl,if_pos (by omega)];unfold QQ;rw[hp0]
    ·rw[if_neg a1]
     by_cases a2:j<k
     ·rw[if_pos a2,if_pos (by omega)]
     ·rw[if_neg a2,if_neg (by omega)]
  ·obtain rfl:k=N:=by omega
   have hC3:=hC2.congr (f':=QQ (v / 2^sh)) (fun j hj=>by rw[if_pos hj])
   have hrd:Rd wr (some ⟨g,0,none⟩) k (QQ (v / 2^sh)):=by simpa using hC3.rd (o:=0) (n:=k) (by omega)
   have hvv:=Lib.hid (show v / 2^sh<LB^k by
    rw[HQ.out,Ll 2,← R4,← Xj 64 q,← Xn]
    refine Lu (Rl _ _) ?_
    rw[Li (Rq Qu),← Ll,Ta]
    exact HV.out)
   have hkb:k≤9223372036854775807:=by omega
   clear hC2
   go_wp2_with (go_at_call 166;refine(ZU _ _ _ _ _ hkb (L3 _) hvv.out hrd).mono ?_;rintro e w' ⟨rfl,rfl⟩)
   go_ret
   exact⟨_,_,rfl,hgw,hB2,hC3,by omega,QU (k:=64) (by decide) hvv.out⟩
def Qa(s:ByteArray): Nat:=ZS s.data.toList
theorem XB(v:Nat): Qa (Qx v)=v:=Bt v
theorem Vo(s:ByteArray): Qa s<256^s.size:=by have:=DQ s.data.toList;rwa [show s.data.toList.length=s.size by simp]at this
theorem KD(s:ByteArray): nd 64 (Qa s)≤(s.size+7) / 8:=by have:=jg s.data.toList;rwa [show s.data.toList.length=s.size by simp]at this
theorem Cel.rd0{g:Nat}{t:TypeId}{f:Nat→Value}(h:Cel w g t T f)(hn:n≤T): Rd w (some ⟨g,0,none⟩) n f :=
 (h.rd (o:=0) (n:=n) (by omega)).congr fun j _=>by rw[Ld]
theorem ZY(s:ByteArray)(w:World)(hs:s.size≤4294967296):
  Calls prog 142 #[.string s] w fun e w'=>∃g N,e=.returned (.slice (some ⟨g,0,none⟩) (nd 64 (Qa s)) N)∧w.heap.size≤g∧Below w.heap.size w w' ∧
   Cel w' g 119 N (QQ (Qa s))∧nd 64 (Qa s)≤N∧N≤4294967296∧Rd w' (some ⟨g,0,none⟩) (nd 64 (Qa s)) (QQ (Qa s)) :=
 (kG s w hs).mono fun e w' ⟨g,N,he,hg,hb,hc,hN⟩=>by
  have h1:=KD s
  have h2:nd 64 (Qa s)≤N:=by omega
  exact⟨g,N,he,hg,hb,hc,h2,by omega,Cel.rd0 hc h2⟩
theorem lE(A:Option Addr)(c v:Nat)(w:World)(hn:nd 64 v≤4294967296)(hnc:nd 64 v≤c)(hr:Rd w A (nd 64 v) (QQ v)):
 Calls prog 171 #[.slice A (nd 64 v) c] w fun e w'=>e=.returned (.int .i64 (nd 1 v:Nat))∧w=w':=O6 A _ c v w hn hnc (X8 v) hr
theorem Gp(A:Option Addr)(c v:Nat)(w:World)(hn:nd 64 v≤4294967296)(hnc:nd 64 v≤c)(hr:Rd w A (nd 64 v) (QQ v)):
 Calls prog 168 #[.slice A (nd 64 v) c] w fun e w'=>e=.returned (.string (Qx v))∧Below w.heap.size w w':=V0 A _ c v w hn hnc (X8 v) hr
theorem Cw(A A':Option Addr)(c c' u v:Nat)(w:World)(hn:nd 64 u≤4294967296)(hn':nd 64 v≤4294967296)(hnc:nd 64 u≤c)(hnc':nd 64 v≤c')(hr:Rd w A (nd 64 u) (QQ u))(hr':Rd w A' (nd 64 v) (QQ v)):
  Calls prog 183 #[.slice A (nd 64 u) c,.slice A' (nd 64 v) c'] w fun e w'=>e=.returned (.int .i64 (YM u v))∧∃k,w'=w.drewN k :=
 Hc A A' _ _ c c' u v w hn hn' hnc hnc' (X8 u) (X8 v) hr hr'
theorem CP(s:ByteArray)(w:World)(hs:s.size≤4294967296):
  Calls prog 147 #[.string s] w fun e w'=>e=.returned (.int .i64 (nd 1 (Qa s):Nat))∧Below w.heap.size w w':=by
 go_enter func147,ntmps147
 go_wp2_with fail
 refine(ZY s w hs).mono ?_
 rintro e w1 ⟨g,N,rfl,hg,hb,hc,h1,h2,hr⟩
 go_wp2_with fail
 refine(lE _ _ _ _ (by omega) h1 hr).mono ?_
 rintro e w2 ⟨rfl,rfl⟩
 go_wp2
 go_ret
 exact⟨rfl,hb⟩
theorem dq(s t:ByteArray)(w:World)(hs:s.size≤4294967296)(ht:t.size≤4294967296):
  Calls prog 198 #[.string s,.string t] w fun e w'=>e=.returned (.int .i64 (YM (Qa s) (Qa t)))∧Below w.heap.size w w':=by
 go_enter func198,ntmps198
 go_wp2_with fail
 refine(ZY s w hs).mono ?_
 rintro e w1 ⟨g,N,rfl,hg,hb,hc,h1,h2,hr⟩
 go_wp2_with fail
 refine(ZY t w1 ht).mono ?_
 rintro e w2 ⟨g',N',rfl,hg',hb',hc',h1',h2',hr'⟩
 go_wp2_with fail
 refine(Cw _ _ _ _ _ _ _ (by omega) (by omega) h1 h1' (hr.below hb') hr').mono ?_
 rintro e w3 ⟨rfl,k,rfl⟩
 go_wp2
 go_ret
 exact⟨rfl,YO (Qj hb hb' hb.size) k⟩
theorem TL(s:ByteArray)(w:World):
  Calls prog 169 #[.string s] w fun e w'=>e=.returned (.string (Qx (Qa s)))∧w=w':=by
 have ht:=Tryz.strings_TrimLeft_one s 0 (by decide) w
 have he:(⟨(Lib.trimLeftB s.data.toList 0).toArray⟩:ByteArray)=Qx (Qa s):=by unfold Qx Qa;rw[BP];rfl
 rw[he]at ht
 have HT:=Lib.hid ht
 clear ht he
 go_enter func169,ntmps169
 go_wp2_with fail
 refine HT.out.mono ?_
 rintro e w1 ⟨rfl,rfl⟩
 go_wp2
 go_ret
 exact⟨rfl,rfl⟩
theorem Pv(n:Nat)(w:World)(hn:n<LB):
  Calls prog 172 #[.int .u64 (n:Nat)] w fun e w'=>e=.returned (.string (Qx n))∧Below w.heap.size w w':=by
 have hr:Rd (w.alloc (.cells #[.int .u64 (n:Nat)] 119)) (some ⟨w.heap.size,0,none⟩) 1 (QQ n):=by
  have:=(Cel.new w 119 #[.int .u64 (n:Nat)]).rd (o:=0) (n:=1) (by simp)
  refine this.congr fun j hj=>?_
  obtain rfl:j=0:=by omega
  simp[QQ,Ql,Lz hn]
 have ht:=Lib.hid (V0 (some ⟨w.heap.size,0,none⟩) 1 1 n _ (by omega) (by omega) (by simpa using hn) hr)
 clear hr hn
 go_enter func172,ntmps172
 go_wp2_with fail
 refine ht.out.mono ?_
 rintro e w1 ⟨rfl,hb⟩
 go_wp2
 go_ret
 exact⟨rfl,Qj ((Below.refl _ _).alloc (L3 _) _) hb (by simp)⟩
theorem Gi(o n:Nat)(f:Nat→Value)(j:Nat): G8 o n (fun i=>f (o+i)) f j=f j:=by
 unfold G8;split
 ·rename_i h;simp only;congr 1;omega
 ·rfl
theorem M7(s t:ByteArray)(w:World)(hs:s.size≤4294967296)(ht:t.size≤4294967296):
  Calls prog 187 #[.string s,.string t] w fun e w'=>e=.returned (if Qa s<Qa t then .tuple #[.string ⟨#[]⟩,.bool false]else .tuple #[.string (Qx (Qa s-Qa t)),.bool true])∧Below w.heap.size w w':=by
 by_cases hlt:Qa s<Qa t
 ·rw[if_pos hlt]
  have hc:=cmpI_lt.2 hlt
  clear hlt
  go_enter func187,ntmps187
  go_wp2_with fail
  refine(ZY s w hs).mono ?_
  rintro e w1 ⟨g,N,rfl,hg,hb,hC,h1,h2,hr⟩
  go_wp2_with fail
  refine(ZY t w1 ht).mono ?_
  rintro e w2 ⟨g',N',rfl,hg',hb',hC',h1',h2',hr'⟩
  go_wp2_with fail
  refine(Cw _ _ _ _ _ _ _ (by omega) (by omega) h1 h1' (hr.below hb') hr').mono ?_
  rintro e w3 ⟨rfl,k,rfl⟩
  go_wp2
  go_ret2
  exact⟨rfl,YO (Qj hb hb' hb.size) k⟩
 ·rw[if_neg hlt]
  have hc:¬ YM (Qa s) (Qa t)<0:=fun h=>hlt (cmpI_lt.1 h)
  have hle:=Lib.hid (Se hlt)
  clear hlt
  go_enter func187,ntmps187
  go_wp2_with fail
  refine(ZY s w hs).mono ?_
  rintro e w1 ⟨g,N,rfl,hg,hb,hC,h1,h2,hr⟩
  go_wp2_with fail
  refine(ZY t w1 ht).mono ?_
  rintro e w2 ⟨g',N',rfl,hg',hb',hC',h1',h2',hr'⟩
  go_wp2_with fail
  refine(Cw _ _ _ _ _ _ _ (by omega) (by omega) h1 h1' (hr.below hb') hr').mono ?_
  rintro e w3 ⟨rfl,k,rfl⟩
  have hgl:=hC.lt
  have hC2:Cel (w2.drewN k) g 119 N (G8 0 (nd 64 (Qa s)) (QQ (Qa s)) (QQ (Qa s))):=((hC.bel hb').drewN k).congr fun j _=>by
   have:=Gi 0 (nd 64 (Qa s)) (QQ (Qa s)) j
   simp only[Ld]at this
   exact this.symm
  go_wp2_with fail
  refine(MD _ _ _ _ _ _ _ _ _ _ _ _ (by omega) (by omega) hC2 (by omega) (X8 _) hle.out (X8 _) (hr'.drewN k) (Off.some_ (by omega))).mono ?_
  rintro e w4 ⟨rfl,hg4,hC4⟩
  have hnd:nd 64 (Qa s-Qa t)≤nd 64 (Qa s):=JS (by decide) (U6 _ _)
  have hr4:Rd w4 (some ⟨g,0,none⟩) (nd 64 (Qa s)) (QQ (Qa s-Qa t)):=(hC4.rd (o:=0) (n:=nd 64 (Qa s)) (by omega)).congr fun j hj=>BV hj
  go_wp2_with fail
  refine(V0 _ _ _ _ _ (by omega) h1 (Lu (U6 _ _) (X8 _)) hr4).mono ?_
  rintro e w5 ⟨rfl,hb5⟩
  go_wp2
  go_ret2
  have hbk:=YO (Qj hb hb' hb.size) k
  have hb4:Below w.heap.size w w4:=YC hbk hg4 hbk.size hg
  exact⟨rfl,Qj hb4 hb5 hb4.size⟩
theorem Qn{g:Nat}{tab:List Nat}{w':World}(h:TabAt g tab w)(hb:Below w.heap.size w w'): TabAt g tab w':=fun j hj=>(hb.cell (p:=⟨g,j,none⟩) (Ky (h j hj))).trans (h j hj)
theorem Vn(s:ByteArray)(w:World)(hs:s.size≤4294967296)(hT:TabAt 0 Lib.deBruijn64tab w):
  Calls prog 121 #[.string s] w fun e w'=>e=.returned (.int .i64 (tz (Qa s):Nat))∧Below w.heap.size w w':=by
 have HT:=Lib.hid hT
 clear hT
 go_enter func121,ntmps121
 go_wp2_with fail
 refine(ZY s w hs).mono ?_
 rintro e w1 ⟨g,N,rfl,hg,hb,hC,h1,h2,hr⟩
 go_wp2
 go_loop [8] (fun i=>∃k:Nat,k≤nd 64 (Qa s)∧i=.int .i64 k∧Hid (∀j,j<k→Ql LB (Qa s) j=0)) (fun i=>nd 64 (Qa s)-(intOf i).toNat)
 case atStart=>exact⟨0,L9 _,rfl,fun j hj=>by omega⟩
 case round =>
  obtain⟨k,hk,rfl,hz⟩:=hrel
  by_cases hlt:k<nd 64 (Qa s)
  ·have g1:w1.cell? ⟨g,k,none⟩=some (.int .u64 (Ql LB (Qa s) k:Nat)):=hC.cell (by omega)
   by_cases hd:Ql LB (Qa s) k=0
   ·have HD:=Lib.hid hd
    have hd0:(((Ql LB (Qa s) k:Nat):Int) != 0)=false:=by rw[hd];rfl
    clear hd
    go_wp2
    refine⟨⟨k+1,hlt,by go_num,fun j hj=>?_⟩,by simp[intOf];omega⟩
    by_cases e:j=k
    ·subst e;exact HD.out
    ·exact hz.out j (by omega)
   ·have hd0:(((Ql LB (Qa s) k:Nat):Int) != 0)=true:=by rw[bne_iff_ne];omega
    have hfin:=Lib.hid (show tz (Qa s)=64*k+tz (Ql LB (Qa s) k)from fw (by
     refine Vk (B:=LB) (n:=k) (Ly _ (Rq Qu)) (Rq Qu) fun j hj=>?_
     rw[JY hj,ZV];exact hz.out j hj) hd)
    have hc:=Tryz.bits_TrailingZeros64 (Ql LB (Qa s) k) (Q8 Qu _ _) w1 (fun _=>Qn HT.out hb)
    have htb:Lib.ctz 64 (Ql LB (Qa s) k)≤64:=by
     obtain⟨m,_,hm⟩:=Lib.ctzFrom_spec 64 (Ql LB (Qa s) k) (by omega) (Q8 Qu _ _)
     unfold Lib.ctz;rw[if_neg hd];omega
    rw[kt hd (Q8 Qu _ _)]at hc htb
    have HC:=Lib.hid hc
    clear hd hc
    go_wp2_with fail
    refine HC.out.mono ?_
    rintro e w2 ⟨rfl,rfl⟩
    go_wp2
    go_ret
    exact⟨Nf (by rw[hfin.out];omega),hb⟩
  ·obtain rfl:k=nd 64 (Qa s):=by omega
   have hfin:=Lib.hid (show Qa s=0 by
    refine Vk (B:=LB) (n:=nd 64 (Qa s)) (X8 _) (Rq Qu) fun j hj=>?_
    rw[ZV];exact hz.out j hj)
   go_wp2
   go_ret
   exact⟨by rw[hfin.out];rfl,hb⟩
theorem bW(s t:ByteArray)(w:World)(hs:s.size≤4294967296)(ht:t.size≤4294967296):
  Calls prog 182 #[.string s,.string t] w fun e w'=>e=.returned (.string (Qx (Qa s*Qa t)))∧Below w.heap.size w w':=by
 have b1:nd 64 (Qa s)≤1073741824:=by have:=KD s;omega
 have b2:nd 64 (Qa t)≤1073741824:=by have:=KD t;omega
 have hb2:8*(nd 64 (Qa s)+nd 64 (Qa t)+1)≤281474976710656:=by omega
 have hb3:nd 64 (Qa s)+nd 64 (Qa t)+1≤9223372036854775807:=by omega
 go_enter func182,ntmps182
 go_wp2_with fail
 refine(ZY s w hs).mono ?_
 rintro e w1 ⟨g,N,rfl,hg,hb,hC,h1,h2,hr⟩
 go_wp2_with fail
 refine(ZY t w1 ht).mono ?_
 rintro e w2 ⟨g',N',rfl,hg',hb',hC',h1',h2',hr'⟩
 have hbb:=Qj hb hb' hb.size
 have hgl:=hC'.lt
 go_wp2_with (at_make;refine Q1 rfl (.tmp 19) (.tmp 19) _ rfl 119 (.int .u64 0) 8 YJ Kf rfl .i64 .i64 _ _ (nd 64 (Qa s)+nd 64 (Qa t)+1) rfl rfl rfl rfl hb2 hb3 ?_;intro w3 hC3 hB3 hlt3)
 go_loopw [23] (fun i wr=>∃k:Nat,k≤nd 64 (Qa s)∧i=.int .i64 k∧w3.grownBy wr (some w2.heap.size)∧Cel wr w2.heap.size 119 (nd 64 (Qa s)+nd 64 (Qa t)+1) (QQ (Qa s % LB^k*Qa t))) (fun i _=>nd 64 (Qa s)-(intOf i).toNat)
 case atStart=>exact⟨0,L9 _,rfl,World.grownBy.refl _ _,hC3.congr fun j hj=>by unfold QQ;rw[Sl,Ty,Th,ZV];rfl⟩
 case round =>
  obtain⟨k,hk,rfl,hgr,hC4⟩:=hrel
  have hbr:Below w2.heap.size w2 wr:=YC hB3 hgr hB3.size (L3 _)
  by_cases hlt:k<nd 64 (Qa s)
  ·have g1:wr.cell? ⟨g,k,none⟩=some (.int .u64 (Ql LB (Qa s) k:Nat)):=((hC.bel hb').bel hbr).cell (by omega)
   have hC5:Cel wr w2.heap.size 119 (nd 64 (Qa s)+nd 64 (Qa t)+1) (G8 k (nd 64 (Qa s)+nd 64 (Qa t)+1-k) (QQ (Qa s % LB^k*Qa t / LB^k)) (QQ (Qa s % LB^k*Qa t))) :=
    hC4.congr fun j hj=>by
     unfold G8
     by_cases h:k≤j∧j<k+(nd 64 (Qa s)+nd 64 (Qa t)+1-k)
     ·rw[if_pos h];unfold QQ;rw[JA,show k+(j-k)=j by omega]
     ·rw[if_neg h]
   have hrt:Rd wr (some ⟨g',0,none⟩) (nd 64 (Qa t)) (QQ (Qa t)):=hr'.below hbr
   have hpl:=Lib.hid (Ei w2.heap.size k (nd 64 (Qa s)+nd 64 (Qa t)+1-k) (nd 64 (Qa s)+nd 64 (Qa t)+1-k) (nd 64 (Qa s)+nd 64 (Qa t)+1) (nd 64 (Qa t)) N' _ (Qa t) (Ql LB (Qa s) k) _ _ wr (by omega) (by omega) hC5 (by omega) (Q8 Qu _ _) (X8 _) hrt (Off.some_ (by omega)))
   go_wp2_with fail
   refine hpl.out.mono ?_
   rintro e w5 ⟨rfl,hg5,hC6⟩
   go_wp2
   refine⟨⟨k+1,hlt,by go_num,JB hgr hg5,hC6.congr fun j hj=>?_⟩,by simp[intOf];omega⟩
   have e:Qa s % LB^(k+1)*Qa t=Qa s % LB^k*Qa t+LB^k*(Qa t*Ql LB (Qa s) k):=by
    rw[YP,Rv,Lw,Lh (Qa t)]
   rw[e]
   unfold G8 QQ
   by_cases h:k≤j∧j<k+(nd 64 (Qa s)+nd 64 (Qa t)+1-k)
   ·rw[if_pos h]
    obtain⟨i,rfl⟩:∃i,j=k+i:=⟨j-k,by omega⟩
    rw[CV Qu,S6]
   ·rw[if_neg h,CG (by omega)]
  ·obtain rfl:k=nd 64 (Qa s):=by omega
   rw[Lz (X8 _)]at hC4
   have hlt4:Qa s*Qa t<LB^(nd 64 (Qa s)+nd 64 (Qa t)+1):=by
    rw[Lx,Ll]
    exact Lb (U8 (X8 _) (X8 _)) (S5 _ Qu)
   have htx:=Lib.hid (V0 _ _ _ _ wr (by omega) (L3 _) hlt4 (Cel.rd0 hC4 (L3 _)))
   clear hlt4
   go_wp2_with fail
   refine htx.out.mono ?_
   rintro e w5 ⟨rfl,hb5⟩
   go_wp2
   go_ret
   have hb6:=Qj hbb hbr hbb.size
   exact⟨rfl,Qj hb6 hb5 hb6.size⟩
def Qb(b:Bool)(v:Nat): Int:=if b then -(v:Int)else v
def neg(z:Int): Bool:=decide (z<0)
def Qh(z:Int): ByteArray:=Qx z.natAbs
def Yj(z:Int): Nat:=nd 8 z.natAbs
def ZB(z:Int): Int:=if z<0 then -1 else if z=0 then 0 else 1
theorem Zr(z:Int): Qa (Qh z)=z.natAbs:=Bt _
theorem QR(z:Int): Qb (neg z) (Qa (Qh z))=z:=by
 rw[Zr];unfold Qb neg;by_cases h:z<0
 ·rw[Rf h,if_pos rfl];omega
 ·rw[Lk h,if_neg (by simp)];omega
theorem QM(z:Int): (Qh z).size=Yj z:=Gn _
theorem Q0(b:Bool)(v:Nat): (Qb b v).natAbs=v:=by unfold Qb;split<;>omega
theorem Mo(b:Bool)(v:Nat): Qb (!b) v=-Qb b v:=by cases b<;>simp[Qb]
theorem J1(b:Bool): Qb b 0=0:=by cases b<;>rfl
theorem Mj(b:Bool)(v:Nat): neg (Qb b v)=(b&&!(v==0)):=by
 unfold neg Qb;cases b
 ·simp
 ·by_cases h:v=0
  ·subst h;simp
  ·have:(v==0)=false:=by simpa using h
   rw[this];simp;omega
theorem Zq(b:Bool)(v:Nat): Qh (Qb b v)=Qx v:=by unfold Qh;rw[Q0]
theorem nstr_empty{v:Nat}: (Qx v).toList=[]↔v=0:=by
 rw[Tu]
 constructor
 ·intro h
  have h2:=Bt v
  rw[h]at h2
  exact h2.symm
 ·rintro rfl;rfl
theorem IY:Qh 0=⟨#[]⟩:=rfl
theorem C4(z:Int): z.natAbs<256^Yj z:=Kb (k:=8) (by decide) _
theorem VU(h:z.natAbs<256^n): Yj z≤n:=QU (k:=8) (by decide) h
theorem XJ(b:Bool)(s:ByteArray): Yj (Qb b (Qa s))≤s.size:=VU (by rw[Q0];exact Vo s)
theorem D6(z:Int): Yj (-z)=Yj z:=by unfold Yj;rw[Int.natAbs_neg]
theorem Kh{x:Int}(hx:Yj x≤n)(hy:Yj y≤n): Yj (x+y)≤n+1:=by
 refine VU ?_
 have h1:=Lb (C4 x) (Le (by decide) hx)
 have h2:=Lb (C4 y) (Le (by decide) hy)
 have h3:=Int.natAbs_add_le x y
 rw[Lx];omega
theorem Cq{x:Int}(hx:Yj x≤n)(hy:Yj y≤n): Yj (x-y)≤n+1:=by
 rw[Int.sub_eq_add_neg];exact Kh hx (by rw[D6];exact hy)
theorem Yy{x:Int}{m:Nat}(hx:Yj x≤n)(hy:Yj y≤m): Yj (x*y)≤n+m:=by
 refine VU ?_
 rw[Tq,Ll]
 exact U8 (Lb (C4 x) (Le (by decide) hx)) (Lb (C4 y) (Le (by decide) hy))
theorem X9{x:Int}(h:x.natAbs≤y.natAbs): Yj x≤Yj y:=JS (by decide) h
theorem Vj{x:Int}{k:Nat}(hx:Yj x≤n): Yj (x*2^k)≤n+k / 8+1:=by
 refine VU ?_
 rw[Tq,Int.natAbs_pow,Sb,Ll]
 refine U8 (Lb (C4 x) (Le (by decide) hx)) ?_
 rw[show(256:Nat)=2^8 from rfl,← Sd]
 exact Nat.pow_lt_pow_right (by decide) (by omega)
theorem UQ(h:-9223372036854775808≤z)(h':z≤9223372036854775807): Yj z≤8:=by
 refine VU ?_
 have e:(256:Nat)^8=18446744073709551616:=by decide
 omega
def JD(f:Nat→Int): Nat→Int|0=>0|k+1=>JD f k+f k
def Jo(f:Nat→Int): Nat→Int|0=>1|k+1=>Jo f k*f k
theorem C1(h:∀j,Yj (f j)≤S): ∀k,Yj (JD f k)≤S+k
 | 0=>L8 (show Yj 0≤0 by decide) (L9 _)
 | k+1=>Kh (C1 h k) (L8 (h k) (Lf _ _))
theorem E2(h:∀j,Yj (f j)≤S): ∀k,Yj (Jo f k)≤S*k+1
 | 0=>L8 (show Yj 1≤1 by decide) (by omega)
 | k+1=>by
  have:=Yy (E2 h k) (h k)
  rw[Nat.mul_succ]
  show Yj (Jo f k*f k)≤_
  omega
theorem lf: ZB z<0↔z<0:=by unfold ZB;split<;>(try split)<;>omega
theorem sgn_eq: ZB z=0↔z=0:=by unfold ZB;split<;>(try split)<;>omega
theorem lD: 0<ZB z↔0<z:=by unfold ZB;split<;>(try split)<;>omega
theorem jK(z:Int): -1≤ZB z∧ZB z≤1:=by unfold ZB;split<;>(try split)<;>omega
theorem fT(x y:Int): ZB (x*y)=ZB x*ZB y:=by
 rcases U0 x 0 with hx|hx|hx<;>rcases U0 y 0 with hy|hy|hy<;>(try subst hx)<;>(try subst hy) <;>
  (try simp only[Int.zero_mul,Int.mul_zero,show ZB 0=0 from rfl])
 ·rw[show ZB x=-1 by unfold ZB;rw[if_pos hx],show ZB y=-1 by unfold ZB;rw[if_pos hy]]
  have:=Int.mul_pos_of_neg_of_neg hx hy
  unfold ZB;rw[if_neg (by omega),if_neg (by omega)];rfl
 ·rw[show ZB x=-1 by unfold ZB;rw[if_pos hx],show ZB y=1 by unfold ZB;rw[if_neg (by omega),if_neg (by omega)]]
  have:=Int.mul_neg_of_neg_of_pos hx hy
  unfold ZB;rw[if_pos (by omega)];rfl
 ·rw[show ZB x=1 by unfold ZB;rw[if_neg (by omega),if_neg (by omega)],show ZB y=-1 by unfold ZB;rw[if_pos hy]]
  have:=Int.mul_neg_of_pos_of_neg hx hy
  unfold ZB;rw[if_pos (by omega)];rfl
 ·rw[show ZB x=1 by unfold ZB;rw[if_neg (by omega),if_neg (by omega)],show ZB y=1 by unfold ZB;rw[if_neg (by omega),if_neg (by omega)]]
  have:=Int.mul_pos hx hy
  unfold ZB;rw[if_neg (by omega),if_neg (by omega)];rfl
theorem Bz(a b:Bool)(u v:Nat)(hv:0<v):
  (Qb a u / Qb b v=Qb (a != b) (if a=true∧u % v≠0 then u / v+1 else u / v))∧(Qb a u % Qb b v=((if a=true∧u % v≠0 then v-u % v else u % v:Nat):Int)):=by
 have hm:=S8 u v
 have hlt:=Ly u hv
 have key:∀(q r:Int),Qb a u=Qb b v*q+r→0≤r→r<v→Qb a u / Qb b v=q∧Qb a u % Qb b v=r:=by
  intro q r h h1 h2
  have hb0:Qb b v≠0:=by unfold Qb;split<;>omega
  have e1:=Int.emod_add_mul_ediv (Qb a u) (Qb b v)
  have e2:=Int.emod_nonneg (Qb a u) hb0
  have e3:Qb a u % Qb b v<v:=by
   have:=Int.emod_lt (Qb a u) hb0
   rw[Q0]at this;exact this
  generalize Qb a u / Qb b v=Q at *
  generalize Qb a u % Qb b v=R at *
  have hd:Qb b v*(Q-q)=r-R:=by rw[Int.mul_sub];omega
  have hQ:Q-q=0:=by
   apply Classical.byContradiction
   intro hne
   have h3:(Qb b v*(Q-q)).natAbs=v*(Q-q).natAbs:=by rw[Tq,Q0]
   have h4:v*1≤v*(Q-q).natAbs:=Lt _ (by omega)
   rw[hd]at h3
   omega
  rw[hQ,Int.mul_zero]at hd
  omega
 generalize u / v=q at *
 generalize u % v=r at *
 have hmI:(u:Int)=(v:Int)*(q:Int)+(r:Int):=by rw[← hm];simp
 cases a
 ·simp only[Bool.false_eq_true,false_and,if_false]
  cases b
  ·exact key _ _ (by simp[Qb];exact hmI) (by omega) (by omega)
  ·exact key _ _ (by simp[Qb,Ud,Int.mul_neg];exact hmI) (by omega) (by omega)
 ·by_cases hr:r=0
  ·simp only[hr,ne_eq,not_true,and_false,if_false]
   subst hr
   cases b
   ·exact key _ _ (by simp[Qb,Int.mul_neg];omega) (by omega) (by omega)
   ·exact key _ _ (by simp[Qb,Ud];omega) (by omega) (by omega)
  ·simp only[hr,ne_eq,not_false_iff,and_true,if_true]
   have e:((v-r:Nat):Int)=(v:Int)-r:=by omega
   cases b
   ·refine key _ _ ?_ (by omega) (by omega)
    rw[e];simp[Qb,Int.mul_add,Int.mul_neg];omega
   ·refine key _ _ ?_ (by omega) (by omega)
    rw[e];simp[Qb,Int.mul_add,Ud];omega
theorem UB(a:Bool)(u k:Nat): Qb a u / 2^k=Qb a (u / 2^k)-(if a=true∧u % 2^k≠0 then 1 else 0):=by
 have h:=(Bz a false u (2^k) (Lq k)).1
 have e:Qb false (2^k)=2^k:=by simp[Qb]
 rw[e]at h
 rw[h]
 cases a
 ·simp[Qb]
 ·by_cases hr:u % 2^k=0
  ·simp[Qb,hr]
  ·simp[Qb,hr];omega
open Go
def dy(m e:Int): Dyadic:=Dyadic.ofIntWithPrec m (-e)
def dm:Dyadic→Int | .zero=>0 | .ofOdd n _ _=>n
def de:Dyadic→Int | .zero=>0 | .ofOdd _ k _=>-k
theorem ZE(m e:Int): (dy m e).toRat=(m:Rat)*2^e:=by
 unfold dy
 rw[Dyadic.toRat_ofIntWithPrec_eq_mul_two_pow,Tp]
theorem CD{y:Dyadic}(h:x.toRat=y.toRat): x=y:=Dyadic.toRat_inj.1 h
theorem Zu(e:Int): dy 0 e=0:=by
 unfold dy Dyadic.ofIntWithPrec;rw[dif_pos rfl];rfl
theorem DR(x:Dyadic): dy (dm x) (de x)=x:=by
 cases x with
 | zero=>exact Zu _
 | ofOdd n k hn=>show Dyadic.ofIntWithPrec n (- -k)=_;rw[Tp];exact Dyadic.ofOdd_eq_ofIntWithPrec.symm
theorem dm_zero: dm x=0↔x=0:=by
 cases x with
 | zero=>exact⟨fun _=>rfl,fun _=>rfl⟩
 | ofOdd n k hn=>exact⟨fun h=>by have h1:n=0:=h;subst h1;simp at hn,fun h=>by cases h⟩
theorem bz:(2:Rat)≠0:=by decide
theorem MO(k:Nat): (2:Rat)^(k:Int)=((2^k:Int):Rat):=by
 rw[Rat.zpow_natCast];simp
theorem VE(m e:Int)(k:Nat): dy (m*2^k) e=dy m (e+k):=by
 apply CD
 rw[ZE,ZE,Rat.zpow_add bz,MO,Rat.intCast_mul]
 grind
theorem BU(e:Int)(h:m % 2=1): dm (dy m e)=m∧de (dy m e)=e:=by
 have h1:dy m e=Dyadic.ofOdd m (-e) h:=Dyadic.ofOdd_eq_ofIntWithPrec.symm
 rw[h1]
 exact⟨rfl,Tp e⟩
theorem N1(h:m≠0): ∃o:Int,m=o*2^tz m.natAbs∧o % 2=1:=by
 obtain⟨q,hq⟩:=DP (v:=m.natAbs) (by omega)
 generalize tz m.natAbs=t at *
 rcases Int.natAbs_eq m with h1|h1
 ·refine⟨2*q+1,?_,by omega⟩
  rw[h1,hq];simp[Int.mul_comm]
 ·refine⟨-(2*q+1),?_,by omega⟩
  rw[h1,hq,Ud];simp[Int.mul_comm]
theorem MT(e:Int)(h:m≠0): dm (dy m e)=m / 2^tz m.natAbs∧de (dy m e)=e+tz m.natAbs:=by
 obtain⟨o,ho,h2⟩:=N1 h
 generalize tz m.natAbs=t at *
 have h3:dy m e=dy o (e+t):=by rw[ho];exact VE o e t
 have h4:=BU (e+t) h2
 rw[h3,h4.1,h4.2]
 refine⟨?_,rfl⟩
 rw[ho,Int.mul_ediv_cancel _ (Int.ne_of_gt (Int.pow_pos (by decide)))]
theorem Iu(m n e:Int): dy m e+dy n e=dy (m+n) e:=by
 apply CD
 rw[Dyadic.toRat_add,ZE,ZE,ZE,Rat.intCast_add];grind
theorem WC(m n e:Int): dy m e-dy n e=dy (m-n) e:=by
 apply CD
 rw[Dyadic.toRat_sub,ZE,ZE,ZE,Rat.intCast_sub];grind
theorem IA(m e:Int): -dy m e=dy (-m) e:=by
 apply CD
 rw[Dyadic.toRat_neg,ZE,ZE,Rat.intCast_neg];grind
theorem N0(m n e f:Int): dy m e*dy n f=dy (m*n) (e+f):=by
 apply CD
 rw[Dyadic.toRat_mul,ZE,ZE,ZE,Rat.intCast_mul,Rat.zpow_add bz];grind
theorem dy_one:dy 1 0=1:=rfl
theorem jy{n e:Int}: dy m e<dy n e↔m<n:=by
 rw[← Dyadic.toRat_lt_toRat_iff,ZE,ZE,Rat.mul_lt_mul_right (Rat.zpow_pos (by decide)),Rat.intCast_lt_intCast]
def Zs(x:Dyadic): Int:=ZB (dm x)
theorem M9(m:Int)(k:Nat): ZB (m*2^k)=ZB m:=by
 have h:ZB ((2:Int)^k)=1:=by
  have:=Int.pow_pos (n:=2) (m:=k) (by decide)
  unfold ZB;rw[if_neg (by omega),if_neg (by omega)]
 rw[fT,h,Int.mul_one]
theorem DC(m e:Int): Zs (dy m e)=ZB m:=by
 unfold Zs
 by_cases h:m=0
 ·subst h;rw[Zu];rfl
 ·obtain⟨o,ho,h2⟩:=N1 h
  generalize tz m.natAbs=t at *
  rw[ho,VE,(BU (e+t) h2).1,M9]
theorem dsgn_lt: Zs x<0↔x<0:=by
 rw[← DR x,DC,lf,← Zu (de x),jy]
theorem dsgn_gt: 0<Zs x↔0<x:=by
 rw[← DR x,DC,lD,← Zu (de x),jy]
theorem dsgn_eq: Zs x=0↔x=0:=by
 unfold Zs;rw[sgn_eq,dm_zero]
theorem Dy(x:Dyadic): -1≤Zs x∧Zs x≤1:=jK _
def DB(L T:Nat)(x:Dyadic): Prop:=∃k:Int,x=dy k (-(L:Int))∧k.natAbs<2^(L+T)
theorem Cd{L' T':Nat}(h:DB L T x)(hL:L≤L')(hT:T≤T'): DB L' T' x:=by
 obtain⟨k,rfl,hk⟩:=h
 refine⟨k*2^(L'-L),?_,?_⟩
 ·rw[VE];congr 1;omega
 ·rw[Tq,Int.natAbs_pow]
  show k.natAbs*2^(L'-L)<_
  have h1:k.natAbs*2^(L'-L)<2^(L+T)*2^(L'-L):=R9 hk (Lq _)
  rw[← Ll]at h1
  exact Lb h1 (Le (by decide) (by omega))
theorem la{e:Int}(hm:m.natAbs<2^S)(h1:-(L:Int)≤e)(h2:e+S≤T): DB L T (dy m e):=by
 refine⟨m*2^(e+L).toNat,?_,?_⟩
 ·rw[VE];congr 1;omega
 ·rw[Tq,Int.natAbs_pow]
  show m.natAbs*2^(e+L).toNat<_
  have h3:m.natAbs*2^(e+L).toNat<2^S*2^(e+L).toNat:=R9 hm (Lq _)
  rw[← Ll]at h3
  exact Lb h3 (Le (by decide) (by omega))
theorem gC(L T:Nat): DB L T 0:=⟨0,(Zu _).symm,Lq _⟩
theorem kk{y:Dyadic}(hx:DB L T x)(hy:DB L T y): DB L (T+1) (x+y):=by
 obtain⟨k,rfl,hk⟩:=hx
 obtain⟨j,rfl,hj⟩:=hy
 refine⟨k+j,Iu _ _ _,?_⟩
 rw[← Sb,Lx]
 omega
theorem CI(hx:DB L T x): DB L T (-x):=by
 obtain⟨k,rfl,hk⟩:=hx
 exact⟨-k,IA _ _,by rwa [Int.natAbs_neg]⟩
theorem OQ{y:Dyadic}(hx:DB L T x)(hy:DB L T y): DB L (T+1) (x-y):=by
 obtain⟨k,rfl,hk⟩:=hx
 obtain⟨j,rfl,hj⟩:=hy
 refine⟨k-j,WC _ _ _,?_⟩
 rw[← Sb,Lx]
 omega
theorem NP{L' T':Nat}{y:Dyadic}(hx:DB L T x)(hy:DB L' T' y): DB (L+L') (T+T') (x*y):=by
 obtain⟨k,rfl,hk⟩:=hx
 obtain⟨j,rfl,hj⟩:=hy
 refine⟨k*j,?_,?_⟩
 ·rw[N0];congr 1;omega
 ·rw[Tq,show L+L'+(T+T')=(L+T)+(L'+T')by omega,Ll]
  rcases Ss j.natAbs with h|h
  ·rw[h,Nat.mul_zero];exact Ub (Lq _) (Lq _)
  ·exact Lb (R9 hk h) (Lt _ (T6 hj))
theorem ZZ(hx:DB L T x): -(L:Int)≤de x∧de x≤T∧(dm x).natAbs<2^(L+T):=by
 obtain⟨k,rfl,hk⟩:=hx
 by_cases h:k=0
 ·subst h;rw[Zu];exact⟨by show -(L:Int)≤0;omega,by show(0:Int)≤T;omega,Lq _⟩
 ·obtain⟨h1,h2⟩:=MT (-(L:Int)) h
  obtain⟨o,ho,h3⟩:=N1 h
  rw[h1,h2]
  generalize tz k.natAbs=t at *
  have h4:k.natAbs=o.natAbs*2^t:=by rw[ho,Tq,Int.natAbs_pow];rfl
  have h5:2^t≤k.natAbs:=by rw[h4];exact Nat.le_mul_of_pos_left _ (by omega)
  have h6:t<L+T:=(Ts (by decide:1<2)).1 (Lu h5 hk)
  exact⟨by omega,by omega,Lu (Tn _ _) hk⟩
theorem Vu(hx:DB L T x): (Qh (dm x)).size≤(L+T) / 8+1:=by
 rw[QM]
 refine VU (Lb (ZZ hx).2.2 ?_)
 rw[show 256=2^8 from rfl,← Sd]
 exact Le (by decide) (by omega)
