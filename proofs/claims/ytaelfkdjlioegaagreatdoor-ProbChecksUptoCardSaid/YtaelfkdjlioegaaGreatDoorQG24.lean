/- The walks and plain laws beneath the statements. -/
import Derived.Test.YtaelfkdjlioegaaGreatDoorQG23
import Derived.Test.YtaelfkdjlioegaaGreatDoorQG10
import Derived.Deep.DeepCutAuto
namespace Go.Proofs.YtaelfkdjlioegaaGreatDoor
open Tryz
set_option maxHeartbeats 4000000
set_option maxRecDepth 100000
open Go.RowKit
def Q6(z n:Int): Int:=if 0≤n then z*2^n.toNat else z / 2^(-n).toNat
theorem CY(b:Bool)(v k:Nat): Qb b (v*2^k)=Qb b v*2^k:=by
 cases b
 ·simp[Qb]
 ·simp[Qb,Ud]
theorem fy{z:Int}{k k':Nat}(h:z.natAbs<2^k)(hk:k≤k'): z / 2^k=z / 2^k':=by
 have key:∀j:Nat,z.natAbs<2^j→z / 2^j=if z<0 then -1 else 0:=by
  intro j hj
  have hc:((2^j:Nat):Int)=2^j:=by simp
  rw[← hc]
  generalize 2^j=M at *
  split
  ·have e:z=((M:Int)-z.natAbs)+(M:Int)*(-1):=by omega
   rw[e,Int.add_mul_ediv_left _ _ (by omega),Int.ediv_eq_zero_of_lt (by omega) (by omega)];rfl
  ·exact Int.ediv_eq_zero_of_lt (by omega) (by omega)
 rw[key k h,key k' (Lb h (Le (by decide) hk))]
theorem Wq{v m:Nat}(h0:v≠0): (tz v<m↔v % 2^m≠0):=by
 obtain⟨r,hr⟩:=DP h0
 generalize tz v=t at *
 constructor
 ·intro hlt h
  have hd:=Nat.dvd_of_mod_eq_zero h
  obtain⟨d,rfl⟩:∃d,m=t+1+d:=⟨m-t-1,by omega⟩
  rw[hr,Sb,Ll]at hd
  have hd2:=Nat.dvd_of_mul_dvd_mul_left (Lq t) hd
  rw[Ll]at hd2
  have h2:2 ∣ 2*r+1:=Nat.dvd_trans ⟨2^d,by rw[Rn]⟩ hd2
  omega
 ·intro h
  apply Tr
  intro hle
  apply h
  obtain⟨d,rfl⟩:∃d,t=m+d:=⟨t-m,by omega⟩
  rw[hr,Ll,Lw]
  exact Nat.mul_mod_right _ _
theorem UO(s:ByteArray)(b:Bool)(n:Int)(w:World)(hs:s.size≤4294967296)(h0:0≤n)(hn:n≤68719476736):
  Calls prog 122 #[.agg #[.bool b,.string s],.int .i64 n] w fun e w'=>e=.returned (.agg #[.bool (neg (Qb b (Qa s)*2^n.toNat)),.string (Qh (Qb b (Qa s)*2^n.toNat))])∧Below w.heap.size w w':=by
 have c1:=Lib.hid (fun W=>cK s n W hs hn)
 have c2:=Lib.hid (fun W=>YG (Qx (Qa s*2^n.toNat)) b W)
 rw[XB,CY]at c2
 go_enter func122,ntmps122
 go_wp2_with fail
 have X1:=(Bx.new w 30 #[.bool b,.string s]).alloc (.cells #[.bool false,.string ⟨#[]⟩] 30)
 have X2:=Bx.at1 w (.cells #[.bool b,.string s] 30) 30 #[.bool false,.string ⟨#[]⟩]
 have hB:=b2 w (.cells #[.bool b,.string s] 30) (.cells #[.bool false,.string ⟨#[]⟩] 30)
 generalize (w.alloc (.cells #[.bool b,.string s] 30)).alloc (.cells #[.bool false,.string ⟨#[]⟩] 30)=w0 at *
 have hl0:=X1.lt
 have hl1:=X2.lt
 obtain⟨p1,p2,p3,p4⟩:=(X1).two
 obtain⟨q1,q2,q3,q4⟩:=(X2).two
 go_region_held3 (fun w'=>w'.cell? ⟨w.heap.size,0,none⟩=some (.bool b)∧w'.cell? ⟨w.heap.size,1,none⟩=some (.string s)) (first|exact⟨p1,p2⟩|exact⟨L7 hb p1,L7 hb p2⟩|exact⟨L7 hb2 (L7 hb p1),L7 hb2 (L7 hb p2)⟩|exact⟨Xh (L7 hb2 (L7 hb p1)) (by omega) _ _,Xh (L7 hb2 (L7 hb p2)) (by omega) _ _⟩|exact⟨L7 (b1 wm _) (L7 hb2 (L7 hb p1)),L7 (b1 wm _) (L7 hb2 (L7 hb p2))⟩)
  (first
   | (go_at_call 144;refine(c1.out w0.drew).mono ?_;rintro e wn ⟨rfl,hb'⟩;have hb:=KJ hb';clear hb')
   | (go_at_call 145;refine(c2.out wn).mono ?_;rintro e wm ⟨rfl,hb2⟩;obtain⟨t1,t2,t3,t4⟩:=((X2.later hb).later hb2).two))
 go_wp2
 exact bodyPost_ret (v:=.agg #[.bool (neg (Qb b (Qa s)*2^n.toNat)),.string (Qh (Qb b (Qa s)*2^n.toNat))]) (by simp[results,results122,go_sem,(((X2.later hb).later hb2).set2 _ _).cel]) rfl ⟨rfl,Kq (nxt (nxt hB hb) hb2) (Lf _ 1) _ _⟩
theorem N4(s:ByteArray)(n:Int)(m:Nat)(w:World)(hs:s.size≤4294967296)(_hs2:s.size≤536870912)(h0:n<0)(hm:max n (-1099511627776)=-(m:Int))(hmb:m≤1099511627776)(hT:TabAt 0 Lib.deBruijn64tab w):
  Calls prog 122 #[.agg #[.bool false,.string s],.int .i64 n] w fun e w'=>e=.returned (.agg #[.bool (neg (Qb false (Qa s / 2^m))),.string (Qh (Qb false (Qa s / 2^m)))])∧Below w.heap.size w w':=by
 have c1:=fun W=>DX s (m:Int) W hs (by omega)
 simp only[Ro]at c1
 have c2:=fun W=>YG (Qx (Qa s / 2^m)) false W
 rw[XB]at c2
 have hw2:IntKind.i64.wrap (- -(m:Int))=(m:Int):=by rw[Tp];exact Ln _ (by omega)
 exact
 RetAt.at<|Qi Qk mixed (fun a w=>call122 a w) func122 ntmps122 results122 _ rfl _ [.br false,.o 3 1 (.set (.int .i64 ((-(m:Int))))),.reg 10 [],.o 4 3 (.eq (iV (m:Int))),.o 4 4 (.ret (sV (Qx (Qa s / 2^m)))),.o 4 8 (.ret (.agg [bV (neg (Qb false (Qa s / 2^m))),sV (Qh (Qb false (Qa s / 2^m)))]))] (fun W hW hR=>(fun(hT:Yk W)=>ZP (Lk (by omega):decide (n≥0)=false) (show Qt prog W (Builtin.max_ #[3,3] 3 #[.int .i64 n,.int .i64 (-1099511627776)]) (.int .i64 ((-(m:Int))))from by rw[← hm];exact JP _ _ _ _ _ _ _) (wn hw2) (rc W (fun a w=>call146 a w) c1) (rc W (fun a w=>call145 a w) c2)<|hR) (Qn hT hW)) fun W=>by kernel_rfl
theorem MX(s:ByteArray)(n:Int)(m:Nat)(w:World)(hs:s.size≤4294967296)(_hs2:s.size≤536870912)(h0:n<0)(hm:max n (-1099511627776)=-(m:Int))(hmb:m≤1099511627776)(hz:Qa s=0)(hT:TabAt 0 Lib.deBruijn64tab w):
  Calls prog 122 #[.agg #[.bool true,.string s],.int .i64 n] w fun e w'=>e=.returned (.agg #[.bool (neg (Qb true (Qa s / 2^m))),.string (Qh (Qb true (Qa s / 2^m)))])∧Below w.heap.size w w':=by
 have c1:=fun W=>DX s (m:Int) W hs (by omega)
 simp only[Ro]at c1
 have c2:=fun W=>YG (Qx (Qa s / 2^m)) true W
 rw[XB]at c2
 have hw2:IntKind.i64.wrap (- -(m:Int))=(m:Int):=by rw[Tp];exact Ln _ (by omega)
 have cL:=fun W=>CP s W hs
 have cZ:=fun W=>Vn s W hs
 have hL:nd 1 (Qa s)=0:=by rw[hz];rfl
 exact
 RetAt.at<|Qi Qk mixed (fun a w=>call122 a w) func122 ntmps122 results122 _ rfl _ [.br false,.o 3 1 (.set (.int .i64 ((-(m:Int))))),.reg 10 [],.o 4 3 (.eq (iV (m:Int))),.o 4 4 (.ret (sV (Qx (Qa s / 2^m)))),.o 4 8 (.ret (.agg [bV (neg (Qb true (Qa s / 2^m))),sV (Qh (Qb true (Qa s / 2^m)))])),.o 5 5 (.ret (iV ((nd 1 (Qa s):Nat):Int))),.g 5 9 false] (fun W hW hR=>(fun(hT:Yk W)=>G4 (Lk (by omega):decide (n≥0)=false) (show Qt prog W (Builtin.max_ #[3,3] 3 #[.int .i64 n,.int .i64 (-1099511627776)]) (.int .i64 ((-(m:Int))))from by rw[← hm];exact JP _ _ _ _ _ _ _) (wn hw2) (rc W (fun a w=>call146 a w) c1) (rc W (fun a w=>call145 a w) c2) (rc W (fun a w=>call147 a w) cL) (show(decide (((nd 1 (Qa s):Nat):Int)>0))=false from Lk (by omega))<|hR) (Qn hT hW)) fun W=>by kernel_rfl
theorem MP(s:ByteArray)(n:Int)(m:Nat)(w:World)(hs:s.size≤4294967296)(_hs2:s.size≤536870912)(h0:n<0)(hm:max n (-1099511627776)=-(m:Int))(hmb:m≤1099511627776)(hz:Qa s≠0)(ht:Qa s % 2^m=0)(hT:TabAt 0 Lib.deBruijn64tab w):
  Calls prog 122 #[.agg #[.bool true,.string s],.int .i64 n] w fun e w'=>e=.returned (.agg #[.bool (neg (Qb true (Qa s / 2^m))),.string (Qh (Qb true (Qa s / 2^m)))])∧Below w.heap.size w w':=by
 have c1:=fun W=>DX s (m:Int) W hs (by omega)
 simp only[Ro]at c1
 have c2:=fun W=>YG (Qx (Qa s / 2^m)) true W
 rw[XB]at c2
 have hw2:IntKind.i64.wrap (- -(m:Int))=(m:Int):=by rw[Tp];exact Ln _ (by omega)
 have cL:=fun W=>CP s W hs
 have cZ:=fun W=>Vn s W hs
 have hL:0<nd 1 (Qa s):=Y8 hz
 have hZ:=@Wq (Qa s) m hz
 exact
 RetAt.at<|Qi Qk mixed (fun a w=>call122 a w) func122 ntmps122 results122 _ rfl _ [.br false,.o 3 1 (.set (.int .i64 ((-(m:Int))))),.reg 10 [],.o 4 3 (.eq (iV (m:Int))),.o 4 4 (.ret (sV (Qx (Qa s / 2^m)))),.o 4 8 (.ret (.agg [bV (neg (Qb true (Qa s / 2^m))),sV (Qh (Qb true (Qa s / 2^m)))])),.o 5 5 (.ret (iV ((nd 1 (Qa s):Nat):Int))),.g 5 9 true,.o 5 11 (.ret (iV ((tz (Qa s):Nat):Int))),.o 5 13 (.eq (iV (m:Int))),.br false] (fun W hW hR=>(fun(hT:Yk W)=>Yz (Lk (by omega):decide (n≥0)=false) (show Qt prog W (Builtin.max_ #[3,3] 3 #[.int .i64 n,.int .i64 (-1099511627776)]) (.int .i64 ((-(m:Int))))from by rw[← hm];exact JP _ _ _ _ _ _ _) (wn hw2) (rc W (fun a w=>call146 a w) c1) (rc W (fun a w=>call145 a w) c2) (rc W (fun a w=>call147 a w) cL) (show(decide (((nd 1 (Qa s):Nat):Int)>0))=true from Rf (by omega)) (rt hT (fun a w=>call121 a w) cZ)<|ZG (wn hw2) (show(decide (((tz (Qa s):Nat):Int)<(m:Int)))=false from Lk (by omega))<|hR) (Qn hT hW)) fun W=>by kernel_rfl
theorem NO(s:ByteArray)(n:Int)(m:Nat)(w:World)(hs:s.size≤4294967296)(hs2:s.size≤536870912)(h0:n<0)(hm:max n (-1099511627776)=-(m:Int))(hmb:m≤1099511627776)(hz:Qa s≠0)(ht:Qa s % 2^m≠0)(hT:TabAt 0 Lib.deBruijn64tab w):
  Calls prog 122 #[.agg #[.bool true,.string s],.int .i64 n] w fun e w'=>e=.returned (.agg #[.bool (neg (Qb true (Qa s / 2^m)-1)),.string (Qh (Qb true (Qa s / 2^m)-1))])∧Below w.heap.size w w':=by
 have c1:=fun W=>DX s (m:Int) W hs (by omega)
 simp only[Ro]at c1
 have c2:=fun W=>YG (Qx (Qa s / 2^m)) true W
 rw[XB]at c2
 have hw2:IntKind.i64.wrap (- -(m:Int))=(m:Int):=by rw[Tp];exact Ln _ (by omega)
 have cL:=fun W=>CP s W hs
 have cZ:=fun W=>Vn s W hs
 have hL:0<nd 1 (Qa s):=Y8 hz
 have hZ:=@Wq (Qa s) m hz
 have hzs:(Qh (Qb true (Qa s / 2^m))).size≤536870912:=by
   rw[QM]
   refine L8 (X9 (y:=Qb true (Qa s)) ?_) (L8 (XJ _ _) hs2)
   rw[Q0,Q0];exact Rl _ _
 have cS:=fun W=>El (Qh (Qb true (Qa s / 2^m))) (Qh 1) (neg (Qb true (Qa s / 2^m))) (neg 1) W hzs (by decide)
 rw[QR,QR]at cS
 exact
 RetAt.at<|Qi Qk mixed (fun a w=>call122 a w) func122 ntmps122 results122 _ rfl _ [.br false,.o 3 1 (.set (.int .i64 ((-(m:Int))))),.reg 10 [],.o 4 3 (.eq (iV (m:Int))),.o 4 4 (.ret (sV (Qx (Qa s / 2^m)))),.o 4 8 (.ret (.agg [bV (neg (Qb true (Qa s / 2^m))),sV (Qh (Qb true (Qa s / 2^m)))])),.o 5 5 (.ret (iV ((nd 1 (Qa s):Nat):Int))),.g 5 9 true,.o 5 11 (.ret (iV ((tz (Qa s):Nat):Int))),.o 5 13 (.eq (iV (m:Int))),.br true,.reg 3 [],.o 6 1 (.ret (.agg [bV (neg 1),sV (Qh 1)])),.o 6 2 (.ret (.agg [bV (neg ((Qb true (Qa s / 2^m))-1)),sV (Qh ((Qb true (Qa s / 2^m))-1))]))] (fun W hW hR=>(fun(hT:Yk W)=>Yz (Lk (by omega):decide (n≥0)=false) (show Qt prog W (Builtin.max_ #[3,3] 3 #[.int .i64 n,.int .i64 (-1099511627776)]) (.int .i64 ((-(m:Int))))from by rw[← hm];exact JP _ _ _ _ _ _ _) (wn hw2) (rc W (fun a w=>call146 a w) c1) (rc W (fun a w=>call145 a w) c2) (rc W (fun a w=>call147 a w) cL) (show(decide (((nd 1 (Qa s):Nat):Int)>0))=true from Rf (by omega)) (rt hT (fun a w=>call121 a w) cZ)<|Jj (wn hw2) (show(decide (((tz (Qa s):Nat):Int)<(m:Int)))=true from Rf (by omega)) (rc W (fun a w=>call148 a w) fun W=>AX 1 W (by decide) (by decide)) (rc W (fun a w=>call131 a w) cS)<|hR) (Qn hT hW)) fun W=>by kernel_rfl
theorem Dj(s:ByteArray)(b:Bool)(n:Int)(w:World)(hs:s.size≤536870912)(hn:n≤68719476736)(hn2:-9223372036854775808≤n)(hT:TabAt 0 Lib.deBruijn64tab w):
  Calls prog 122 #[.agg #[.bool b,.string s],.int .i64 n] w fun e w'=>e=.returned (.agg #[.bool (neg (Q6 (Qb b (Qa s)) n)),.string (Qh (Q6 (Qb b (Qa s)) n))])∧Below w.heap.size w w':=by
 have hs4:s.size≤4294967296:=by omega
 by_cases h0:0≤n
 ·have e:Q6 (Qb b (Qa s)) n=Qb b (Qa s)*2^n.toNat:=by unfold Q6;rw[if_pos h0]
  rw[e]
  exact UO s b n w hs4 h0 hn
 ·obtain⟨m,hm⟩:∃m:Nat,max n (-1099511627776)=-(m:Int):=⟨(max n (-1099511627776)).natAbs,by omega⟩
  have hmb:m≤1099511627776:=by omega
  obtain⟨K,hK⟩:∃K:Nat,K=1099511627776:=⟨_,rfl⟩
  have hlt:Qa s<2^K:=by
   refine Lb (Vo s) ?_
   rw[show 256=2^8 from rfl,← Sd]
   exact Le (by decide) (by omega)
  have e:Q6 (Qb b (Qa s)) n=Qb b (Qa s) / 2^m:=by
   unfold Q6;rw[if_neg h0]
   by_cases hc:-1099511627776≤n
   ·congr 2;omega
   ·obtain rfl:m=K:=by omega
    exact(fy (by rw[Q0];exact hlt) (by omega)).symm
  rw[e,UB]
  clear e hlt
  cases b
  ·rw[if_neg (by simp),Int.sub_zero]
   exact N4 s n m w hs4 hs (by omega) hm hmb hT
  ·by_cases hz:Qa s=0
   ·rw[if_neg (by rw[hz];simp),Int.sub_zero]
    exact MX s n m w hs4 hs (by omega) hm hmb hz hT
   ·by_cases ht:Qa s % 2^m=0
    ·rw[if_neg (by simp[ht]),Int.sub_zero]
     exact MP s n m w hs4 hs (by omega) hm hmb hz ht hT
    ·rw[if_pos ⟨rfl,ht⟩]
     exact NO s n m w hs4 hs (by omega) hm hmb hz ht hT
theorem MQ(z:Int)(t:Nat): Q6 z (-(t:Int))=z / 2^t:=by
 unfold Q6
 by_cases h:t=0
 ·subst h;simp
 ·rw[if_neg (by omega),Tp,Ro]
theorem IR{s:ByteArray}(h:Qa s≠0): tz (Qa s)≤8*s.size:=by
 obtain⟨q,hq⟩:=DP h
 have h1:=Vo s
 rw[show 256=2^8 from rfl,← Sd]at h1
 have h2:2^tz (Qa s)≤Qa s:=by
  have h3:2^tz (Qa s)*1≤2^tz (Qa s)*(2*q+1):=Lt _ (by omega)
  rw[Si,← hq]at h3;exact h3
 have h4:=(Ts (by decide:1<2)).1 (Lu h2 h1)
 omega
theorem gR(s:ByteArray)(b:Bool)(e k:Int)(w:World)(hs:s.size≤536870912)(h1:-9223372036854775808≤e-k)(h2:e-k≤68719476736)(hT:TabAt 0 Lib.deBruijn64tab w):
  Calls prog 130 #[.int .i64 k,.agg #[.bool b,.string s,.int .i64 e]] w fun r w'=>r=.returned (.agg #[.bool (neg (Q6 (Qb b (Qa s)) (e-k))),.string (Qh (Q6 (Qb b (Qa s)) (e-k)))])∧Below w.heap.size w w':=by
 have HT:=Lib.hid hT
 have hw:IntKind.i64.wrap (e-k)=e-k:=Ln _ (by omega)
 have cS:=Lib.hid (fun W (h:TabAt 0 Lib.deBruijn64tab W)=>Dj s b (e-k) W hs h2 h1 h)
 clear hT hs h1 h2
 go_enter func130,ntmps130
 go_upto_region 1 with(fail)
 have X1:=(Bx.new w 32 #[.bool b,.string s,.int .i64 e]).alloc (.cells #[.bool false,.string ⟨#[]⟩] 30)
 have X2:=Bx.at1 w (.cells #[.bool b,.string s,.int .i64 e] 32) 30 #[.bool false,.string ⟨#[]⟩]
 have hB:=b2 w (.cells #[.bool b,.string s,.int .i64 e] 32) (.cells #[.bool false,.string ⟨#[]⟩] 30)
 generalize (w.alloc (.cells #[.bool b,.string s,.int .i64 e] 32)).alloc (.cells #[.bool false,.string ⟨#[]⟩] 30)=w0 at *
 have hl0:=X1.lt
 have hl1:=X2.lt
 obtain⟨p1,p2,p5,p3,p4,p6⟩:=X1.three
 obtain⟨q1,q2,q3,q4⟩:=X2.two
 go_wp2_with fail
 refine(cS.out _ (Qn HT.out hB)).mono ?_
 rintro e w1 ⟨rfl,hb⟩
 replace X1:=X1.later hb
 replace X2:=X2.later hb
 replace hB:=nxt hB hb
 clear hb
 clear p1 p2 p3 p4 p5 p6 q1 q2 q3 q4
 obtain⟨p1,p2,p5,p3,p4,p6⟩:=X1.three
 obtain⟨q1,q2,q3,q4⟩:=X2.two
 go_wp2_with fail
 exact bodyPost_ret (v:=.agg #[.bool (neg (Q6 (Qb b (Qa s)) (e-k))),.string (Qh (Q6 (Qb b (Qa s)) (e-k)))]) (by simp[results,results130,go_sem,(X2.set2 _ _).cel]) rfl ⟨rfl,Kq hB (Lf _ 1) _ _⟩
theorem NX(s:ByteArray)(b:Bool)(e:Int)(w:World)(hz:Qb b (Qa s)=0):
  Calls prog 96 #[.agg #[.bool b,.string s],.int .i64 e] w fun r w'=>r=.returned (.agg #[.bool false,.string ⟨#[]⟩,.int .i64 0])∧Below w.heap.size w w':=by
 have cG:=Lib.hid (fun W=>KZ s b W)
 rw[hz,show ZB 0=0 from rfl]at cG
 clear hz
 go_enter func96,ntmps96
 go_upto_region 1 with(fail)
 have X1:=(Bx.new w 30 #[.bool b,.string s]).alloc (.cells #[.bool false,.string ⟨#[]⟩,.int .i64 (0)] 32)
 have X2:=Bx.at1 w (.cells #[.bool b,.string s] 30) 32 #[.bool false,.string ⟨#[]⟩,.int .i64 (0)]
 have hB:=b2 w (.cells #[.bool b,.string s] 30) (.cells #[.bool false,.string ⟨#[]⟩,.int .i64 (0)] 32)
 generalize (w.alloc (.cells #[.bool b,.string s] 30)).alloc (.cells #[.bool false,.string ⟨#[]⟩,.int .i64 (0)] 32)=w0 at *
 have hl0:=X1.lt
 have hl1:=X2.lt
 obtain⟨p1,p2,p3,p4⟩:=X1.two
 obtain⟨q1,q2,q5,q3,q4,q6⟩:=X2.three
 go_wp2_with fail
 refine(cG.out _).mono ?_
 rintro e w1 ⟨rfl,hb⟩
 replace X1:=X1.later hb
 replace X2:=X2.later hb
 replace hB:=nxt hB hb
 clear hb
 clear p1 p2 p3 p4 q1 q2 q3 q4 q5 q6
 obtain⟨p1,p2,p3,p4⟩:=X1.two
 obtain⟨q1,q2,q5,q3,q4,q6⟩:=X2.three
 go_wp2_with fail
 exact bodyPost_ret (v:=.agg #[.bool false,.string ⟨#[]⟩,.int .i64 0]) (by simp[results,results96,go_sem,(X2.set3 _ _ _).cel]) rfl ⟨rfl,cx hB (Lf _ 1) _ _ _⟩
theorem Ox(s:ByteArray)(b:Bool)(e g q:Int)(t:Nat)(w:World)(hg:g≠0)(he1:-4611686018427387904≤e)(he2:e≤4611686018427387904)(ht:t≤68719476736)(hT:TabAt 0 Lib.deBruijn64tab w)(cG:Hid (∀W:World,Calls prog 103 #[.agg #[.bool b,.string s]] W fun r w'=>r=.returned (.int .i64 g)∧Below W.heap.size W w'))(cZ:Hid (∀W:World,TabAt 0 Lib.deBruijn64tab W→Calls prog 121 #[.string s] W fun r w'=>r=.returned (.int .i64 (t:Nat))∧Below W.heap.size W w'))(cS:Hid (∀W:World,TabAt 0 Lib.deBruijn64tab W→Calls prog 122 #[.agg #[.bool b,.string s],.int .i64 (-(t:Int))] W fun r w'=>r=.returned (.agg #[.bool (neg q),.string (Qh q)])∧Below W.heap.size W w')):
  Calls prog 96 #[.agg #[.bool b,.string s],.int .i64 e] w fun r w'=>r=.returned (.agg #[.bool (neg q),.string (Qh q),.int .i64 (e+t)])∧Below w.heap.size w w':=by
 have HT:=Lib.hid hT
 have hw1:IntKind.i64.wrap (e+t)=e+t:=Ln _ (by omega)
 have hw2:IntKind.i64.wrap (-(t:Int))=-(t:Int):=Ln _ (by omega)
 clear hT he1 he2 ht
 go_enter func96,ntmps96
 go_upto_region 1 with(fail)
 have X1:=(Bx.new w 30 #[.bool b,.string s]).alloc (.cells #[.bool false,.string ⟨#[]⟩,.int .i64 (0)] 32)
 have X2:=Bx.at1 w (.cells #[.bool b,.string s] 30) 32 #[.bool false,.string ⟨#[]⟩,.int .i64 (0)]
 have hB:=b2 w (.cells #[.bool b,.string s] 30) (.cells #[.bool false,.string ⟨#[]⟩,.int .i64 (0)] 32)
 generalize (w.alloc (.cells #[.bool b,.string s] 30)).alloc (.cells #[.bool false,.string ⟨#[]⟩,.int .i64 (0)] 32)=w0 at *
 have hl0:=X1.lt
 have hl1:=X2.lt
 obtain⟨p1,p2,p3,p4⟩:=X1.two
 obtain⟨q1,q2,q5,q3,q4,q6⟩:=X2.three
 go_wp2_with fail
 refine(cG.out _).mono ?_
 rintro e w1 ⟨rfl,hb⟩
 replace X1:=X1.later hb
 replace X2:=X2.later hb
 replace hB:=nxt hB hb
 clear hb
 clear p1 p2 p3 p4 q1 q2 q3 q4 q5 q6
 obtain⟨p1,p2,p3,p4⟩:=X1.two
 obtain⟨q1,q2,q5,q3,q4,q6⟩:=X2.three
 go_wp2_with fail
 refine(cZ.out _ (Qn HT.out hB)).mono ?_
 rintro e w2 ⟨rfl,hb⟩
 replace X1:=X1.later hb
 replace X2:=X2.later hb
 replace hB:=nxt hB hb
 clear hb
 clear p1 p2 p3 p4 q1 q2 q3 q4 q5 q6
 obtain⟨p1,p2,p3,p4⟩:=X1.two
 obtain⟨q1,q2,q5,q3,q4,q6⟩:=X2.three
 go_wp2_with fail
 refine(cS.out _ (Qn HT.out hB)).mono ?_
 rintro e w3 ⟨rfl,hb⟩
 replace X1:=X1.later hb
 replace X2:=X2.later hb
 replace hB:=nxt hB hb
 clear hb
 clear p1 p2 p3 p4 q1 q2 q3 q4 q5 q6
 obtain⟨p1,p2,p3,p4⟩:=X1.two
 obtain⟨q1,q2,q5,q3,q4,q6⟩:=X2.three
 go_wp2_with fail
 exact bodyPost_ret (v:=.agg #[.bool (neg q),.string (Qh q),.int .i64 (e+t)]) (by simp[results,results96,go_sem,(X2.set3 _ _ _).cel]) rfl ⟨rfl,cx hB (Lf _ 1) _ _ _⟩
theorem GA(s:ByteArray)(b:Bool)(e:Int)(w:World)(hs:s.size≤536870912)(he1:-4611686018427387904≤e)(he2:e≤4611686018427387904)(hT:TabAt 0 Lib.deBruijn64tab w):
  Calls prog 96 #[.agg #[.bool b,.string s],.int .i64 e] w fun r w'=>r=.returned (.agg #[.bool (neg (dm (dy (Qb b (Qa s)) e))),.string (Qh (dm (dy (Qb b (Qa s)) e))),.int .i64 (de (dy (Qb b (Qa s)) e))])∧Below w.heap.size w w':=by
 by_cases hz:Qb b (Qa s)=0
 ·have h:=NX s b e w hz
  rw[hz,Zu];exact h
 ·have hv:Qa s≠0:=fun h=>hz (by rw[h,J1])
  have ht:=IR hv
  obtain⟨h1,h2⟩:=MT e hz
  rw[Q0]at h1 h2
  rw[h1,h2]
  have cS:=Lib.hid (fun W (h:TabAt 0 Lib.deBruijn64tab W)=>Dj s b (-(tz (Qa s):Nat)) W hs (by omega) (by omega) h)
  rw[MQ]at cS
  exact Ox s b e _ _ (tz (Qa s)) w (fun h=>hz (sgn_eq.1 h)) he1 he2 (by omega) hT (Lib.hid (fun W=>KZ s b W)) (Lib.hid (fun W h=>Vn s W (by omega) h)) cS
theorem iK(s:ByteArray)(b:Bool)(e:Int)(x:Dyadic)(w:World)(hT:TabAt 0 Lib.deBruijn64tab w)(cM:Hid (∀W:World,TabAt 0 Lib.deBruijn64tab W→Calls prog 96 #[.agg #[.bool b,.string s],.int .i64 e] W fun r w'=>r=.returned (.agg #[.bool (neg (dm x)),.string (Qh (dm x)),.int .i64 (de x)])∧Below W.heap.size W w')):
  Calls prog 61 #[.agg #[.bool b,.string s,.int .i64 e]] w fun r w'=>r=.returned (.agg #[.bool (neg (dm x)),.string (Qh (dm x)),.int .i64 (de x)])∧Below w.heap.size w w':=by
 have HT:=Lib.hid hT
 clear hT
 go_enter func61,ntmps61
 go_upto_region 1 with(fail)
 have X1:=(Bx.new w 32 #[.bool b,.string s,.int .i64 e]).alloc (.cells #[.bool false,.string ⟨#[]⟩,.int .i64 (0)] 32)
 have X2:=Bx.at1 w (.cells #[.bool b,.string s,.int .i64 e] 32) 32 #[.bool false,.string ⟨#[]⟩,.int .i64 (0)]
 have hB:=b2 w (.cells #[.bool b,.string s,.int .i64 e] 32) (.cells #[.bool false,.string ⟨#[]⟩,.int .i64 (0)] 32)
 generalize (w.alloc (.cells #[.bool b,.string s,.int .i64 e] 32)).alloc (.cells #[.bool false,.string ⟨#[]⟩,.int .i64 (0)] 32)=w0 at *
 have hl0:=X1.lt
 have hl1:=X2.lt
 obtain⟨p1,p2,p5,p3,p4,p6⟩:=X1.three
 obtain⟨q1,q2,q5,q3,q4,q6⟩:=X2.three
 go_wp2_with fail
 refine(cM.out _ (Qn HT.out hB)).mono ?_
 rintro e w1 ⟨rfl,hb⟩
 replace X1:=X1.later hb
 replace X2:=X2.later hb
 replace hB:=nxt hB hb
 clear hb
 clear p1 p2 p3 p4 p5 p6 q1 q2 q3 q4 q5 q6
 obtain⟨p1,p2,p5,p3,p4,p6⟩:=X1.three
 obtain⟨q1,q2,q5,q3,q4,q6⟩:=X2.three
 go_wp2_with fail
 exact bodyPost_ret (v:=.agg #[.bool (neg (dm x)),.string (Qh (dm x)),.int .i64 (de x)]) (by simp[results,results61,go_sem,(X2.set3 _ _ _).cel]) rfl ⟨rfl,cx hB (Lf _ 1) _ _ _⟩
theorem Vg(s:ByteArray)(b:Bool)(e:Int)(w:World)(hs:s.size≤536870912)(he1:-4611686018427387904≤e)(he2:e≤4611686018427387904)(hT:TabAt 0 Lib.deBruijn64tab w):
  Calls prog 61 #[.agg #[.bool b,.string s,.int .i64 e]] w fun r w'=>r=.returned (.agg #[.bool (neg (dm (dy (Qb b (Qa s)) e))),.string (Qh (dm (dy (Qb b (Qa s)) e))),.int .i64 (de (dy (Qb b (Qa s)) e))])∧Below w.heap.size w w':=by
 exact iK s b e _ w hT (Lib.hid (fun W h=>GA s b e W hs he1 he2 h))
theorem KX(s:ByteArray)(b:Bool)(e:Int)(w:World):
  Calls prog 67 #[.agg #[.bool b,.string s,.int .i64 e]] w fun r w'=>r=.returned (.int .i64 (Zs (dy (Qb b (Qa s)) e)))∧Below w.heap.size w w':=by
 rw[DC]
 have cG:=Lib.hid (fun W=>KZ s b W)
 generalize ZB (Qb b (Qa s))=g at *
 go_enter func67,ntmps67
 go_upto_region 1 with(fail)
 have X1:=Bx.new w 32 #[.bool b,.string s,.int .i64 e]
 have hB:=b1 w (.cells #[.bool b,.string s,.int .i64 e] 32)
 generalize w.alloc (.cells #[.bool b,.string s,.int .i64 e] 32)=w0 at *
 have hl0:=X1.lt
 obtain⟨p1,p2,p5,p3,p4,p6⟩:=X1.three
 go_wp2_with fail
 refine(cG.out _).mono ?_
 rintro e w1 ⟨rfl,hb⟩
 replace X1:=X1.later hb
 replace hB:=nxt hB hb
 clear hb
 clear p1 p2 p3 p4 p5 p6
 obtain⟨p1,p2,p5,p3,p4,p6⟩:=X1.three
 go_wp2
 go_ret
 exact⟨rfl,hB⟩
