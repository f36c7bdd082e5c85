/- The walks and plain laws beneath the statements. -/
import Derived.Test.YtaelfkdjlioegaaGreatDoorQO11
import Derived.Test.YtaelfkdjlioegaaGreatDoorQO8
import Derived.Deep.DeepCutAuto
namespace Go.Proofs.YtaelfkdjlioegaaGreatDoor
set_option maxRecDepth 100000
open Go.RowKit
def shiftI(z n:Int): Int:=if 0≤n then z*2^n.toNat else z / 2^(-n).toNat
theorem ival_shl(b:Bool)(v k:Nat): ival b (v*2^k)=ival b v*2^k:=by
 cases b
 ·simp[ival]
 ·simp[ival,Int.neg_mul]
theorem shr_far{z:Int}{k k':Nat}(h:z.natAbs<2^k)(hk:k≤k'): z / 2^k=z / 2^k':=by
 have key:∀j:Nat,z.natAbs<2^j→z / 2^j=if z<0 then -1 else 0:=by
  intro j hj
  have hc:((2^j:Nat):Int)=2^j:=by simp
  rw[← hc]
  generalize 2^j=M at *
  split
  ·have e:z=((M:Int)-z.natAbs)+(M:Int)*(-1):=by omega
   rw[e,Int.add_mul_ediv_left _ _ (by omega),Int.ediv_eq_zero_of_lt (by omega) (by omega)];rfl
  ·exact Int.ediv_eq_zero_of_lt (by omega) (by omega)
 rw[key k h,key k' (Nat.lt_of_lt_of_le h (Nat.pow_le_pow_right (by decide) hk))]
theorem tz_mod{v m:Nat}(h0:v≠0): (tz v<m↔v % 2^m≠0):=by
 obtain⟨r,hr⟩:=tz_spec h0
 generalize tz v=t at *
 constructor
 ·intro hlt h
  have hd:=Nat.dvd_of_mod_eq_zero h
  obtain⟨d,rfl⟩:∃d,m=t+1+d:=⟨m-t-1,by omega⟩
  rw[hr,Nat.add_assoc,Nat.pow_add]at hd
  have hd2:=Nat.dvd_of_mul_dvd_mul_left (Nat.two_pow_pos t) hd
  rw[Nat.pow_add]at hd2
  have h2:2 ∣ 2*r+1:=Nat.dvd_trans ⟨2^d,by rw[Nat.pow_one]⟩ hd2
  omega
 ·intro h
  apply Nat.lt_of_not_le
  intro hle
  apply h
  obtain⟨d,rfl⟩:∃d,t=m+d:=⟨t-m,by omega⟩
  rw[hr,Nat.pow_add,Nat.mul_assoc]
  exact Nat.mul_mod_right _ _
set_option maxHeartbeats 400000 in
theorem wShift_up(s:ByteArray)(b:Bool)(n:Int)(w:World)(hs:s.size≤4294967296)(h0:0≤n)(hn:n≤68719476736):
  Calls Tryz.prog 122 #[.agg #[.bool b,.string s],.int .i64 n] w fun e w'=>e=.returned (.agg #[.bool (neg (ival b (sval s)*2^n.toNat)),.string (mag (ival b (sval s)*2^n.toNat))])∧Below w.heap.size w w':=by
 have c1:=Lib.hid (fun W=>nShl_any s n W hs hn)
 have c2:=Lib.hid (fun W=>wMade_any (nstr (sval s*2^n.toNat)) b W)
 rw[sval_nstr,ival_shl]at c2
 go_enter Tryz.func122,Tryz.ntmps122
 go_wp2_with fail
 have X1:=(Bx.new w 30 #[.bool b,.string s]).alloc (.cells #[.bool false,.string ⟨#[]⟩] 30)
 have X2:=Bx.at1 w (.cells #[.bool b,.string s] 30) 30 #[.bool false,.string ⟨#[]⟩]
 have hB:=b2 w (.cells #[.bool b,.string s] 30) (.cells #[.bool false,.string ⟨#[]⟩] 30)
 generalize (w.alloc (.cells #[.bool b,.string s] 30)).alloc (.cells #[.bool false,.string ⟨#[]⟩] 30)=w0 at *
 have hl0:=X1.lt
 have hl1:=X2.lt
 obtain⟨p1,p2,p3,p4⟩:=(X1).two
 obtain⟨q1,q2,q3,q4⟩:=(X2).two
 go_region_held3 (fun w'=>w'.cell? ⟨w.heap.size,0,none⟩=some (.bool b)∧w'.cell? ⟨w.heap.size,1,none⟩=some (.string s)) (first|exact⟨p1,p2⟩|exact⟨cell_later hb p1,cell_later hb p2⟩|exact⟨cell_later hb2 (cell_later hb p1),cell_later hb2 (cell_later hb p2)⟩|exact⟨cell_far2 (cell_later hb2 (cell_later hb p1)) (by omega) _ _,cell_far2 (cell_later hb2 (cell_later hb p2)) (by omega) _ _⟩|exact⟨cell_later (b1 wm _) (cell_later hb2 (cell_later hb p1)),cell_later (b1 wm _) (cell_later hb2 (cell_later hb p2))⟩)
  (first
   | (go_at_call 144;refine(c1.out w0.drew).mono ?_;rintro e wn ⟨rfl,hb'⟩;have hb:=undrew hb';clear hb')
   | (go_at_call 145;refine(c2.out wn).mono ?_;rintro e wm ⟨rfl,hb2⟩;obtain⟨t1,t2,t3,t4⟩:=((X2.later hb).later hb2).two))
 go_wp2
 exact bodyPost_ret (v:=.agg #[.bool (neg (ival b (sval s)*2^n.toNat)),.string (mag (ival b (sval s)*2^n.toNat))]) (by simp[results,Tryz.results122,go_sem,(((X2.later hb).later hb2).set2 _ _).cel]) rfl ⟨rfl,st2 (nxt (nxt hB hb) hb2) (Nat.le_add_right _ 1) _ _⟩
set_option maxHeartbeats 400000 in
theorem wShift_pos(s:ByteArray)(n:Int)(m:Nat)(w:World)(hs:s.size≤4294967296)(_hs2:s.size≤536870912)(h0:n<0)(hm:max n (-1099511627776)=-(m:Int))(hmb:m≤1099511627776)(hT:TabAt 0 Lib.deBruijn64tab w):
  Calls Tryz.prog 122 #[.agg #[.bool false,.string s],.int .i64 n] w fun e w'=>e=.returned (.agg #[.bool (neg (ival false (sval s / 2^m))),.string (mag (ival false (sval s / 2^m)))])∧Below w.heap.size w w':=by
 have c1:=fun W=>nShr_any s (m:Int) W hs (by omega)
 simp only[Int.toNat_natCast]at c1
 have c2:=fun W=>wMade_any (nstr (sval s / 2^m)) false W
 rw[sval_nstr]at c2
 have hw2:IntKind.i64.wrap (- -(m:Int))=(m:Int):=by rw[Int.neg_neg];exact IntWalk.i64_in _ (by omega)
 exact
 RetAt.at<|ret_sk ttOk mixed (fun a w=>Tryz.call122 a w) Tryz.func122 Tryz.ntmps122 Tryz.results122 _ rfl _ [.br false,.o 3 1 (.set (.int .i64 ((-(m:Int))))),.reg 10 [],.o 4 3 (.eq (iV (m:Int))),.o 4 4 (.ret (sV (nstr (sval s / 2^m)))),.o 4 8 (.ret (.agg [bV (neg (ival false (sval s / 2^m))),sV (mag (ival false (sval s / 2^m)))]))] (fun W hW hR=>(fun(hT:Tab0 W)=>aj5 (decide_eq_false (by omega):decide (n≥0)=false) (show RunOk Tryz.prog W (Builtin.max_ #[3,3] 3 #[.int .i64 n,.int .i64 (-1099511627776)]) (.int .i64 ((-(m:Int))))from by rw[← hm];exact max_ok _ _ _ _ _ _ _) (wn hw2) (rc W (fun a w=>Tryz.call146 a w) c1) (rc W (fun a w=>Tryz.call145 a w) c2)<|hR) (tab_keep hT hW)) fun W=>by kernel_rfl
set_option maxHeartbeats 400000 in
theorem wShift_zero(s:ByteArray)(n:Int)(m:Nat)(w:World)(hs:s.size≤4294967296)(_hs2:s.size≤536870912)(h0:n<0)(hm:max n (-1099511627776)=-(m:Int))(hmb:m≤1099511627776)(hz:sval s=0)(hT:TabAt 0 Lib.deBruijn64tab w):
  Calls Tryz.prog 122 #[.agg #[.bool true,.string s],.int .i64 n] w fun e w'=>e=.returned (.agg #[.bool (neg (ival true (sval s / 2^m))),.string (mag (ival true (sval s / 2^m)))])∧Below w.heap.size w w':=by
 have c1:=fun W=>nShr_any s (m:Int) W hs (by omega)
 simp only[Int.toNat_natCast]at c1
 have c2:=fun W=>wMade_any (nstr (sval s / 2^m)) true W
 rw[sval_nstr]at c2
 have hw2:IntKind.i64.wrap (- -(m:Int))=(m:Int):=by rw[Int.neg_neg];exact IntWalk.i64_in _ (by omega)
 have cL:=fun W=>nLen_any s W hs
 have cZ:=fun W=>nZeros_any s W hs
 have hL:nd 1 (sval s)=0:=by rw[hz];rfl
 exact
 RetAt.at<|ret_sk ttOk mixed (fun a w=>Tryz.call122 a w) Tryz.func122 Tryz.ntmps122 Tryz.results122 _ rfl _ [.br false,.o 3 1 (.set (.int .i64 ((-(m:Int))))),.reg 10 [],.o 4 3 (.eq (iV (m:Int))),.o 4 4 (.ret (sV (nstr (sval s / 2^m)))),.o 4 8 (.ret (.agg [bV (neg (ival true (sval s / 2^m))),sV (mag (ival true (sval s / 2^m)))])),.o 5 5 (.ret (iV ((nd 1 (sval s):Nat):Int))),.g 5 9 false,.g 5 10 false,.g 5 11 false,.g 5 12 false,.g 5 13 false,.g 5 14 false,.o 5 15 (.pk false)] (fun W hW hR=>(fun(hT:Tab0 W)=>aj8 (decide_eq_false (by omega):decide (n≥0)=false) (show RunOk Tryz.prog W (Builtin.max_ #[3,3] 3 #[.int .i64 n,.int .i64 (-1099511627776)]) (.int .i64 ((-(m:Int))))from by rw[← hm];exact max_ok _ _ _ _ _ _ _) (wn hw2) (rc W (fun a w=>Tryz.call146 a w) c1) (rc W (fun a w=>Tryz.call145 a w) c2) (rc W (fun a w=>Tryz.call147 a w) cL) (show(decide (((nd 1 (sval s):Nat):Int)>0))=false from decide_eq_false (by omega)) (show(decide (((nd 1 (sval s):Nat):Int)>0))=false from decide_eq_false (by omega))<|aj5 (show(decide (((nd 1 (sval s):Nat):Int)>0))=false from decide_eq_false (by omega)) (show(decide (((nd 1 (sval s):Nat):Int)>0))=false from decide_eq_false (by omega)) (show(decide (((nd 1 (sval s):Nat):Int)>0))=false from decide_eq_false (by omega)) (show(decide (((nd 1 (sval s):Nat):Int)>0))=false from decide_eq_false (by omega)) (show(decide (((nd 1 (sval s):Nat):Int)>0))=false from decide_eq_false (by omega))<|hR) (tab_keep hT hW)) fun W=>by kernel_rfl
set_option maxHeartbeats 400000 in
theorem wShift_even(s:ByteArray)(n:Int)(m:Nat)(w:World)(hs:s.size≤4294967296)(_hs2:s.size≤536870912)(h0:n<0)(hm:max n (-1099511627776)=-(m:Int))(hmb:m≤1099511627776)(hz:sval s≠0)(ht:sval s % 2^m=0)(hT:TabAt 0 Lib.deBruijn64tab w):
  Calls Tryz.prog 122 #[.agg #[.bool true,.string s],.int .i64 n] w fun e w'=>e=.returned (.agg #[.bool (neg (ival true (sval s / 2^m))),.string (mag (ival true (sval s / 2^m)))])∧Below w.heap.size w w':=by
 have c1:=fun W=>nShr_any s (m:Int) W hs (by omega)
 simp only[Int.toNat_natCast]at c1
 have c2:=fun W=>wMade_any (nstr (sval s / 2^m)) true W
 rw[sval_nstr]at c2
 have hw2:IntKind.i64.wrap (- -(m:Int))=(m:Int):=by rw[Int.neg_neg];exact IntWalk.i64_in _ (by omega)
 have cL:=fun W=>nLen_any s W hs
 have cZ:=fun W=>nZeros_any s W hs
 have hL:0<nd 1 (sval s):=nd_pos hz
 have hZ:=@tz_mod (sval s) m hz
 exact
 RetAt.at<|ret_sk ttOk mixed (fun a w=>Tryz.call122 a w) Tryz.func122 Tryz.ntmps122 Tryz.results122 _ rfl _ [.br false,.o 3 1 (.set (.int .i64 ((-(m:Int))))),.reg 10 [],.o 4 3 (.eq (iV (m:Int))),.o 4 4 (.ret (sV (nstr (sval s / 2^m)))),.o 4 8 (.ret (.agg [bV (neg (ival true (sval s / 2^m))),sV (mag (ival true (sval s / 2^m)))])),.o 5 5 (.ret (iV ((nd 1 (sval s):Nat):Int))),.g 5 9 true,.g 5 10 true,.g 5 11 true,.o 5 11 (.ret (iV ((tz (sval s):Nat):Int))),.g 5 12 true,.g 5 13 true,.o 5 13 (.eq (iV (m:Int))),.g 5 14 true,.o 5 15 (.pk true),.br false] (fun W hW hR=>(fun(hT:Tab0 W)=>aj8 (decide_eq_false (by omega):decide (n≥0)=false) (show RunOk Tryz.prog W (Builtin.max_ #[3,3] 3 #[.int .i64 n,.int .i64 (-1099511627776)]) (.int .i64 ((-(m:Int))))from by rw[← hm];exact max_ok _ _ _ _ _ _ _) (wn hw2) (rc W (fun a w=>Tryz.call146 a w) c1) (rc W (fun a w=>Tryz.call145 a w) c2) (rc W (fun a w=>Tryz.call147 a w) cL) (show(decide (((nd 1 (sval s):Nat):Int)>0))=true from decide_eq_true (by omega)) (show(decide (((nd 1 (sval s):Nat):Int)>0))=true from decide_eq_true (by omega))<|aj8 (show(decide (((nd 1 (sval s):Nat):Int)>0))=true from decide_eq_true (by omega)) (rt hT (fun a w=>Tryz.call121 a w) cZ) (show(decide (((nd 1 (sval s):Nat):Int)>0))=true from decide_eq_true (by omega)) (show(decide (((nd 1 (sval s):Nat):Int)>0))=true from decide_eq_true (by omega)) (wn hw2) (show(decide (((nd 1 (sval s):Nat):Int)>0))=true from decide_eq_true (by omega)) (show(decide (((nd 1 (sval s):Nat):Int)>0))=true from decide_eq_true (by omega)) (show(decide (((tz (sval s):Nat):Int)<(m:Int)))=false from decide_eq_false (by omega))<|hR) (tab_keep hT hW)) fun W=>by kernel_rfl
set_option maxHeartbeats 400000 in
theorem wShift_odd(s:ByteArray)(n:Int)(m:Nat)(w:World)(hs:s.size≤4294967296)(hs2:s.size≤536870912)(h0:n<0)(hm:max n (-1099511627776)=-(m:Int))(hmb:m≤1099511627776)(hz:sval s≠0)(ht:sval s % 2^m≠0)(hT:TabAt 0 Lib.deBruijn64tab w):
  Calls Tryz.prog 122 #[.agg #[.bool true,.string s],.int .i64 n] w fun e w'=>e=.returned (.agg #[.bool (neg (ival true (sval s / 2^m)-1)),.string (mag (ival true (sval s / 2^m)-1))])∧Below w.heap.size w w':=by
 have c1:=fun W=>nShr_any s (m:Int) W hs (by omega)
 simp only[Int.toNat_natCast]at c1
 have c2:=fun W=>wMade_any (nstr (sval s / 2^m)) true W
 rw[sval_nstr]at c2
 have hw2:IntKind.i64.wrap (- -(m:Int))=(m:Int):=by rw[Int.neg_neg];exact IntWalk.i64_in _ (by omega)
 have cL:=fun W=>nLen_any s W hs
 have cZ:=fun W=>nZeros_any s W hs
 have hL:0<nd 1 (sval s):=nd_pos hz
 have hZ:=@tz_mod (sval s) m hz
 have hzs:(mag (ival true (sval s / 2^m))).size≤536870912:=by
   rw[mag_size]
   refine Nat.le_trans (bsz_natAbs_le (y:=ival true (sval s)) ?_) (Nat.le_trans (bsz_ival _ _) hs2)
   rw[ival_natAbs,ival_natAbs];exact Nat.div_le_self _ _
 have cS:=fun W=>wSub_any (mag (ival true (sval s / 2^m))) (mag 1) (neg (ival true (sval s / 2^m))) (neg 1) W hzs (by decide)
 rw[ival_mk,ival_mk]at cS
 exact
 RetAt.at<|ret_sk ttOk mixed (fun a w=>Tryz.call122 a w) Tryz.func122 Tryz.ntmps122 Tryz.results122 _ rfl _ [.br false,.o 3 1 (.set (.int .i64 ((-(m:Int))))),.reg 10 [],.o 4 3 (.eq (iV (m:Int))),.o 4 4 (.ret (sV (nstr (sval s / 2^m)))),.o 4 8 (.ret (.agg [bV (neg (ival true (sval s / 2^m))),sV (mag (ival true (sval s / 2^m)))])),.o 5 5 (.ret (iV ((nd 1 (sval s):Nat):Int))),.g 5 9 true,.g 5 10 true,.g 5 11 true,.o 5 11 (.ret (iV ((tz (sval s):Nat):Int))),.g 5 12 true,.g 5 13 true,.o 5 13 (.eq (iV (m:Int))),.g 5 14 true,.o 5 15 (.pk true),.br true,.reg 3 [],.o 6 1 (.ret (.agg [bV (neg 1),sV (mag 1)])),.o 6 2 (.ret (.agg [bV (neg ((ival true (sval s / 2^m))-1)),sV (mag ((ival true (sval s / 2^m))-1))]))] (fun W hW hR=>(fun(hT:Tab0 W)=>aj8 (decide_eq_false (by omega):decide (n≥0)=false) (show RunOk Tryz.prog W (Builtin.max_ #[3,3] 3 #[.int .i64 n,.int .i64 (-1099511627776)]) (.int .i64 ((-(m:Int))))from by rw[← hm];exact max_ok _ _ _ _ _ _ _) (wn hw2) (rc W (fun a w=>Tryz.call146 a w) c1) (rc W (fun a w=>Tryz.call145 a w) c2) (rc W (fun a w=>Tryz.call147 a w) cL) (show(decide (((nd 1 (sval s):Nat):Int)>0))=true from decide_eq_true (by omega)) (show(decide (((nd 1 (sval s):Nat):Int)>0))=true from decide_eq_true (by omega))<|aj8 (show(decide (((nd 1 (sval s):Nat):Int)>0))=true from decide_eq_true (by omega)) (rt hT (fun a w=>Tryz.call121 a w) cZ) (show(decide (((nd 1 (sval s):Nat):Int)>0))=true from decide_eq_true (by omega)) (show(decide (((nd 1 (sval s):Nat):Int)>0))=true from decide_eq_true (by omega)) (wn hw2) (show(decide (((nd 1 (sval s):Nat):Int)>0))=true from decide_eq_true (by omega)) (show(decide (((nd 1 (sval s):Nat):Int)>0))=true from decide_eq_true (by omega)) (show(decide (((tz (sval s):Nat):Int)<(m:Int)))=true from decide_eq_true (by omega))<|aj2 (rc W (fun a w=>Tryz.call148 a w) fun W=>wOf_any 1 W (by decide) (by decide)) (rc W (fun a w=>Tryz.call131 a w) cS)<|hR) (tab_keep hT hW)) fun W=>by kernel_rfl
theorem wShift_any(s:ByteArray)(b:Bool)(n:Int)(w:World)(hs:s.size≤536870912)(hn:n≤68719476736)(hn2:-9223372036854775808≤n)(hT:TabAt 0 Lib.deBruijn64tab w):
  Calls Tryz.prog 122 #[.agg #[.bool b,.string s],.int .i64 n] w fun e w'=>e=.returned (.agg #[.bool (neg (shiftI (ival b (sval s)) n)),.string (mag (shiftI (ival b (sval s)) n))])∧Below w.heap.size w w':=by
 have hs4:s.size≤4294967296:=by omega
 by_cases h0:0≤n
 ·have e:shiftI (ival b (sval s)) n=ival b (sval s)*2^n.toNat:=by unfold shiftI;rw[if_pos h0]
  rw[e]
  exact wShift_up s b n w hs4 h0 hn
 ·obtain⟨m,hm⟩:∃m:Nat,max n (-1099511627776)=-(m:Int):=⟨(max n (-1099511627776)).natAbs,by omega⟩
  have hmb:m≤1099511627776:=by omega
  obtain⟨K,hK⟩:∃K:Nat,K=1099511627776:=⟨_,rfl⟩
  have hlt:sval s<2^K:=by
   refine Nat.lt_of_lt_of_le (sval_lt s) ?_
   rw[show 256=2^8 from rfl,← Nat.pow_mul]
   exact Nat.pow_le_pow_right (by decide) (by omega)
  have e:shiftI (ival b (sval s)) n=ival b (sval s) / 2^m:=by
   unfold shiftI;rw[if_neg h0]
   by_cases hc:-1099511627776≤n
   ·congr 2;omega
   ·obtain rfl:m=K:=by omega
    exact(shr_far (by rw[ival_natAbs];exact hlt) (by omega)).symm
  rw[e,shr_signs]
  clear e hlt
  cases b
  ·rw[if_neg (by simp),Int.sub_zero]
   exact wShift_pos s n m w hs4 hs (by omega) hm hmb hT
  ·by_cases hz:sval s=0
   ·rw[if_neg (by rw[hz];simp),Int.sub_zero]
    exact wShift_zero s n m w hs4 hs (by omega) hm hmb hz hT
   ·by_cases ht:sval s % 2^m=0
    ·rw[if_neg (by simp[ht]),Int.sub_zero]
     exact wShift_even s n m w hs4 hs (by omega) hm hmb hz ht hT
    ·rw[if_pos ⟨rfl,ht⟩]
     exact wShift_odd s n m w hs4 hs (by omega) hm hmb hz ht hT
open Go.RowKit
theorem shiftI_down(z:Int)(t:Nat): shiftI z (-(t:Int))=z / 2^t:=by
 unfold shiftI
 by_cases h:t=0
 ·subst h;simp
 ·rw[if_neg (by omega),Int.neg_neg,Int.toNat_natCast]
theorem tz_size{s:ByteArray}(h:sval s≠0): tz (sval s)≤8*s.size:=by
 obtain⟨q,hq⟩:=tz_spec h
 have h1:=sval_lt s
 rw[show 256=2^8 from rfl,← Nat.pow_mul]at h1
 have h2:2^tz (sval s)≤sval s:=by
  have h3:2^tz (sval s)*1≤2^tz (sval s)*(2*q+1):=Nat.mul_le_mul_left _ (by omega)
  rw[Nat.mul_one,← hq]at h3;exact h3
 have h4:=(Nat.pow_lt_pow_iff_right (by decide:1<2)).1 (Nat.lt_of_le_of_lt h2 h1)
 omega
set_option maxHeartbeats 400000 in
theorem dOn_any(s:ByteArray)(b:Bool)(e k:Int)(w:World)(hs:s.size≤536870912)(h1:-9223372036854775808≤e-k)(h2:e-k≤68719476736)(hT:TabAt 0 Lib.deBruijn64tab w):
  Calls Tryz.prog 130 #[.int .i64 k,.agg #[.bool b,.string s,.int .i64 e]] w fun r w'=>r=.returned (.agg #[.bool (neg (shiftI (ival b (sval s)) (e-k))),.string (mag (shiftI (ival b (sval s)) (e-k)))])∧Below w.heap.size w w':=by
 have HT:=Lib.hid hT
 have hw:IntKind.i64.wrap (e-k)=e-k:=IntWalk.i64_in _ (by omega)
 have cS:=Lib.hid (fun W (h:TabAt 0 Lib.deBruijn64tab W)=>wShift_any s b (e-k) W hs h2 h1 h)
 clear hT hs h1 h2
 go_enter Tryz.func130,Tryz.ntmps130
 go_upto_region 1 with(fail)
 have X1:=(Bx.new w 32 #[.bool b,.string s,.int .i64 e]).alloc (.cells #[.bool false,.string ⟨#[]⟩] 30)
 have X2:=Bx.at1 w (.cells #[.bool b,.string s,.int .i64 e] 32) 30 #[.bool false,.string ⟨#[]⟩]
 have hB:=b2 w (.cells #[.bool b,.string s,.int .i64 e] 32) (.cells #[.bool false,.string ⟨#[]⟩] 30)
 generalize (w.alloc (.cells #[.bool b,.string s,.int .i64 e] 32)).alloc (.cells #[.bool false,.string ⟨#[]⟩] 30)=w0 at *
 have hl0:=X1.lt
 have hl1:=X2.lt
 obtain⟨p1,p2,p5,p3,p4,p6⟩:=X1.three
 obtain⟨q1,q2,q3,q4⟩:=X2.two
 go_wp2_with fail
 refine(cS.out _ (tab_keep HT.out hB)).mono ?_
 rintro e w1 ⟨rfl,hb⟩
 replace X1:=X1.later hb
 replace X2:=X2.later hb
 replace hB:=nxt hB hb
 clear hb
 clear p1 p2 p3 p4 p5 p6 q1 q2 q3 q4
 obtain⟨p1,p2,p5,p3,p4,p6⟩:=X1.three
 obtain⟨q1,q2,q3,q4⟩:=X2.two
 go_wp2_with fail
 exact bodyPost_ret (v:=.agg #[.bool (neg (shiftI (ival b (sval s)) (e-k))),.string (mag (shiftI (ival b (sval s)) (e-k)))]) (by simp[results,Tryz.results130,go_sem,(X2.set2 _ _).cel]) rfl ⟨rfl,st2 hB (Nat.le_add_right _ 1) _ _⟩
set_option maxHeartbeats 400000 in
theorem dMake_zero(s:ByteArray)(b:Bool)(e:Int)(w:World)(hz:ival b (sval s)=0):
  Calls Tryz.prog 96 #[.agg #[.bool b,.string s],.int .i64 e] w fun r w'=>r=.returned (.agg #[.bool false,.string ⟨#[]⟩,.int .i64 0])∧Below w.heap.size w w':=by
 have cG:=Lib.hid (fun W=>wSign_any s b W)
 rw[hz,show sgn 0=0 from rfl]at cG
 clear hz
 go_enter Tryz.func96,Tryz.ntmps96
 go_upto_region 1 with(fail)
 have X1:=(Bx.new w 30 #[.bool b,.string s]).alloc (.cells #[.bool false,.string ⟨#[]⟩,.int .i64 (0)] 32)
 have X2:=Bx.at1 w (.cells #[.bool b,.string s] 30) 32 #[.bool false,.string ⟨#[]⟩,.int .i64 (0)]
 have hB:=b2 w (.cells #[.bool b,.string s] 30) (.cells #[.bool false,.string ⟨#[]⟩,.int .i64 (0)] 32)
 generalize (w.alloc (.cells #[.bool b,.string s] 30)).alloc (.cells #[.bool false,.string ⟨#[]⟩,.int .i64 (0)] 32)=w0 at *
 have hl0:=X1.lt
 have hl1:=X2.lt
 obtain⟨p1,p2,p3,p4⟩:=X1.two
 obtain⟨q1,q2,q5,q3,q4,q6⟩:=X2.three
 go_wp2_with fail
 refine(cG.out _).mono ?_
 rintro e w1 ⟨rfl,hb⟩
 replace X1:=X1.later hb
 replace X2:=X2.later hb
 replace hB:=nxt hB hb
 clear hb
 clear p1 p2 p3 p4 q1 q2 q3 q4 q5 q6
 obtain⟨p1,p2,p3,p4⟩:=X1.two
 obtain⟨q1,q2,q5,q3,q4,q6⟩:=X2.three
 go_wp2_with fail
 exact bodyPost_ret (v:=.agg #[.bool false,.string ⟨#[]⟩,.int .i64 0]) (by simp[results,Tryz.results96,go_sem,(X2.set3 _ _ _).cel]) rfl ⟨rfl,st3 hB (Nat.le_add_right _ 1) _ _ _⟩
set_option maxHeartbeats 400000 in
theorem dMake_some(s:ByteArray)(b:Bool)(e g q:Int)(t:Nat)(w:World)(hg:g≠0)(he1:-4611686018427387904≤e)(he2:e≤4611686018427387904)(ht:t≤68719476736)(hT:TabAt 0 Lib.deBruijn64tab w)(cG:Hid (∀W:World,Calls Tryz.prog 103 #[.agg #[.bool b,.string s]] W fun r w'=>r=.returned (.int .i64 g)∧Below W.heap.size W w'))(cZ:Hid (∀W:World,TabAt 0 Lib.deBruijn64tab W→Calls Tryz.prog 121 #[.string s] W fun r w'=>r=.returned (.int .i64 (t:Nat))∧Below W.heap.size W w'))(cS:Hid (∀W:World,TabAt 0 Lib.deBruijn64tab W→Calls Tryz.prog 122 #[.agg #[.bool b,.string s],.int .i64 (-(t:Int))] W fun r w'=>r=.returned (.agg #[.bool (neg q),.string (mag q)])∧Below W.heap.size W w')):
  Calls Tryz.prog 96 #[.agg #[.bool b,.string s],.int .i64 e] w fun r w'=>r=.returned (.agg #[.bool (neg q),.string (mag q),.int .i64 (e+t)])∧Below w.heap.size w w':=by
 have HT:=Lib.hid hT
 have hw1:IntKind.i64.wrap (e+t)=e+t:=IntWalk.i64_in _ (by omega)
 have hw2:IntKind.i64.wrap (-(t:Int))=-(t:Int):=IntWalk.i64_in _ (by omega)
 clear hT he1 he2 ht
 go_enter Tryz.func96,Tryz.ntmps96
 go_upto_region 1 with(fail)
 have X1:=(Bx.new w 30 #[.bool b,.string s]).alloc (.cells #[.bool false,.string ⟨#[]⟩,.int .i64 (0)] 32)
 have X2:=Bx.at1 w (.cells #[.bool b,.string s] 30) 32 #[.bool false,.string ⟨#[]⟩,.int .i64 (0)]
 have hB:=b2 w (.cells #[.bool b,.string s] 30) (.cells #[.bool false,.string ⟨#[]⟩,.int .i64 (0)] 32)
 generalize (w.alloc (.cells #[.bool b,.string s] 30)).alloc (.cells #[.bool false,.string ⟨#[]⟩,.int .i64 (0)] 32)=w0 at *
 have hl0:=X1.lt
 have hl1:=X2.lt
 obtain⟨p1,p2,p3,p4⟩:=X1.two
 obtain⟨q1,q2,q5,q3,q4,q6⟩:=X2.three
 go_wp2_with fail
 refine(cG.out _).mono ?_
 rintro e w1 ⟨rfl,hb⟩
 replace X1:=X1.later hb
 replace X2:=X2.later hb
 replace hB:=nxt hB hb
 clear hb
 clear p1 p2 p3 p4 q1 q2 q3 q4 q5 q6
 obtain⟨p1,p2,p3,p4⟩:=X1.two
 obtain⟨q1,q2,q5,q3,q4,q6⟩:=X2.three
 go_wp2_with fail
 refine(cZ.out _ (tab_keep HT.out hB)).mono ?_
 rintro e w2 ⟨rfl,hb⟩
 replace X1:=X1.later hb
 replace X2:=X2.later hb
 replace hB:=nxt hB hb
 clear hb
 clear p1 p2 p3 p4 q1 q2 q3 q4 q5 q6
 obtain⟨p1,p2,p3,p4⟩:=X1.two
 obtain⟨q1,q2,q5,q3,q4,q6⟩:=X2.three
 go_wp2_with fail
 refine(cS.out _ (tab_keep HT.out hB)).mono ?_
 rintro e w3 ⟨rfl,hb⟩
 replace X1:=X1.later hb
 replace X2:=X2.later hb
 replace hB:=nxt hB hb
 clear hb
 clear p1 p2 p3 p4 q1 q2 q3 q4 q5 q6
 obtain⟨p1,p2,p3,p4⟩:=X1.two
 obtain⟨q1,q2,q5,q3,q4,q6⟩:=X2.three
 go_wp2_with fail
 exact bodyPost_ret (v:=.agg #[.bool (neg q),.string (mag q),.int .i64 (e+t)]) (by simp[results,Tryz.results96,go_sem,(X2.set3 _ _ _).cel]) rfl ⟨rfl,st3 hB (Nat.le_add_right _ 1) _ _ _⟩
theorem dMake_any(s:ByteArray)(b:Bool)(e:Int)(w:World)(hs:s.size≤536870912)(he1:-4611686018427387904≤e)(he2:e≤4611686018427387904)(hT:TabAt 0 Lib.deBruijn64tab w):
  Calls Tryz.prog 96 #[.agg #[.bool b,.string s],.int .i64 e] w fun r w'=>r=.returned (.agg #[.bool (neg (dm (dy (ival b (sval s)) e))),.string (mag (dm (dy (ival b (sval s)) e))),.int .i64 (de (dy (ival b (sval s)) e))])∧Below w.heap.size w w':=by
 by_cases hz:ival b (sval s)=0
 ·have h:=dMake_zero s b e w hz
  rw[hz,dy_zero];exact h
 ·have hv:sval s≠0:=fun h=>hz (by rw[h,ival_zero])
  have ht:=tz_size hv
  obtain⟨h1,h2⟩:=dm_dy e hz
  rw[ival_natAbs]at h1 h2
  rw[h1,h2]
  have cS:=Lib.hid (fun W (h:TabAt 0 Lib.deBruijn64tab W)=>wShift_any s b (-(tz (sval s):Nat)) W hs (by omega) (by omega) h)
  rw[shiftI_down]at cS
  exact dMake_some s b e _ _ (tz (sval s)) w (fun h=>hz (sgn_eq.1 h)) he1 he2 (by omega) hT (Lib.hid (fun W=>wSign_any s b W)) (Lib.hid (fun W h=>nZeros_any s W (by omega) h)) cS
set_option maxHeartbeats 400000 in
theorem dForm_x(s:ByteArray)(b:Bool)(e:Int)(x:Dyadic)(w:World)(hT:TabAt 0 Lib.deBruijn64tab w)(cM:Hid (∀W:World,TabAt 0 Lib.deBruijn64tab W→Calls Tryz.prog 96 #[.agg #[.bool b,.string s],.int .i64 e] W fun r w'=>r=.returned (.agg #[.bool (neg (dm x)),.string (mag (dm x)),.int .i64 (de x)])∧Below W.heap.size W w')):
  Calls Tryz.prog 61 #[.agg #[.bool b,.string s,.int .i64 e]] w fun r w'=>r=.returned (.agg #[.bool (neg (dm x)),.string (mag (dm x)),.int .i64 (de x)])∧Below w.heap.size w w':=by
 have HT:=Lib.hid hT
 clear hT
 go_enter Tryz.func61,Tryz.ntmps61
 go_upto_region 1 with(fail)
 have X1:=(Bx.new w 32 #[.bool b,.string s,.int .i64 e]).alloc (.cells #[.bool false,.string ⟨#[]⟩,.int .i64 (0)] 32)
 have X2:=Bx.at1 w (.cells #[.bool b,.string s,.int .i64 e] 32) 32 #[.bool false,.string ⟨#[]⟩,.int .i64 (0)]
 have hB:=b2 w (.cells #[.bool b,.string s,.int .i64 e] 32) (.cells #[.bool false,.string ⟨#[]⟩,.int .i64 (0)] 32)
 generalize (w.alloc (.cells #[.bool b,.string s,.int .i64 e] 32)).alloc (.cells #[.bool false,.string ⟨#[]⟩,.int .i64 (0)] 32)=w0 at *
 have hl0:=X1.lt
 have hl1:=X2.lt
 obtain⟨p1,p2,p5,p3,p4,p6⟩:=X1.three
 obtain⟨q1,q2,q5,q3,q4,q6⟩:=X2.three
 go_wp2_with fail
 refine(cM.out _ (tab_keep HT.out hB)).mono ?_
 rintro e w1 ⟨rfl,hb⟩
 replace X1:=X1.later hb
 replace X2:=X2.later hb
 replace hB:=nxt hB hb
 clear hb
 clear p1 p2 p3 p4 p5 p6 q1 q2 q3 q4 q5 q6
 obtain⟨p1,p2,p5,p3,p4,p6⟩:=X1.three
 obtain⟨q1,q2,q5,q3,q4,q6⟩:=X2.three
 go_wp2_with fail
 exact bodyPost_ret (v:=.agg #[.bool (neg (dm x)),.string (mag (dm x)),.int .i64 (de x)]) (by simp[results,Tryz.results61,go_sem,(X2.set3 _ _ _).cel]) rfl ⟨rfl,st3 hB (Nat.le_add_right _ 1) _ _ _⟩
theorem dForm_any(s:ByteArray)(b:Bool)(e:Int)(w:World)(hs:s.size≤536870912)(he1:-4611686018427387904≤e)(he2:e≤4611686018427387904)(hT:TabAt 0 Lib.deBruijn64tab w):
  Calls Tryz.prog 61 #[.agg #[.bool b,.string s,.int .i64 e]] w fun r w'=>r=.returned (.agg #[.bool (neg (dm (dy (ival b (sval s)) e))),.string (mag (dm (dy (ival b (sval s)) e))),.int .i64 (de (dy (ival b (sval s)) e))])∧Below w.heap.size w w':=by
 exact dForm_x s b e _ w hT (Lib.hid (fun W h=>dMake_any s b e W hs he1 he2 h))
set_option maxHeartbeats 400000 in
theorem dSign_any(s:ByteArray)(b:Bool)(e:Int)(w:World):
  Calls Tryz.prog 67 #[.agg #[.bool b,.string s,.int .i64 e]] w fun r w'=>r=.returned (.int .i64 (dsgn (dy (ival b (sval s)) e)))∧Below w.heap.size w w':=by
 rw[dsgn_dy]
 have cG:=Lib.hid (fun W=>wSign_any s b W)
 generalize sgn (ival b (sval s))=g at *
 go_enter Tryz.func67,Tryz.ntmps67
 go_upto_region 1 with(fail)
 have X1:=Bx.new w 32 #[.bool b,.string s,.int .i64 e]
 have hB:=b1 w (.cells #[.bool b,.string s,.int .i64 e] 32)
 generalize w.alloc (.cells #[.bool b,.string s,.int .i64 e] 32)=w0 at *
 have hl0:=X1.lt
 obtain⟨p1,p2,p5,p3,p4,p6⟩:=X1.three
 go_wp2_with fail
 refine(cG.out _).mono ?_
 rintro e w1 ⟨rfl,hb⟩
 replace X1:=X1.later hb
 replace hB:=nxt hB hb
 clear hb
 clear p1 p2 p3 p4 p5 p6
 obtain⟨p1,p2,p5,p3,p4,p6⟩:=X1.three
 go_wp2
 go_ret
 exact⟨rfl,hB⟩
