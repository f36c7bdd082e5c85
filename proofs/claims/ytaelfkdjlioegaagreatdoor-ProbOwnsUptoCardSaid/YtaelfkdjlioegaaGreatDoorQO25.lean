/- The walks and plain laws beneath the statements. -/
import Derived.Test.YtaelfkdjlioegaaGreatDoorQO12
import Derived.Test.YtaelfkdjlioegaaGreatDoorQO24
import Derived.RegionTactic
namespace Go.Proofs.YtaelfkdjlioegaaGreatDoor
set_option maxRecDepth 100000
open Go.RowKit
theorem dLevel_A(s t:ByteArray)(b c:Bool)(e f:Int)(b2:Bool)(s2:ByteArray)(e2:Int)(X Y:Int)(w:World)(hT:TabAt 0 Lib.deBruijn64tab w)(cF:Hid (∀W:World,TabAt 0 Lib.deBruijn64tab W→Calls Tryz.prog 61 #[.agg #[.bool b,.string s,.int .i64 e]] W fun r w'=>r=.returned (.agg #[.bool false,.string ⟨#[]⟩,.int .i64 0])∧Below W.heap.size W w'))(cG:Hid (∀W:World,TabAt 0 Lib.deBruijn64tab W→Calls Tryz.prog 61 #[.agg #[.bool c,.string t,.int .i64 f]] W fun r w'=>r=.returned (.agg #[.bool b2,.string s2,.int .i64 e2])∧Below W.heap.size W w'))(cU:Hid (∀W:World,TabAt 0 Lib.deBruijn64tab W→Calls Tryz.prog 130 #[.int .i64 e2,.agg #[.bool false,.string ⟨#[]⟩,.int .i64 0]] W fun r w'=>r=.returned (.agg #[.bool (neg X),.string (mag X)])∧Below W.heap.size W w'))(cV:Hid (∀W:World,TabAt 0 Lib.deBruijn64tab W→Calls Tryz.prog 130 #[.int .i64 e2,.agg #[.bool b2,.string s2,.int .i64 e2]] W fun r w'=>r=.returned (.agg #[.bool (neg Y),.string (mag Y)])∧Below W.heap.size W w'))
  :
  Calls Tryz.prog 104 #[.agg #[.bool b,.string s,.int .i64 e],.agg #[.bool c,.string t,.int .i64 f]] w fun r w'=>r=.returned (.agg #[.int .i64 e2,.bool (neg X),.string (mag X),.bool (neg Y),.string (mag Y)])∧Below w.heap.size w w' :=
 RetAt.at<|ret_sk ttOk mixed (fun a w=>Tryz.call104 a w) Tryz.func104 Tryz.ntmps104 Tryz.results104 _ rfl _ [.reg 4 [],.o 1 1 (.ret (.val (rN false ⟨#[]⟩ 0))),.o 1 3 (.ret (.val (rN b2 s2 e2))),.o 2 4 (.set (.int .i64 (min 0 e2))),.o 3 2 (.set (.bool true)),.reg 9 [],.o 8 3 (.ret (.agg [bV (neg X),sV (mag X)])),.o 8 7 (.ret (.agg [bV (neg Y),sV (mag Y)]))] (fun W hW hR=>(fun(hT:Tab0 W)=>aj6 (rt hT Tryz.call61 fun W h=>cF.out W h) (rt hT Tryz.call61 fun W h=>cG.out W h) (min_ok Tryz.prog W #[3,3] 3 .i64 0 e2) (num_eql1 W (.tmp 17) (.tmp 18) false ⟨#[]⟩ 0) (rt hT Tryz.call130 fun W h=>cU.out W h) (rt hT Tryz.call130 fun W h=>cV.out W h)<|hR) (tab_keep hT hW)) fun W=>by kernel_rfl
theorem dLevel_B(s t:ByteArray)(b c:Bool)(e f:Int)(b1:Bool)(s1:ByteArray)(e1:Int)(hm1:¬ s1.toList=[])(X Y:Int)(w:World)(hT:TabAt 0 Lib.deBruijn64tab w)(cF:Hid (∀W:World,TabAt 0 Lib.deBruijn64tab W→Calls Tryz.prog 61 #[.agg #[.bool b,.string s,.int .i64 e]] W fun r w'=>r=.returned (.agg #[.bool b1,.string s1,.int .i64 e1])∧Below W.heap.size W w'))(cG:Hid (∀W:World,TabAt 0 Lib.deBruijn64tab W→Calls Tryz.prog 61 #[.agg #[.bool c,.string t,.int .i64 f]] W fun r w'=>r=.returned (.agg #[.bool false,.string ⟨#[]⟩,.int .i64 0])∧Below W.heap.size W w'))(cU:Hid (∀W:World,TabAt 0 Lib.deBruijn64tab W→Calls Tryz.prog 130 #[.int .i64 e1,.agg #[.bool b1,.string s1,.int .i64 e1]] W fun r w'=>r=.returned (.agg #[.bool (neg X),.string (mag X)])∧Below W.heap.size W w'))(cV:Hid (∀W:World,TabAt 0 Lib.deBruijn64tab W→Calls Tryz.prog 130 #[.int .i64 e1,.agg #[.bool false,.string ⟨#[]⟩,.int .i64 0]] W fun r w'=>r=.returned (.agg #[.bool (neg Y),.string (mag Y)])∧Below W.heap.size W w'))
  :
  Calls Tryz.prog 104 #[.agg #[.bool b,.string s,.int .i64 e],.agg #[.bool c,.string t,.int .i64 f]] w fun r w'=>r=.returned (.agg #[.int .i64 e1,.bool (neg X),.string (mag X),.bool (neg Y),.string (mag Y)])∧Below w.heap.size w w' :=
 RetAt.at<|ret_sk ttOk mixed (fun a w=>Tryz.call104 a w) Tryz.func104 Tryz.ntmps104 Tryz.results104 _ rfl _ [.reg 4 [],.o 1 1 (.ret (.val (rN b1 s1 e1))),.o 1 3 (.ret (.val (rN false ⟨#[]⟩ 0))),.o 2 4 (.set (.int .i64 (min e1 0))),.o 3 2 (.set (.bool false)),.o 5 2 (.set (.bool true)),.reg 9 [],.o 8 3 (.ret (.agg [bV (neg X),sV (mag X)])),.o 8 7 (.ret (.agg [bV (neg Y),sV (mag Y)]))] (fun W hW hR=>(fun(hT:Tab0 W)=>aj7 (rt hT Tryz.call61 fun W h=>cF.out W h) (rt hT Tryz.call61 fun W h=>cG.out W h) (min_ok Tryz.prog W #[3,3] 3 .i64 e1 0) (num_nz W (.tmp 17) (.tmp 18) b1 s1 e1 hm1) (num_eql1 W (.tmp 23) (.tmp 24) false ⟨#[]⟩ 0) (rt hT Tryz.call130 fun W h=>cU.out W h) (rt hT Tryz.call130 fun W h=>cV.out W h)<|hR) (tab_keep hT hW)) fun W=>by kernel_rfl
theorem dLevel_C(s t:ByteArray)(b c:Bool)(e f:Int)(b1:Bool)(s1:ByteArray)(e1:Int)(hm1:¬ s1.toList=[])(b2:Bool)(s2:ByteArray)(e2 k:Int)(hm2:¬ s2.toList=[])(hk:min e1 e2=k)(X Y:Int)(w:World)(hT:TabAt 0 Lib.deBruijn64tab w)(cF:Hid (∀W:World,TabAt 0 Lib.deBruijn64tab W→Calls Tryz.prog 61 #[.agg #[.bool b,.string s,.int .i64 e]] W fun r w'=>r=.returned (.agg #[.bool b1,.string s1,.int .i64 e1])∧Below W.heap.size W w'))(cG:Hid (∀W:World,TabAt 0 Lib.deBruijn64tab W→Calls Tryz.prog 61 #[.agg #[.bool c,.string t,.int .i64 f]] W fun r w'=>r=.returned (.agg #[.bool b2,.string s2,.int .i64 e2])∧Below W.heap.size W w'))(cU:Hid (∀W:World,TabAt 0 Lib.deBruijn64tab W→Calls Tryz.prog 130 #[.int .i64 k,.agg #[.bool b1,.string s1,.int .i64 e1]] W fun r w'=>r=.returned (.agg #[.bool (neg X),.string (mag X)])∧Below W.heap.size W w'))(cV:Hid (∀W:World,TabAt 0 Lib.deBruijn64tab W→Calls Tryz.prog 130 #[.int .i64 k,.agg #[.bool b2,.string s2,.int .i64 e2]] W fun r w'=>r=.returned (.agg #[.bool (neg Y),.string (mag Y)])∧Below W.heap.size W w'))
  :
  Calls Tryz.prog 104 #[.agg #[.bool b,.string s,.int .i64 e],.agg #[.bool c,.string t,.int .i64 f]] w fun r w'=>r=.returned (.agg #[.int .i64 k,.bool (neg X),.string (mag X),.bool (neg Y),.string (mag Y)])∧Below w.heap.size w w' :=
 RetAt.at<|ret_sk ttOk mixed (fun a w=>Tryz.call104 a w) Tryz.func104 Tryz.ntmps104 Tryz.results104 _ rfl _ [.reg 4 [],.o 1 1 (.ret (.val (rN b1 s1 e1))),.o 1 3 (.ret (.val (rN b2 s2 e2))),.o 2 4 (.set (.int .i64 k)),.o 3 2 (.set (.bool false)),.o 5 2 (.set (.bool false)),.reg 9 [],.o 8 3 (.ret (.agg [bV (neg X),sV (mag X)])),.o 8 7 (.ret (.agg [bV (neg Y),sV (mag Y)]))] (fun W hW hR=>(fun(hT:Tab0 W)=>aj7 (rt hT Tryz.call61 fun W h=>cF.out W h) (rt hT Tryz.call61 fun W h=>cG.out W h) (show RunOk Tryz.prog W (Builtin.min_ #[3,3] 3 #[.int .i64 e1,.int .i64 e2]) (.int .i64 k)from by rw[← hk];exact min_ok _ _ _ _ _ _ _) (num_nz W (.tmp 17) (.tmp 18) b1 s1 e1 hm1) (num_nz W (.tmp 23) (.tmp 24) b2 s2 e2 hm2) (rt hT Tryz.call130 fun W h=>cU.out W h) (rt hT Tryz.call130 fun W h=>cV.out W h)<|hR) (tab_keep hT hW)) fun W=>by kernel_rfl
open Go.RowKit
structure ND (b:Bool) (s:ByteArray) (e:Int) (x:Dyadic):Prop where
 val:dy (ival b (sval s)) e=x
 size:s.size≤1048576
 lo:-1073741824≤e
 hi:e≤1073741824
theorem nd_form{b:Bool}{s:ByteArray}{e:Int}{x:Dyadic}(h:ND b s e x): (mag (dm x)).size≤1048576∧-1073741824≤de x∧de x≤1090519040:=by
 by_cases hz:ival b (sval s)=0
 ·have e1:=h.val
  rw[hz,dy_zero]at e1
  subst e1
  exact⟨by show(mag 0).size≤_;rw[mag_zero];exact Nat.zero_le _,by decide,by decide⟩
 ·obtain⟨h1,h2⟩:=dm_dy e hz
  rw[h.val,ival_natAbs]at h1 h2
  have h3:=tz_size (s:=s) (fun h0=>hz (by rw[h0,ival_zero]))
  have h4:=h.size
  have h5:=h.lo
  have h6:=h.hi
  refine⟨?_,by omega,by omega⟩
  rw[h1,mag_size]
  refine Nat.le_trans (bsz_natAbs_le (Int.natAbs_ediv_le_natAbs _ _)) (Nat.le_trans (bsz_ival b s) h4)
theorem mag_some{x:Dyadic}(h:x≠0): ¬(mag (dm x)).toList=[]:=fun h1=>h (dm_zero.1 (mag_empty.1 h1))
theorem dy_level(x:Dyadic){k:Int}(h:k≤de x): dy (shiftI (dm x) (de x-k)) k=x:=by
 unfold shiftI
 rw[if_pos (by omega),dy_shl]
 have e:k+((de x-k).toNat:Int)=de x:=by omega
 rw[e,dy_dm]
theorem level_bsz{x:Dyadic}{k:Int}(h:k≤de x)(hs:(mag (dm x)).size≤1048576)(hk:de x-k≤2164260864): bsz (shiftI (dm x) (de x-k))≤300000000:=by
 unfold shiftI
 rw[if_pos (by omega)]
 rw[mag_size]at hs
 exact Nat.le_trans (bsz_shl_le hs) (by omega)
theorem bsz_zero:bsz 0=0:=rfl
theorem on_ex{b:Bool}{s:ByteArray}{x:Dyadic}{e k:Int}(hv:ival b (sval s)=dm x)(he:e=de x)(hs:s.size≤1048576)(h1:-9223372036854775808≤e-k)(h2:e-k≤68719476736):
  Hid (∀W:World,TabAt 0 Lib.deBruijn64tab W→Calls Tryz.prog 130 #[.int .i64 k,.agg #[.bool b,.string s,.int .i64 e]] W fun r w'=>r=.returned (.agg #[.bool (neg (shiftI (dm x) (de x-k))),.string (mag (shiftI (dm x) (de x-k)))])∧Below W.heap.size W w'):=by
 have h:=Lib.hid (fun W (hT:TabAt 0 Lib.deBruijn64tab W)=>dOn_any s b e k W (by omega) h1 h2 hT)
 rw[hv,he]at h
 rw[he]
 exact h
theorem dLevel_ex{b c:Bool}{s t:ByteArray}{e f:Int}{x y:Dyadic}(n1:ND b s e x)(n2:ND c t f y):
  ∃k X Y:Int,dy X k=x∧dy Y k=y∧bsz X≤300000000∧bsz Y≤300000000∧-2147483648≤k∧k≤2147483648 ∧
   Hid (∀W:World,TabAt 0 Lib.deBruijn64tab W→Calls Tryz.prog 104 #[.agg #[.bool b,.string s,.int .i64 e],.agg #[.bool c,.string t,.int .i64 f]] W fun r w'=>r=.returned (.agg #[.int .i64 k,.bool (neg X),.string (mag X),.bool (neg Y),.string (mag Y)])∧Below W.heap.size W w'):=by
 obtain⟨a1,a2,a3⟩:=nd_form n1
 obtain⟨c1,c2,c3⟩:=nd_form n2
 have cF:=Lib.hid (fun W (hT:TabAt 0 Lib.deBruijn64tab W)=>dForm_any s b e W (Nat.le_trans n1.size (by decide)) (by have:=n1.lo;omega) (by have:=n1.hi;omega) hT)
 have cG:=Lib.hid (fun W (hT:TabAt 0 Lib.deBruijn64tab W)=>dForm_any t c f W (Nat.le_trans n2.size (by decide)) (by have:=n2.lo;omega) (by have:=n2.hi;omega) hT)
 rw[n1.val]at cF
 rw[n2.val]at cG
 by_cases hx:x=0
 ·subst hx
  have z1:shiftI (dm 0) (de 0-de y)=0:=by
   show shiftI 0 _=0
   unfold shiftI;split<;>simp
  refine⟨de y,0,shiftI (dm y) (de y-de y),dy_zero _,dy_level y (Int.le_refl _),by rw[bsz_zero];decide,level_bsz (Int.le_refl _) c1 (by omega),by omega,by omega,Lib.hid fun W hT=>?_⟩
  have cU:=on_ex (b:=false) (s:=⟨#[]⟩) (x:=0) (e:=0) (k:=de y) rfl rfl (by decide) (by omega) (by omega)
  rw[z1]at cU
  exact dLevel_A s t b c e f _ _ _ _ _ W hT cF cG cU (on_ex (ival_mk _) rfl c1 (by omega) (by omega))
 ·by_cases hy:y=0
  ·subst hy
   have z1:shiftI (dm 0) (de 0-de x)=0:=by
    show shiftI 0 _=0
    unfold shiftI;split<;>simp
   refine⟨de x,shiftI (dm x) (de x-de x),0,dy_level x (Int.le_refl _),dy_zero _,level_bsz (Int.le_refl _) a1 (by omega),by rw[bsz_zero];decide,by omega,by omega,Lib.hid fun W hT=>?_⟩
   have cV:=on_ex (b:=false) (s:=⟨#[]⟩) (x:=0) (e:=0) (k:=de x) rfl rfl (by decide) (by omega) (by omega)
   rw[z1]at cV
   exact dLevel_B s t b c e f _ _ _ (mag_some hx) _ _ W hT cF cG (on_ex (ival_mk _) rfl a1 (by omega) (by omega)) cV
  ·obtain⟨k,hk⟩:∃k,min (de x) (de y)=k:=⟨_,rfl⟩
   refine⟨k,shiftI (dm x) (de x-k),shiftI (dm y) (de y-k),dy_level x (by omega),dy_level y (by omega),level_bsz (by omega) a1 (by omega),level_bsz (by omega) c1 (by omega),by omega,by omega,Lib.hid fun W hT=>?_⟩
   exact dLevel_C s t b c e f _ _ _ (mag_some hx) _ _ _ k (mag_some hy) hk _ _ W hT cF cG (on_ex (ival_mk _) rfl a1 (by omega) (by omega)) (on_ex (ival_mk _) rfl c1 (by omega) (by omega))
theorem dCmp_a(s t:ByteArray)(b c:Bool)(e f:Int)(w:World)(cS:Hid (∀W:World,Calls Tryz.prog 67 #[.agg #[.bool b,.string s,.int .i64 e]] W fun r w'=>r=.returned (.int .i64 (-1))∧Below W.heap.size W w'))(cR:Hid (∀W:World,Calls Tryz.prog 67 #[.agg #[.bool c,.string t,.int .i64 f]] W fun r w'=>r=.returned (.int .i64 (0))∧Below W.heap.size W w'))
  :
  Calls Tryz.prog 68 #[.agg #[.bool b,.string s,.int .i64 e],.agg #[.bool c,.string t,.int .i64 f]] w fun r w'=>r=.returned (.int .i64 (-1))∧Below w.heap.size w w' :=
 RetAt.at<|ret_sk ttOk mixed (fun a w=>Tryz.call68 a w) Tryz.func68 Tryz.ntmps68 Tryz.results68 _ rfl _ [.reg 6 [],.o 1 1 (.ret (iV (-1))),.o 1 3 (.ret (iV 0)),.o 3 3 (.set (.int .i64 (min 1 (IntKind.i64.wrap ((-1)-0))))),.o 3 4 (.set (.int .i64 (max (-1) (min 1 (IntKind.i64.wrap ((-1)-0))))))] (fun W hW hR=>aj4 (rc W Tryz.call67 fun W=>cS.out W) (rc W Tryz.call67 fun W=>cR.out W) (min_ok Tryz.prog W #[3,3] 3 .i64 1 (IntKind.i64.wrap ((-1)-0))) (max_ok Tryz.prog W #[3,3] 3 .i64 (-1) (min 1 (IntKind.i64.wrap ((-1)-0))))<|hR) fun W=>by kernel_rfl
theorem dCmp_b(s t:ByteArray)(b c:Bool)(e f:Int)(w:World)(cS:Hid (∀W:World,Calls Tryz.prog 67 #[.agg #[.bool b,.string s,.int .i64 e]] W fun r w'=>r=.returned (.int .i64 (-1))∧Below W.heap.size W w'))(cR:Hid (∀W:World,Calls Tryz.prog 67 #[.agg #[.bool c,.string t,.int .i64 f]] W fun r w'=>r=.returned (.int .i64 (1))∧Below W.heap.size W w'))
  :
  Calls Tryz.prog 68 #[.agg #[.bool b,.string s,.int .i64 e],.agg #[.bool c,.string t,.int .i64 f]] w fun r w'=>r=.returned (.int .i64 (-1))∧Below w.heap.size w w' :=
 RetAt.at<|ret_sk ttOk mixed (fun a w=>Tryz.call68 a w) Tryz.func68 Tryz.ntmps68 Tryz.results68 _ rfl _ [.reg 6 [],.o 1 1 (.ret (iV (-1))),.o 1 3 (.ret (iV 1)),.o 3 3 (.set (.int .i64 (min 1 (IntKind.i64.wrap ((-1)-1))))),.o 3 4 (.set (.int .i64 (max (-1) (min 1 (IntKind.i64.wrap ((-1)-1))))))] (fun W hW hR=>aj4 (rc W Tryz.call67 fun W=>cS.out W) (rc W Tryz.call67 fun W=>cR.out W) (min_ok Tryz.prog W #[3,3] 3 .i64 1 (IntKind.i64.wrap ((-1)-1))) (max_ok Tryz.prog W #[3,3] 3 .i64 (-1) (min 1 (IntKind.i64.wrap ((-1)-1))))<|hR) fun W=>by kernel_rfl
theorem dCmp_c(s t:ByteArray)(b c:Bool)(e f:Int)(w:World)(cS:Hid (∀W:World,Calls Tryz.prog 67 #[.agg #[.bool b,.string s,.int .i64 e]] W fun r w'=>r=.returned (.int .i64 (0))∧Below W.heap.size W w'))(cR:Hid (∀W:World,Calls Tryz.prog 67 #[.agg #[.bool c,.string t,.int .i64 f]] W fun r w'=>r=.returned (.int .i64 (-1))∧Below W.heap.size W w'))
  :
  Calls Tryz.prog 68 #[.agg #[.bool b,.string s,.int .i64 e],.agg #[.bool c,.string t,.int .i64 f]] w fun r w'=>r=.returned (.int .i64 (1))∧Below w.heap.size w w' :=
 RetAt.at<|ret_sk ttOk mixed (fun a w=>Tryz.call68 a w) Tryz.func68 Tryz.ntmps68 Tryz.results68 _ rfl _ [.reg 6 [],.o 1 1 (.ret (iV 0)),.o 1 3 (.ret (iV (-1))),.o 3 3 (.set (.int .i64 (min 1 (IntKind.i64.wrap (0-(-1)))))),.o 3 4 (.set (.int .i64 (max (-1) (min 1 (IntKind.i64.wrap (0-(-1)))))))] (fun W hW hR=>aj4 (rc W Tryz.call67 fun W=>cS.out W) (rc W Tryz.call67 fun W=>cR.out W) (min_ok Tryz.prog W #[3,3] 3 .i64 1 (IntKind.i64.wrap (0-(-1)))) (max_ok Tryz.prog W #[3,3] 3 .i64 (-1) (min 1 (IntKind.i64.wrap (0-(-1)))))<|hR) fun W=>by kernel_rfl
theorem dCmp_d(s t:ByteArray)(b c:Bool)(e f:Int)(w:World)(cS:Hid (∀W:World,Calls Tryz.prog 67 #[.agg #[.bool b,.string s,.int .i64 e]] W fun r w'=>r=.returned (.int .i64 (0))∧Below W.heap.size W w'))(cR:Hid (∀W:World,Calls Tryz.prog 67 #[.agg #[.bool c,.string t,.int .i64 f]] W fun r w'=>r=.returned (.int .i64 (1))∧Below W.heap.size W w'))
  :
  Calls Tryz.prog 68 #[.agg #[.bool b,.string s,.int .i64 e],.agg #[.bool c,.string t,.int .i64 f]] w fun r w'=>r=.returned (.int .i64 (-1))∧Below w.heap.size w w' :=
 RetAt.at<|ret_sk ttOk mixed (fun a w=>Tryz.call68 a w) Tryz.func68 Tryz.ntmps68 Tryz.results68 _ rfl _ [.reg 6 [],.o 1 1 (.ret (iV 0)),.o 1 3 (.ret (iV 1)),.o 3 3 (.set (.int .i64 (min 1 (IntKind.i64.wrap (0-1))))),.o 3 4 (.set (.int .i64 (max (-1) (min 1 (IntKind.i64.wrap (0-1))))))] (fun W hW hR=>aj4 (rc W Tryz.call67 fun W=>cS.out W) (rc W Tryz.call67 fun W=>cR.out W) (min_ok Tryz.prog W #[3,3] 3 .i64 1 (IntKind.i64.wrap (0-1))) (max_ok Tryz.prog W #[3,3] 3 .i64 (-1) (min 1 (IntKind.i64.wrap (0-1))))<|hR) fun W=>by kernel_rfl
theorem dCmp_e(s t:ByteArray)(b c:Bool)(e f:Int)(w:World)(cS:Hid (∀W:World,Calls Tryz.prog 67 #[.agg #[.bool b,.string s,.int .i64 e]] W fun r w'=>r=.returned (.int .i64 (1))∧Below W.heap.size W w'))(cR:Hid (∀W:World,Calls Tryz.prog 67 #[.agg #[.bool c,.string t,.int .i64 f]] W fun r w'=>r=.returned (.int .i64 (-1))∧Below W.heap.size W w'))
  :
  Calls Tryz.prog 68 #[.agg #[.bool b,.string s,.int .i64 e],.agg #[.bool c,.string t,.int .i64 f]] w fun r w'=>r=.returned (.int .i64 (1))∧Below w.heap.size w w' :=
 RetAt.at<|ret_sk ttOk mixed (fun a w=>Tryz.call68 a w) Tryz.func68 Tryz.ntmps68 Tryz.results68 _ rfl _ [.reg 6 [],.o 1 1 (.ret (iV 1)),.o 1 3 (.ret (iV (-1))),.o 3 3 (.set (.int .i64 (min 1 (IntKind.i64.wrap (1-(-1)))))),.o 3 4 (.set (.int .i64 (max (-1) (min 1 (IntKind.i64.wrap (1-(-1)))))))] (fun W hW hR=>aj4 (rc W Tryz.call67 fun W=>cS.out W) (rc W Tryz.call67 fun W=>cR.out W) (min_ok Tryz.prog W #[3,3] 3 .i64 1 (IntKind.i64.wrap (1-(-1)))) (max_ok Tryz.prog W #[3,3] 3 .i64 (-1) (min 1 (IntKind.i64.wrap (1-(-1)))))<|hR) fun W=>by kernel_rfl
theorem dCmp_f(s t:ByteArray)(b c:Bool)(e f:Int)(w:World)(cS:Hid (∀W:World,Calls Tryz.prog 67 #[.agg #[.bool b,.string s,.int .i64 e]] W fun r w'=>r=.returned (.int .i64 (1))∧Below W.heap.size W w'))(cR:Hid (∀W:World,Calls Tryz.prog 67 #[.agg #[.bool c,.string t,.int .i64 f]] W fun r w'=>r=.returned (.int .i64 (0))∧Below W.heap.size W w'))
  :
  Calls Tryz.prog 68 #[.agg #[.bool b,.string s,.int .i64 e],.agg #[.bool c,.string t,.int .i64 f]] w fun r w'=>r=.returned (.int .i64 (1))∧Below w.heap.size w w' :=
 RetAt.at<|ret_sk ttOk mixed (fun a w=>Tryz.call68 a w) Tryz.func68 Tryz.ntmps68 Tryz.results68 _ rfl _ [.reg 6 [],.o 1 1 (.ret (iV 1)),.o 1 3 (.ret (iV 0)),.o 3 3 (.set (.int .i64 (min 1 (IntKind.i64.wrap (1-0))))),.o 3 4 (.set (.int .i64 (max (-1) (min 1 (IntKind.i64.wrap (1-0))))))] (fun W hW hR=>aj4 (rc W Tryz.call67 fun W=>cS.out W) (rc W Tryz.call67 fun W=>cR.out W) (min_ok Tryz.prog W #[3,3] 3 .i64 1 (IntKind.i64.wrap (1-0))) (max_ok Tryz.prog W #[3,3] 3 .i64 (-1) (min 1 (IntKind.i64.wrap (1-0))))<|hR) fun W=>by kernel_rfl
theorem dCmp_same(s t:ByteArray)(b c:Bool)(e f:Int)(p k X Y z:Int)(w:World)(cS:Hid (∀W:World,Calls Tryz.prog 67 #[.agg #[.bool b,.string s,.int .i64 e]] W fun r w'=>r=.returned (.int .i64 p)∧Below W.heap.size W w'))(cR:Hid (∀W:World,Calls Tryz.prog 67 #[.agg #[.bool c,.string t,.int .i64 f]] W fun r w'=>r=.returned (.int .i64 p)∧Below W.heap.size W w'))(HT:Hid (TabAt 0 Lib.deBruijn64tab w))(cL:Hid (∀W:World,TabAt 0 Lib.deBruijn64tab W→Calls Tryz.prog 104 #[.agg #[.bool b,.string s,.int .i64 e],.agg #[.bool c,.string t,.int .i64 f]] W fun r w'=>r=.returned (.agg #[.int .i64 k,.bool (neg X),.string (mag X),.bool (neg Y),.string (mag Y)])∧Below W.heap.size W w'))(cC:Hid (∀W:World,Calls Tryz.prog 105 #[.agg #[.bool (neg X),.string (mag X)],.agg #[.bool (neg Y),.string (mag Y)]] W fun r w'=>r=.returned (.int .i64 z)∧Below W.heap.size W w'))
  :
  Calls Tryz.prog 68 #[.agg #[.bool b,.string s,.int .i64 e],.agg #[.bool c,.string t,.int .i64 f]] w fun r w'=>r=.returned (.int .i64 z)∧Below w.heap.size w w' :=
 RetAt.at<|ret_sk ttOk mixed (fun a w=>Tryz.call68 a w) Tryz.func68 Tryz.ntmps68 Tryz.results68 _ rfl _ [.reg 6 [],.o 1 1 (.ret (iV p)),.o 1 3 (.ret (iV p)),.br false,.o 4 2 (.ret (.agg [iV k,bV (neg X),sV (mag X),bV (neg Y),sV (mag Y)])),.o 5 4 (.ret (iV z))] (fun W hW hR=>(fun(hT:Tab0 W)=>aj5 (rc W Tryz.call67 fun W=>cS.out W) (rc W Tryz.call67 fun W=>cR.out W) (ne_n (rfl:(p:Int)=p)) (rt hT Tryz.call104 fun W h=>cL.out W h) (rc W Tryz.call105 fun W=>cC.out W)<|hR) (tab_keep HT.out hW)) fun W=>by kernel_rfl
theorem dsgn_three(x:Dyadic): (dsgn x=-1∧x<0)∨(dsgn x=0∧x=0)∨(dsgn x=1∧0<x):=by
 have h:=dsgn_bd x
 rcases Int.lt_trichotomy (dsgn x) 0 with h1|h1|h1
 ·exact .inl ⟨by omega,dsgn_lt.1 h1⟩
 ·exact .inr (.inl ⟨h1,dsgn_eq.1 h1⟩)
 ·exact .inr (.inr ⟨by omega,dsgn_gt.1 h1⟩)
theorem dsgn_down{x:Dyadic}(h:x<0): dsgn x=-1:=by have:=dsgn_bd x;have:=dsgn_lt.2 h;omega
theorem dsgn_up{x:Dyadic}(h:0<x): dsgn x=1:=by have:=dsgn_bd x;have:=dsgn_gt.2 h;omega
theorem dCmp_any{b c:Bool}{s t:ByteArray}{e f:Int}{x y:Dyadic}(w:World)(n1:ND b s e x)(n2:ND c t f y)(hT:TabAt 0 Lib.deBruijn64tab w):
  Calls Tryz.prog 68 #[.agg #[.bool b,.string s,.int .i64 e],.agg #[.bool c,.string t,.int .i64 f]] w fun r w'=>r=.returned (.int .i64 (dsgn (x-y)))∧Below w.heap.size w w':=by
 have cS:=Lib.hid (fun W=>dSign_any s b e W)
 have cR:=Lib.hid (fun W=>dSign_any t c f W)
 rw[n1.val]at cS
 rw[n2.val]at cR
 by_cases hpq:dsgn x=dsgn y
 ·obtain⟨k,X,Y,hX,hY,bX,bY,k1,k2,cL⟩:=dLevel_ex n1 n2
  have cC:=Lib.hid (fun W=>wCmp_any (mag X) (mag Y) (neg X) (neg Y) W (by rw[mag_size];omega) (by rw[mag_size];omega))
  rw[ival_mk,ival_mk]at cC
  have e1:dsgn (x-y)=sgn (X-Y):=by rw[← hX,← hY,dy_sub,dsgn_dy]
  rw[e1]
  rw[← hpq]at cR
  exact dCmp_same s t b c e f _ k X Y _ w cS cR (Lib.hid hT) cL cC
 ·rcases dsgn_three x with⟨h1,hx⟩|⟨h1,hx⟩|⟨h1,hx⟩<;>rcases dsgn_three y with⟨h2,hy⟩|⟨h2,hy⟩|⟨h2,hy⟩<;>rw[h1]at cS hpq<;>rw[h2]at cR hpq
  ·exact absurd rfl hpq
  ·rw[dsgn_down (x:=x-y) (by subst hy;grind)];exact dCmp_a s t b c e f w cS cR
  ·rw[dsgn_down (x:=x-y) (by grind)];exact dCmp_b s t b c e f w cS cR
  ·rw[dsgn_up (x:=x-y) (by subst hx;grind)];exact dCmp_c s t b c e f w cS cR
  ·exact absurd rfl hpq
  ·rw[dsgn_down (x:=x-y) (by subst hx;grind)];exact dCmp_d s t b c e f w cS cR
  ·rw[dsgn_up (x:=x-y) (by grind)];exact dCmp_e s t b c e f w cS cR
  ·rw[dsgn_up (x:=x-y) (by subst hy;grind)];exact dCmp_f s t b c e f w cS cR
  ·exact absurd rfl hpq
open Go.RowKit
def RdN(w:World)(A:Option Addr)(n:Nat)(bs:Nat→Bool)(ss:Nat→ByteArray)(es:Nat→Int): Prop :=
 0<n→∃b off,A=some ⟨b,off,none⟩∧∀j,j<n→w.cell? ⟨b,off+j*3,none⟩=some (.bool (bs j))∧w.cell? ⟨b,off+j*3+1,none⟩=some (.string (ss j))∧w.cell? ⟨b,off+j*3+2,none⟩=some (.int .i64 (es j))
theorem RdN.below{w w':World}{A:Option Addr}{n:Nat}{bs:Nat→Bool}{ss:Nat→ByteArray}{es:Nat→Int}(h:RdN w A n bs ss es)(hb:Below w.heap.size w w'): RdN w' A n bs ss es:=fun h0=>by
 obtain⟨b,off,e,hc⟩:=h h0
 exact⟨b,off,e,fun j hj=>⟨cell_later hb (hc j hj).1,cell_later hb (hc j hj).2.1,cell_later hb (hc j hj).2.2⟩⟩
theorem RdN.congr{w:World}{A:Option Addr}{n:Nat}{bs:Nat→Bool}{ss ss':Nat→ByteArray}{es es':Nat→Int}(h:RdN w A n bs ss es)(hf:∀j,j<n→ss j=ss' j∧es j=es' j): RdN w A n bs ss' es':=fun h0=>by
 obtain⟨b,off,e,hc⟩:=h h0
 exact⟨b,off,e,fun j hj=>by rw[← (hf j hj).1,← (hf j hj).2];exact hc j hj⟩
