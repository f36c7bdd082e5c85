/- The walks and plain laws beneath the statements. -/
import Derived.Test.YtaelfkdjlioegaaGreatDoorQA22
import Derived.Test.YtaelfkdjlioegaaGreatDoorQA23
import Derived.RegionTactic
namespace Go.Proofs.YtaelfkdjlioegaaGreatDoor
set_option maxRecDepth 100000
open Go.RowKit
theorem Bx.far3{w:World}{g g' i j k:Nat}{t:TypeId}{cs:Array Value}(h:Bx w g t cs)(hp:g≠g')(u v s:Value): Bx (((w.setCell ⟨g',i,none⟩ u).setCell ⟨g',j,none⟩ v).setCell ⟨g',k,none⟩ s) g t cs:=(h.far2 hp u v).far (p:=⟨g',k,none⟩) hp s
theorem dNeg_x(s:ByteArray)(b:Bool)(e m:Int)(x:Dyadic)(w:World)(hT:TabAt 0 Lib.deBruijn64tab w)(cN:Hid (∀W:World,Calls Tryz.prog 155 #[.agg #[.bool b,.string s]] W fun r w'=>r=.returned (.agg #[.bool (neg m),.string (mag m)])∧Below W.heap.size W w'))(cM:Hid (∀W:World,TabAt 0 Lib.deBruijn64tab W→Calls Tryz.prog 96 #[.agg #[.bool (neg m),.string (mag m)],.int .i64 e] W fun r w'=>r=.returned (.agg #[.bool (neg (dm x)),.string (mag (dm x)),.int .i64 (de x)])∧Below W.heap.size W w'))
  :
  Calls Tryz.prog 157 #[.agg #[.bool b,.string s,.int .i64 e]] w fun r w'=>r=.returned (.agg #[.bool (neg (dm x)),.string (mag (dm x)),.int .i64 (de x)])∧Below w.heap.size w w' :=
 RetAt.at<|ret_sk ttOk mixed (fun a w=>Tryz.call157 a w) Tryz.func157 Tryz.ntmps157 Tryz.results157 _ rfl _ [.reg 6 [],.o 1 2 (.ret (.agg [bV (neg m),sV (mag m)])),.o 1 5 (.ret (.val (vN x)))] (fun W hW hR=>(fun(hT:Tab0 W)=>aj2 (rc W Tryz.call155 fun W=>cN.out W) (rt hT Tryz.call96 fun W h=>cM.out W h)<|hR) (tab_keep hT hW)) fun W=>by kernel_rfl
theorem dNeg_any(s:ByteArray)(b:Bool)(e:Int)(w:World)(hs:s.size≤536870912)(he1:-4611686018427387904≤e)(he2:e≤4611686018427387904)(hT:TabAt 0 Lib.deBruijn64tab w):
  Calls Tryz.prog 157 #[.agg #[.bool b,.string s,.int .i64 e]] w fun r w'=>r=.returned (.agg #[.bool (neg (dm (-dy (ival b (sval s)) e))),.string (mag (dm (-dy (ival b (sval s)) e))),.int .i64 (de (-dy (ival b (sval s)) e))])∧Below w.heap.size w w':=by
 rw[dy_neg]
 have hz:(mag (-ival b (sval s))).size≤536870912:=by rw[mag_size,bsz_neg];exact Nat.le_trans (bsz_ival b s) hs
 have c:=Lib.hid (fun W h=>dMake_any (mag (-ival b (sval s))) (neg (-ival b (sval s))) e W hz he1 he2 h)
 rw[ival_mk]at c
 exact dNeg_x s b e _ _ w hT (Lib.hid (fun W=>wNeg_any s b W)) c
theorem dLevel_A(s t:ByteArray)(b c:Bool)(e f:Int)(b2:Bool)(s2:ByteArray)(e2:Int)(X Y:Int)(w:World)(hT:TabAt 0 Lib.deBruijn64tab w)(cF:Hid (∀W:World,TabAt 0 Lib.deBruijn64tab W→Calls Tryz.prog 61 #[.agg #[.bool b,.string s,.int .i64 e]] W fun r w'=>r=.returned (.agg #[.bool false,.string ⟨#[]⟩,.int .i64 0])∧Below W.heap.size W w'))(cG:Hid (∀W:World,TabAt 0 Lib.deBruijn64tab W→Calls Tryz.prog 61 #[.agg #[.bool c,.string t,.int .i64 f]] W fun r w'=>r=.returned (.agg #[.bool b2,.string s2,.int .i64 e2])∧Below W.heap.size W w'))(cU:Hid (∀W:World,TabAt 0 Lib.deBruijn64tab W→Calls Tryz.prog 130 #[.int .i64 e2,.agg #[.bool false,.string ⟨#[]⟩,.int .i64 0]] W fun r w'=>r=.returned (.agg #[.bool (neg X),.string (mag X)])∧Below W.heap.size W w'))(cV:Hid (∀W:World,TabAt 0 Lib.deBruijn64tab W→Calls Tryz.prog 130 #[.int .i64 e2,.agg #[.bool b2,.string s2,.int .i64 e2]] W fun r w'=>r=.returned (.agg #[.bool (neg Y),.string (mag Y)])∧Below W.heap.size W w'))
  :
  Calls Tryz.prog 104 #[.agg #[.bool b,.string s,.int .i64 e],.agg #[.bool c,.string t,.int .i64 f]] w fun r w'=>r=.returned (.agg #[.int .i64 e2,.bool (neg X),.string (mag X),.bool (neg Y),.string (mag Y)])∧Below w.heap.size w w' :=
 RetAt.at<|ret_sk ttOk mixed (fun a w=>Tryz.call104 a w) Tryz.func104 Tryz.ntmps104 Tryz.results104 _ rfl _ [.reg 4 [],.o 1 1 (.ret (.val (rN false ⟨#[]⟩ 0))),.o 1 3 (.ret (.val (rN b2 s2 e2))),.o 2 4 (.set (.int .i64 (min 0 e2))),.o 3 2 (.set (.bool true)),.reg 9 [],.o 8 3 (.ret (.agg [bV (neg X),sV (mag X)])),.o 8 7 (.ret (.agg [bV (neg Y),sV (mag Y)]))] (fun W hW hR=>(fun(hT:Tab0 W)=>aj6 (rt hT Tryz.call61 fun W h=>cF.out W h) (rt hT Tryz.call61 fun W h=>cG.out W h) (min_ok Tryz.prog W #[3,3] 3 .i64 0 e2) (num_eql1 W (.tmp 17) (.tmp 18) false ⟨#[]⟩ 0) (rt hT Tryz.call130 fun W h=>cU.out W h) (rt hT Tryz.call130 fun W h=>cV.out W h)<|hR) (tab_keep hT hW)) fun W=>by kernel_rfl
theorem dLevel_B(s t:ByteArray)(b c:Bool)(e f:Int)(b1:Bool)(s1:ByteArray)(e1:Int)(hm1:¬ s1.toList=[])(X Y:Int)(w:World)(hT:TabAt 0 Lib.deBruijn64tab w)(cF:Hid (∀W:World,TabAt 0 Lib.deBruijn64tab W→Calls Tryz.prog 61 #[.agg #[.bool b,.string s,.int .i64 e]] W fun r w'=>r=.returned (.agg #[.bool b1,.string s1,.int .i64 e1])∧Below W.heap.size W w'))(cG:Hid (∀W:World,TabAt 0 Lib.deBruijn64tab W→Calls Tryz.prog 61 #[.agg #[.bool c,.string t,.int .i64 f]] W fun r w'=>r=.returned (.agg #[.bool false,.string ⟨#[]⟩,.int .i64 0])∧Below W.heap.size W w'))(cU:Hid (∀W:World,TabAt 0 Lib.deBruijn64tab W→Calls Tryz.prog 130 #[.int .i64 e1,.agg #[.bool b1,.string s1,.int .i64 e1]] W fun r w'=>r=.returned (.agg #[.bool (neg X),.string (mag X)])∧Below W.heap.size W w'))(cV:Hid (∀W:World,TabAt 0 Lib.deBruijn64tab W→Calls Tryz.prog 130 #[.int .i64 e1,.agg #[.bool false,.string ⟨#[]⟩,.int .i64 0]] W fun r w'=>r=.returned (.agg #[.bool (neg Y),.string (mag Y)])∧Below W.heap.size W w'))
  :
  Calls Tryz.prog 104 #[.agg #[.bool b,.string s,.int .i64 e],.agg #[.bool c,.string t,.int .i64 f]] w fun r w'=>r=.returned (.agg #[.int .i64 e1,.bool (neg X),.string (mag X),.bool (neg Y),.string (mag Y)])∧Below w.heap.size w w' :=
 RetAt.at<|ret_sk ttOk mixed (fun a w=>Tryz.call104 a w) Tryz.func104 Tryz.ntmps104 Tryz.results104 _ rfl _ [.reg 4 [],.o 1 1 (.ret (.val (rN b1 s1 e1))),.o 1 3 (.ret (.val (rN false ⟨#[]⟩ 0))),.o 2 4 (.set (.int .i64 (min e1 0))),.o 3 2 (.set (.bool false)),.o 5 2 (.set (.bool true)),.reg 9 [],.o 8 3 (.ret (.agg [bV (neg X),sV (mag X)])),.o 8 7 (.ret (.agg [bV (neg Y),sV (mag Y)]))] (fun W hW hR=>(fun(hT:Tab0 W)=>aj7 (rt hT Tryz.call61 fun W h=>cF.out W h) (rt hT Tryz.call61 fun W h=>cG.out W h) (min_ok Tryz.prog W #[3,3] 3 .i64 e1 0) (num_nz W (.tmp 17) (.tmp 18) b1 s1 e1 hm1) (num_eql1 W (.tmp 23) (.tmp 24) false ⟨#[]⟩ 0) (rt hT Tryz.call130 fun W h=>cU.out W h) (rt hT Tryz.call130 fun W h=>cV.out W h)<|hR) (tab_keep hT hW)) fun W=>by kernel_rfl
theorem dLevel_C(s t:ByteArray)(b c:Bool)(e f:Int)(b1:Bool)(s1:ByteArray)(e1:Int)(hm1:¬ s1.toList=[])(b2:Bool)(s2:ByteArray)(e2 k:Int)(hm2:¬ s2.toList=[])(hk:min e1 e2=k)(X Y:Int)(w:World)(hT:TabAt 0 Lib.deBruijn64tab w)(cF:Hid (∀W:World,TabAt 0 Lib.deBruijn64tab W→Calls Tryz.prog 61 #[.agg #[.bool b,.string s,.int .i64 e]] W fun r w'=>r=.returned (.agg #[.bool b1,.string s1,.int .i64 e1])∧Below W.heap.size W w'))(cG:Hid (∀W:World,TabAt 0 Lib.deBruijn64tab W→Calls Tryz.prog 61 #[.agg #[.bool c,.string t,.int .i64 f]] W fun r w'=>r=.returned (.agg #[.bool b2,.string s2,.int .i64 e2])∧Below W.heap.size W w'))(cU:Hid (∀W:World,TabAt 0 Lib.deBruijn64tab W→Calls Tryz.prog 130 #[.int .i64 k,.agg #[.bool b1,.string s1,.int .i64 e1]] W fun r w'=>r=.returned (.agg #[.bool (neg X),.string (mag X)])∧Below W.heap.size W w'))(cV:Hid (∀W:World,TabAt 0 Lib.deBruijn64tab W→Calls Tryz.prog 130 #[.int .i64 k,.agg #[.bool b2,.string s2,.int .i64 e2]] W fun r w'=>r=.returned (.agg #[.bool (neg Y),.string (mag Y)])∧Below W.heap.size W w'))
  :
  Calls Tryz.prog 104 #[.agg #[.bool b,.string s,.int .i64 e],.agg #[.bool c,.string t,.int .i64 f]] w fun r w'=>r=.returned (.agg #[.int .i64 k,.bool (neg X),.string (mag X),.bool (neg Y),.string (mag Y)])∧Below w.heap.size w w' :=
 RetAt.at<|ret_sk ttOk mixed (fun a w=>Tryz.call104 a w) Tryz.func104 Tryz.ntmps104 Tryz.results104 _ rfl _ [.reg 4 [],.o 1 1 (.ret (.val (rN b1 s1 e1))),.o 1 3 (.ret (.val (rN b2 s2 e2))),.o 2 4 (.set (.int .i64 k)),.o 3 2 (.set (.bool false)),.o 5 2 (.set (.bool false)),.reg 9 [],.o 8 3 (.ret (.agg [bV (neg X),sV (mag X)])),.o 8 7 (.ret (.agg [bV (neg Y),sV (mag Y)]))] (fun W hW hR=>(fun(hT:Tab0 W)=>aj7 (rt hT Tryz.call61 fun W h=>cF.out W h) (rt hT Tryz.call61 fun W h=>cG.out W h) (show RunOk Tryz.prog W (Builtin.min_ #[3,3] 3 #[.int .i64 e1,.int .i64 e2]) (.int .i64 k)from by rw[← hk];exact min_ok _ _ _ _ _ _ _) (num_nz W (.tmp 17) (.tmp 18) b1 s1 e1 hm1) (num_nz W (.tmp 23) (.tmp 24) b2 s2 e2 hm2) (rt hT Tryz.call130 fun W h=>cU.out W h) (rt hT Tryz.call130 fun W h=>cV.out W h)<|hR) (tab_keep hT hW)) fun W=>by kernel_rfl
open Go.RowKit
structure ND (b:Bool) (s:ByteArray) (e:Int) (x:Dyadic):Prop where
 val:dy (ival b (sval s)) e=x
 size:s.size≤1048576
 lo:-1073741824≤e
 hi:e≤1073741824
theorem nd_db{L T:Nat}{x:Dyadic}(h:DB L T x)(hLT:L+T≤4000000): ND (neg (dm x)) (mag (dm x)) (de x) x:=by
 obtain⟨h1,h2,_⟩:=db_form h
 have h4:=db_size h
 exact⟨by rw[ival_mk,dy_dm],by omega,by omega,by omega⟩
theorem nd_form{b:Bool}{s:ByteArray}{e:Int}{x:Dyadic}(h:ND b s e x): (mag (dm x)).size≤1048576∧-1073741824≤de x∧de x≤1090519040:=by
 by_cases hz:ival b (sval s)=0
 ·have e1:=h.val
  rw[hz,dy_zero]at e1
  subst e1
  exact⟨by show(mag 0).size≤_;rw[mag_zero];exact Nat.zero_le _,by decide,by decide⟩
 ·obtain⟨h1,h2⟩:=dm_dy e hz
  rw[h.val,ival_natAbs]at h1 h2
  have h3:=tz_size (s:=s) (fun h0=>hz (by rw[h0,ival_zero]))
  have h4:=h.size
  have h5:=h.lo
  have h6:=h.hi
  refine⟨?_,by omega,by omega⟩
  rw[h1,mag_size]
  refine Nat.le_trans (bsz_natAbs_le (Int.natAbs_ediv_le_natAbs _ _)) (Nat.le_trans (bsz_ival b s) h4)
theorem mag_some{x:Dyadic}(h:x≠0): ¬(mag (dm x)).toList=[]:=fun h1=>h (dm_zero.1 (mag_empty.1 h1))
theorem dy_level(x:Dyadic){k:Int}(h:k≤de x): dy (shiftI (dm x) (de x-k)) k=x:=by
 unfold shiftI
 rw[if_pos (by omega),dy_shl]
 have e:k+((de x-k).toNat:Int)=de x:=by omega
 rw[e,dy_dm]
theorem level_bsz{x:Dyadic}{k:Int}(h:k≤de x)(hs:(mag (dm x)).size≤1048576)(hk:de x-k≤2164260864): bsz (shiftI (dm x) (de x-k))≤300000000:=by
 unfold shiftI
 rw[if_pos (by omega)]
 rw[mag_size]at hs
 exact Nat.le_trans (bsz_shl_le hs) (by omega)
theorem bsz_zero:bsz 0=0:=rfl
theorem on_ex{b:Bool}{s:ByteArray}{x:Dyadic}{e k:Int}(hv:ival b (sval s)=dm x)(he:e=de x)(hs:s.size≤1048576)(h1:-9223372036854775808≤e-k)(h2:e-k≤68719476736):
  Hid (∀W:World,TabAt 0 Lib.deBruijn64tab W→Calls Tryz.prog 130 #[.int .i64 k,.agg #[.bool b,.string s,.int .i64 e]] W fun r w'=>r=.returned (.agg #[.bool (neg (shiftI (dm x) (de x-k))),.string (mag (shiftI (dm x) (de x-k)))])∧Below W.heap.size W w'):=by
 have h:=Lib.hid (fun W (hT:TabAt 0 Lib.deBruijn64tab W)=>dOn_any s b e k W (by omega) h1 h2 hT)
 rw[hv,he]at h
 rw[he]
 exact h
theorem dLevel_ex{b c:Bool}{s t:ByteArray}{e f:Int}{x y:Dyadic}(n1:ND b s e x)(n2:ND c t f y):
  ∃k X Y:Int,dy X k=x∧dy Y k=y∧bsz X≤300000000∧bsz Y≤300000000∧-2147483648≤k∧k≤2147483648 ∧
   Hid (∀W:World,TabAt 0 Lib.deBruijn64tab W→Calls Tryz.prog 104 #[.agg #[.bool b,.string s,.int .i64 e],.agg #[.bool c,.string t,.int .i64 f]] W fun r w'=>r=.returned (.agg #[.int .i64 k,.bool (neg X),.string (mag X),.bool (neg Y),.string (mag Y)])∧Below W.heap.size W w'):=by
 obtain⟨a1,a2,a3⟩:=nd_form n1
 obtain⟨c1,c2,c3⟩:=nd_form n2
 have cF:=Lib.hid (fun W (hT:TabAt 0 Lib.deBruijn64tab W)=>dForm_any s b e W (Nat.le_trans n1.size (by decide)) (by have:=n1.lo;omega) (by have:=n1.hi;omega) hT)
 have cG:=Lib.hid (fun W (hT:TabAt 0 Lib.deBruijn64tab W)=>dForm_any t c f W (Nat.le_trans n2.size (by decide)) (by have:=n2.lo;omega) (by have:=n2.hi;omega) hT)
 rw[n1.val]at cF
 rw[n2.val]at cG
 by_cases hx:x=0
 ·subst hx
  have z1:shiftI (dm 0) (de 0-de y)=0:=by
   show shiftI 0 _=0
   unfold shiftI;split<;>simp
  refine⟨de y,0,shiftI (dm y) (de y-de y),dy_zero _,dy_level y (Int.le_refl _),by rw[bsz_zero];decide,level_bsz (Int.le_refl _) c1 (by omega),by omega,by omega,Lib.hid fun W hT=>?_⟩
  have cU:=on_ex (b:=false) (s:=⟨#[]⟩) (x:=0) (e:=0) (k:=de y) rfl rfl (by decide) (by omega) (by omega)
  rw[z1]at cU
  exact dLevel_A s t b c e f _ _ _ _ _ W hT cF cG cU (on_ex (ival_mk _) rfl c1 (by omega) (by omega))
 ·by_cases hy:y=0
  ·subst hy
   have z1:shiftI (dm 0) (de 0-de x)=0:=by
    show shiftI 0 _=0
    unfold shiftI;split<;>simp
   refine⟨de x,shiftI (dm x) (de x-de x),0,dy_level x (Int.le_refl _),dy_zero _,level_bsz (Int.le_refl _) a1 (by omega),by rw[bsz_zero];decide,by omega,by omega,Lib.hid fun W hT=>?_⟩
   have cV:=on_ex (b:=false) (s:=⟨#[]⟩) (x:=0) (e:=0) (k:=de x) rfl rfl (by decide) (by omega) (by omega)
   rw[z1]at cV
   exact dLevel_B s t b c e f _ _ _ (mag_some hx) _ _ W hT cF cG (on_ex (ival_mk _) rfl a1 (by omega) (by omega)) cV
  ·obtain⟨k,hk⟩:∃k,min (de x) (de y)=k:=⟨_,rfl⟩
   refine⟨k,shiftI (dm x) (de x-k),shiftI (dm y) (de y-k),dy_level x (by omega),dy_level y (by omega),level_bsz (by omega) a1 (by omega),level_bsz (by omega) c1 (by omega),by omega,by omega,Lib.hid fun W hT=>?_⟩
   exact dLevel_C s t b c e f _ _ _ (mag_some hx) _ _ _ k (mag_some hy) hk _ _ W hT cF cG (on_ex (ival_mk _) rfl a1 (by omega) (by omega)) (on_ex (ival_mk _) rfl c1 (by omega) (by omega))
theorem dCmp_a(s t:ByteArray)(b c:Bool)(e f:Int)(w:World)(cS:Hid (∀W:World,Calls Tryz.prog 67 #[.agg #[.bool b,.string s,.int .i64 e]] W fun r w'=>r=.returned (.int .i64 (-1))∧Below W.heap.size W w'))(cR:Hid (∀W:World,Calls Tryz.prog 67 #[.agg #[.bool c,.string t,.int .i64 f]] W fun r w'=>r=.returned (.int .i64 (0))∧Below W.heap.size W w'))
  :
  Calls Tryz.prog 68 #[.agg #[.bool b,.string s,.int .i64 e],.agg #[.bool c,.string t,.int .i64 f]] w fun r w'=>r=.returned (.int .i64 (-1))∧Below w.heap.size w w' :=
 RetAt.at<|ret_sk ttOk mixed (fun a w=>Tryz.call68 a w) Tryz.func68 Tryz.ntmps68 Tryz.results68 _ rfl _ [.reg 6 [],.o 1 1 (.ret (iV (-1))),.o 1 3 (.ret (iV 0)),.o 3 3 (.set (.int .i64 (min 1 (IntKind.i64.wrap ((-1)-0))))),.o 3 4 (.set (.int .i64 (max (-1) (min 1 (IntKind.i64.wrap ((-1)-0))))))] (fun W hW hR=>aj4 (rc W Tryz.call67 fun W=>cS.out W) (rc W Tryz.call67 fun W=>cR.out W) (min_ok Tryz.prog W #[3,3] 3 .i64 1 (IntKind.i64.wrap ((-1)-0))) (max_ok Tryz.prog W #[3,3] 3 .i64 (-1) (min 1 (IntKind.i64.wrap ((-1)-0))))<|hR) fun W=>by kernel_rfl
theorem dCmp_b(s t:ByteArray)(b c:Bool)(e f:Int)(w:World)(cS:Hid (∀W:World,Calls Tryz.prog 67 #[.agg #[.bool b,.string s,.int .i64 e]] W fun r w'=>r=.returned (.int .i64 (-1))∧Below W.heap.size W w'))(cR:Hid (∀W:World,Calls Tryz.prog 67 #[.agg #[.bool c,.string t,.int .i64 f]] W fun r w'=>r=.returned (.int .i64 (1))∧Below W.heap.size W w'))
  :
  Calls Tryz.prog 68 #[.agg #[.bool b,.string s,.int .i64 e],.agg #[.bool c,.string t,.int .i64 f]] w fun r w'=>r=.returned (.int .i64 (-1))∧Below w.heap.size w w' :=
 RetAt.at<|ret_sk ttOk mixed (fun a w=>Tryz.call68 a w) Tryz.func68 Tryz.ntmps68 Tryz.results68 _ rfl _ [.reg 6 [],.o 1 1 (.ret (iV (-1))),.o 1 3 (.ret (iV 1)),.o 3 3 (.set (.int .i64 (min 1 (IntKind.i64.wrap ((-1)-1))))),.o 3 4 (.set (.int .i64 (max (-1) (min 1 (IntKind.i64.wrap ((-1)-1))))))] (fun W hW hR=>aj4 (rc W Tryz.call67 fun W=>cS.out W) (rc W Tryz.call67 fun W=>cR.out W) (min_ok Tryz.prog W #[3,3] 3 .i64 1 (IntKind.i64.wrap ((-1)-1))) (max_ok Tryz.prog W #[3,3] 3 .i64 (-1) (min 1 (IntKind.i64.wrap ((-1)-1))))<|hR) fun W=>by kernel_rfl
theorem dCmp_c(s t:ByteArray)(b c:Bool)(e f:Int)(w:World)(cS:Hid (∀W:World,Calls Tryz.prog 67 #[.agg #[.bool b,.string s,.int .i64 e]] W fun r w'=>r=.returned (.int .i64 (0))∧Below W.heap.size W w'))(cR:Hid (∀W:World,Calls Tryz.prog 67 #[.agg #[.bool c,.string t,.int .i64 f]] W fun r w'=>r=.returned (.int .i64 (-1))∧Below W.heap.size W w'))
  :
  Calls Tryz.prog 68 #[.agg #[.bool b,.string s,.int .i64 e],.agg #[.bool c,.string t,.int .i64 f]] w fun r w'=>r=.returned (.int .i64 (1))∧Below w.heap.size w w' :=
 RetAt.at<|ret_sk ttOk mixed (fun a w=>Tryz.call68 a w) Tryz.func68 Tryz.ntmps68 Tryz.results68 _ rfl _ [.reg 6 [],.o 1 1 (.ret (iV 0)),.o 1 3 (.ret (iV (-1))),.o 3 3 (.set (.int .i64 (min 1 (IntKind.i64.wrap (0-(-1)))))),.o 3 4 (.set (.int .i64 (max (-1) (min 1 (IntKind.i64.wrap (0-(-1)))))))] (fun W hW hR=>aj4 (rc W Tryz.call67 fun W=>cS.out W) (rc W Tryz.call67 fun W=>cR.out W) (min_ok Tryz.prog W #[3,3] 3 .i64 1 (IntKind.i64.wrap (0-(-1)))) (max_ok Tryz.prog W #[3,3] 3 .i64 (-1) (min 1 (IntKind.i64.wrap (0-(-1)))))<|hR) fun W=>by kernel_rfl
theorem dCmp_d(s t:ByteArray)(b c:Bool)(e f:Int)(w:World)(cS:Hid (∀W:World,Calls Tryz.prog 67 #[.agg #[.bool b,.string s,.int .i64 e]] W fun r w'=>r=.returned (.int .i64 (0))∧Below W.heap.size W w'))(cR:Hid (∀W:World,Calls Tryz.prog 67 #[.agg #[.bool c,.string t,.int .i64 f]] W fun r w'=>r=.returned (.int .i64 (1))∧Below W.heap.size W w'))
  :
  Calls Tryz.prog 68 #[.agg #[.bool b,.string s,.int .i64 e],.agg #[.bool c,.string t,.int .i64 f]] w fun r w'=>r=.returned (.int .i64 (-1))∧Below w.heap.size w w' :=
 RetAt.at<|ret_sk ttOk mixed (fun a w=>Tryz.call68 a w) Tryz.func68 Tryz.ntmps68 Tryz.results68 _ rfl _ [.reg 6 [],.o 1 1 (.ret (iV 0)),.o 1 3 (.ret (iV 1)),.o 3 3 (.set (.int .i64 (min 1 (IntKind.i64.wrap (0-1))))),.o 3 4 (.set (.int .i64 (max (-1) (min 1 (IntKind.i64.wrap (0-1))))))] (fun W hW hR=>aj4 (rc W Tryz.call67 fun W=>cS.out W) (rc W Tryz.call67 fun W=>cR.out W) (min_ok Tryz.prog W #[3,3] 3 .i64 1 (IntKind.i64.wrap (0-1))) (max_ok Tryz.prog W #[3,3] 3 .i64 (-1) (min 1 (IntKind.i64.wrap (0-1))))<|hR) fun W=>by kernel_rfl
theorem dCmp_e(s t:ByteArray)(b c:Bool)(e f:Int)(w:World)(cS:Hid (∀W:World,Calls Tryz.prog 67 #[.agg #[.bool b,.string s,.int .i64 e]] W fun r w'=>r=.returned (.int .i64 (1))∧Below W.heap.size W w'))(cR:Hid (∀W:World,Calls Tryz.prog 67 #[.agg #[.bool c,.string t,.int .i64 f]] W fun r w'=>r=.returned (.int .i64 (-1))∧Below W.heap.size W w'))
  :
  Calls Tryz.prog 68 #[.agg #[.bool b,.string s,.int .i64 e],.agg #[.bool c,.string t,.int .i64 f]] w fun r w'=>r=.returned (.int .i64 (1))∧Below w.heap.size w w' :=
 RetAt.at<|ret_sk ttOk mixed (fun a w=>Tryz.call68 a w) Tryz.func68 Tryz.ntmps68 Tryz.results68 _ rfl _ [.reg 6 [],.o 1 1 (.ret (iV 1)),.o 1 3 (.ret (iV (-1))),.o 3 3 (.set (.int .i64 (min 1 (IntKind.i64.wrap (1-(-1)))))),.o 3 4 (.set (.int .i64 (max (-1) (min 1 (IntKind.i64.wrap (1-(-1)))))))] (fun W hW hR=>aj4 (rc W Tryz.call67 fun W=>cS.out W) (rc W Tryz.call67 fun W=>cR.out W) (min_ok Tryz.prog W #[3,3] 3 .i64 1 (IntKind.i64.wrap (1-(-1)))) (max_ok Tryz.prog W #[3,3] 3 .i64 (-1) (min 1 (IntKind.i64.wrap (1-(-1)))))<|hR) fun W=>by kernel_rfl
theorem dCmp_f(s t:ByteArray)(b c:Bool)(e f:Int)(w:World)(cS:Hid (∀W:World,Calls Tryz.prog 67 #[.agg #[.bool b,.string s,.int .i64 e]] W fun r w'=>r=.returned (.int .i64 (1))∧Below W.heap.size W w'))(cR:Hid (∀W:World,Calls Tryz.prog 67 #[.agg #[.bool c,.string t,.int .i64 f]] W fun r w'=>r=.returned (.int .i64 (0))∧Below W.heap.size W w'))
  :
  Calls Tryz.prog 68 #[.agg #[.bool b,.string s,.int .i64 e],.agg #[.bool c,.string t,.int .i64 f]] w fun r w'=>r=.returned (.int .i64 (1))∧Below w.heap.size w w' :=
 RetAt.at<|ret_sk ttOk mixed (fun a w=>Tryz.call68 a w) Tryz.func68 Tryz.ntmps68 Tryz.results68 _ rfl _ [.reg 6 [],.o 1 1 (.ret (iV 1)),.o 1 3 (.ret (iV 0)),.o 3 3 (.set (.int .i64 (min 1 (IntKind.i64.wrap (1-0))))),.o 3 4 (.set (.int .i64 (max (-1) (min 1 (IntKind.i64.wrap (1-0))))))] (fun W hW hR=>aj4 (rc W Tryz.call67 fun W=>cS.out W) (rc W Tryz.call67 fun W=>cR.out W) (min_ok Tryz.prog W #[3,3] 3 .i64 1 (IntKind.i64.wrap (1-0))) (max_ok Tryz.prog W #[3,3] 3 .i64 (-1) (min 1 (IntKind.i64.wrap (1-0))))<|hR) fun W=>by kernel_rfl
theorem dCmp_same(s t:ByteArray)(b c:Bool)(e f:Int)(p k X Y z:Int)(w:World)(cS:Hid (∀W:World,Calls Tryz.prog 67 #[.agg #[.bool b,.string s,.int .i64 e]] W fun r w'=>r=.returned (.int .i64 p)∧Below W.heap.size W w'))(cR:Hid (∀W:World,Calls Tryz.prog 67 #[.agg #[.bool c,.string t,.int .i64 f]] W fun r w'=>r=.returned (.int .i64 p)∧Below W.heap.size W w'))(HT:Hid (TabAt 0 Lib.deBruijn64tab w))(cL:Hid (∀W:World,TabAt 0 Lib.deBruijn64tab W→Calls Tryz.prog 104 #[.agg #[.bool b,.string s,.int .i64 e],.agg #[.bool c,.string t,.int .i64 f]] W fun r w'=>r=.returned (.agg #[.int .i64 k,.bool (neg X),.string (mag X),.bool (neg Y),.string (mag Y)])∧Below W.heap.size W w'))(cC:Hid (∀W:World,Calls Tryz.prog 105 #[.agg #[.bool (neg X),.string (mag X)],.agg #[.bool (neg Y),.string (mag Y)]] W fun r w'=>r=.returned (.int .i64 z)∧Below W.heap.size W w'))
  :
  Calls Tryz.prog 68 #[.agg #[.bool b,.string s,.int .i64 e],.agg #[.bool c,.string t,.int .i64 f]] w fun r w'=>r=.returned (.int .i64 z)∧Below w.heap.size w w' :=
 RetAt.at<|ret_sk ttOk mixed (fun a w=>Tryz.call68 a w) Tryz.func68 Tryz.ntmps68 Tryz.results68 _ rfl _ [.reg 6 [],.o 1 1 (.ret (iV p)),.o 1 3 (.ret (iV p)),.br false,.o 4 2 (.ret (.agg [iV k,bV (neg X),sV (mag X),bV (neg Y),sV (mag Y)])),.o 5 4 (.ret (iV z))] (fun W hW hR=>(fun(hT:Tab0 W)=>aj5 (rc W Tryz.call67 fun W=>cS.out W) (rc W Tryz.call67 fun W=>cR.out W) (ne_n (rfl:(p:Int)=p)) (rt hT Tryz.call104 fun W h=>cL.out W h) (rc W Tryz.call105 fun W=>cC.out W)<|hR) (tab_keep HT.out hW)) fun W=>by kernel_rfl
theorem dsgn_three(x:Dyadic): (dsgn x=-1∧x<0)∨(dsgn x=0∧x=0)∨(dsgn x=1∧0<x):=by
 have h:=dsgn_bd x
 rcases Int.lt_trichotomy (dsgn x) 0 with h1|h1|h1
 ·exact .inl ⟨by omega,dsgn_lt.1 h1⟩
 ·exact .inr (.inl ⟨h1,dsgn_eq.1 h1⟩)
 ·exact .inr (.inr ⟨by omega,dsgn_gt.1 h1⟩)
theorem dsgn_down{x:Dyadic}(h:x<0): dsgn x=-1:=by have:=dsgn_bd x;have:=dsgn_lt.2 h;omega
theorem dsgn_up{x:Dyadic}(h:0<x): dsgn x=1:=by have:=dsgn_bd x;have:=dsgn_gt.2 h;omega
theorem dCmp_any{b c:Bool}{s t:ByteArray}{e f:Int}{x y:Dyadic}(w:World)(n1:ND b s e x)(n2:ND c t f y)(hT:TabAt 0 Lib.deBruijn64tab w):
  Calls Tryz.prog 68 #[.agg #[.bool b,.string s,.int .i64 e],.agg #[.bool c,.string t,.int .i64 f]] w fun r w'=>r=.returned (.int .i64 (dsgn (x-y)))∧Below w.heap.size w w':=by
 have cS:=Lib.hid (fun W=>dSign_any s b e W)
 have cR:=Lib.hid (fun W=>dSign_any t c f W)
 rw[n1.val]at cS
 rw[n2.val]at cR
 by_cases hpq:dsgn x=dsgn y
 ·obtain⟨k,X,Y,hX,hY,bX,bY,k1,k2,cL⟩:=dLevel_ex n1 n2
  have cC:=Lib.hid (fun W=>wCmp_any (mag X) (mag Y) (neg X) (neg Y) W (by rw[mag_size];omega) (by rw[mag_size];omega))
  rw[ival_mk,ival_mk]at cC
  have e1:dsgn (x-y)=sgn (X-Y):=by rw[← hX,← hY,dy_sub,dsgn_dy]
  rw[e1]
  rw[← hpq]at cR
  exact dCmp_same s t b c e f _ k X Y _ w cS cR (Lib.hid hT) cL cC
 ·rcases dsgn_three x with⟨h1,hx⟩|⟨h1,hx⟩|⟨h1,hx⟩<;>rcases dsgn_three y with⟨h2,hy⟩|⟨h2,hy⟩|⟨h2,hy⟩<;>rw[h1]at cS hpq<;>rw[h2]at cR hpq
  ·exact absurd rfl hpq
  ·rw[dsgn_down (x:=x-y) (by subst hy;grind)];exact dCmp_a s t b c e f w cS cR
  ·rw[dsgn_down (x:=x-y) (by grind)];exact dCmp_b s t b c e f w cS cR
  ·rw[dsgn_up (x:=x-y) (by subst hx;grind)];exact dCmp_c s t b c e f w cS cR
  ·exact absurd rfl hpq
  ·rw[dsgn_down (x:=x-y) (by subst hx;grind)];exact dCmp_d s t b c e f w cS cR
  ·rw[dsgn_up (x:=x-y) (by grind)];exact dCmp_e s t b c e f w cS cR
  ·rw[dsgn_up (x:=x-y) (by subst hy;grind)];exact dCmp_f s t b c e f w cS cR
  ·exact absurd rfl hpq
open Go.RowKit
def RdN(w:World)(A:Option Addr)(n:Nat)(bs:Nat→Bool)(ss:Nat→ByteArray)(es:Nat→Int): Prop :=
 0<n→∃b off,A=some ⟨b,off,none⟩∧∀j,j<n→w.cell? ⟨b,off+j*3,none⟩=some (.bool (bs j))∧w.cell? ⟨b,off+j*3+1,none⟩=some (.string (ss j))∧w.cell? ⟨b,off+j*3+2,none⟩=some (.int .i64 (es j))
theorem RdN.below{w w':World}{A:Option Addr}{n:Nat}{bs:Nat→Bool}{ss:Nat→ByteArray}{es:Nat→Int}(h:RdN w A n bs ss es)(hb:Below w.heap.size w w'): RdN w' A n bs ss es:=fun h0=>by
 obtain⟨b,off,e,hc⟩:=h h0
 exact⟨b,off,e,fun j hj=>⟨cell_later hb (hc j hj).1,cell_later hb (hc j hj).2.1,cell_later hb (hc j hj).2.2⟩⟩
theorem RdN.congr{w:World}{A:Option Addr}{n:Nat}{bs:Nat→Bool}{ss ss':Nat→ByteArray}{es es':Nat→Int}(h:RdN w A n bs ss es)(hf:∀j,j<n→ss j=ss' j∧es j=es' j): RdN w A n bs ss' es':=fun h0=>by
 obtain⟨b,off,e,hc⟩:=h h0
 exact⟨b,off,e,fun j hj=>by rw[← (hf j hj).1,← (hf j hj).2];exact hc j hj⟩
def sumD(f:Nat→Dyadic): Nat→Dyadic|0=>0|k+1=>sumD f k+f k
theorem db_sum{L T:Nat}{f:Nat→Dyadic}(h:∀j,DB L T (f j)): ∀k,DB L (T+k) (sumD f k)
 | 0=>db_zero _ _
 | k+1=>db_add (db_sum h k) (db_up (h k) (Nat.le_refl _) (Nat.le_add_right _ _))
theorem db_one:DB 0 1 1:=⟨1,rfl,by decide⟩
theorem rdI2B'{w:World}{g:Nat}{s t:ByteArray}{b b':Bool}(h:Bx w g 30 #[.bool b,.string s,.bool b',.string t]): RdI w (some ⟨g,0,none⟩) 2 (fun j=>if j=0 then b else b') (fun j=>if j=0 then s else t):=fun _ =>
 ⟨g,0,rfl,fun j hj=>by
  have:j=0∨j=1:=by omega
  rcases this with rfl|rfl
  ·exact⟨h.cel 0,h.cel 1⟩
  ·exact⟨h.cel 2,h.cel 3⟩⟩
theorem iAdd2{X Y:Int}{g:Nat}{W:World}(h1:bsz X≤536870912)(h2:bsz Y≤536870912)(h:Bx W g 30 #[.bool (neg X),.string (mag X),.bool (neg Y),.string (mag Y)]):
  Calls Tryz.prog 159 #[.slice (some ⟨g,0,none⟩) 2 2] W fun r w'=>r=.returned (.agg #[.bool (neg (X+Y)),.string (mag (X+Y))])∧Below W.heap.size W w':=by
 have h:=wAdd_any _ 2 2 _ _ W (by decide) (fun j=>by split<;>(rw[mag_size];assumption)) (rdI2B' h)
 have e:sumI (fun j=>ival (if j=0 then neg X else neg Y) (sval (if j=0 then mag X else mag Y))) 2=X+Y:=by
  show(0+ival (neg X) (sval (mag X)))+ival (neg Y) (sval (mag Y))=_
  rw[Int.zero_add,ival_mk,ival_mk]
 rwa [e]at h
set_option maxHeartbeats 1000000 in
theorem dAdd_any(A:Option Addr)(n c:Nat)(bs:Nat→Bool)(ss:Nat→ByteArray)(es:Nat→Int)(xs:Nat→Dyadic)(L0 T0:Nat)(w:World)(hn:n≤1000000)(hnd:∀j,ND (bs j) (ss j) (es j) (xs j))(hdb:∀j,DB L0 T0 (xs j))(hLT:L0+T0+n≤4000000)(hr:RdN w A n bs ss es)(hT:TabAt 0 Lib.deBruijn64tab w):
  Calls Tryz.prog 156 #[.slice A n c] w fun r w'=>r=.returned (.agg #[.bool (neg (dm (sumD xs n))),.string (mag (dm (sumD xs n))),.int .i64 (de (sumD xs n))])∧Below w.heap.size w w':=by
 have HT:=Lib.hid hT
 have HN:=Lib.hid hnd
 have HS:=Lib.hid (fun k (hk:k≤n)=>nd_db (db_sum hdb k) (by omega))
 clear hT hnd hdb hLT
 go_enter Tryz.func156,Tryz.ntmps156
 have X1:=(Bx.new w 32 #[.bool false,.string ⟨#[]⟩,.int .i64 0]).alloc (.cells #[.bool false,.string ⟨#[]⟩,.int .i64 0] 32)
 have X2:=Bx.at1 w (.cells #[.bool false,.string ⟨#[]⟩,.int .i64 0] 32) 32 #[.bool false,.string ⟨#[]⟩,.int .i64 0]
 have hB:=b2 w (.cells #[.bool false,.string ⟨#[]⟩,.int .i64 0] 32) (.cells #[.bool false,.string ⟨#[]⟩,.int .i64 0] 32)
 go_wp2_with fail
 generalize (w.alloc (.cells #[.bool false,.string ⟨#[]⟩,.int .i64 0] 32)).alloc (.cells #[.bool false,.string ⟨#[]⟩,.int .i64 0] 32)=w0 at *
 go_loopw [9] (fun i wr=>∃k:Nat,k≤n∧i=.int .i64 (k:Nat)∧Bx wr w.heap.size 32 #[.bool false,.string ⟨#[]⟩,.int .i64 0]∧Bx wr (w.heap.size+1) 32 #[.bool (neg (dm (sumD xs k))),.string (mag (dm (sumD xs k))),.int .i64 (de (sumD xs k))]∧Below w.heap.size w wr) (fun i _=>n-(intOf i).toNat)
 case atStart=>exact⟨0,Nat.zero_le _,rfl,X1,X2,hB⟩
 case round =>
  obtain⟨k,hk,rfl,Y1,Y2,hB2⟩:=hrel
  by_cases hlt:k<n
  ·obtain⟨b,off,rfl,hc⟩:=hr (by omega)
   obtain⟨c1,c2,c3⟩:=hc k hlt
   have g1:=cell_later hB2 c1
   have g2:=cell_later hB2 c2
   have g3:=cell_later hB2 c3
   clear hc hr c1 c2 c3 X1 X2 hB
   obtain⟨K,X,Y,hX,hY,bX,bY,k1,k2,cL⟩:=dLevel_ex (HS.out k hk) (HN.out k)
   obtain⟨S1,hS1⟩:∃S1,S1=sumD xs (k+1):=⟨_,rfl⟩
   have e1:dy (X+Y) K=S1:=by rw[← dy_add,hX,hY,hS1];rfl
   have bXY:bsz (X+Y)≤300000001:=bsz_add_le bX bY
   have cM:=Lib.hid (fun W h=>dMake_any (mag (X+Y)) (neg (X+Y)) K W (by rw[mag_size];omega) (by omega) (by omega) h)
   rw[ival_mk,e1]at cM
   have HBX:=Lib.hid (And.intro (Nat.le_trans bX (by decide:300000000≤536870912)) (Nat.le_trans bY (by decide:300000000≤536870912)))
   have H1:=Lib.hid hS1
   clear hX hY bX bY k1 k2 hS1 e1 bXY
   have Z3:=Bx.new wr 32 #[.bool (bs k),.string (ss k),.int .i64 (es k)]
   have Z1:=Y1.alloc (.cells #[.bool (bs k),.string (ss k),.int .i64 (es k)] 32)
   have Z2:=Y2.alloc (.cells #[.bool (bs k),.string (ss k),.int .i64 (es k)] 32)
   have hB3:=nxtA hB2 (.cells #[.bool (bs k),.string (ss k),.int .i64 (es k)] 32)
   obtain⟨q1,q2,q5,q3,q4,q6⟩:=Z2.three
   obtain⟨r1,r2,r5,r3,r4,r6⟩:=Z3.three
   clear Y1 Y2 hB2
   go_wp2_with fail
   generalize wr.alloc (.cells #[.bool (bs k),.string (ss k),.int .i64 (es k)] 32)=w4 at *
   refine(cL.out _ (tab_keep HT.out hB3)).mono ?_
   rintro e w5 ⟨rfl,hb⟩
   replace Z1:=Z1.later hb
   replace Z2:=Z2.later hb
   replace hB3:=nxt hB3 hb
   clear hb q1 q2 q5 q3 q4 q6 r1 r2 r5 r3 r4 r6 Z3
   have Z4:=Bx.new w5 137 #[.int .i64 K,.bool (neg X),.string (mag X),.bool (neg Y),.string (mag Y)]
   replace Z1:=Z1.alloc (.cells #[.int .i64 K,.bool (neg X),.string (mag X),.bool (neg Y),.string (mag Y)] 137)
   replace Z2:=Z2.alloc (.cells #[.int .i64 K,.bool (neg X),.string (mag X),.bool (neg Y),.string (mag Y)] 137)
   replace hB3:=nxtA hB3 (.cells #[.int .i64 K,.bool (neg X),.string (mag X),.bool (neg Y),.string (mag Y)] 137)
   go_upto_region 6 with(fail)
   generalize w5.alloc (.cells #[.int .i64 K,.bool (neg X),.string (mag X),.bool (neg Y),.string (mag Y)] 137)=w6 at *
   generalize w5.heap.size=g6 at *
   obtain⟨bX,bY⟩:=HBX.out
   refine wp_region_k [16,17,18,19,20,21,22,23,24] [.eq (.pointer (some ⟨g6,1,none⟩)),.eq (.agg #[.bool (neg X),.string (mag X)]),.eq (.pointer (some ⟨g6,3,none⟩)),.eq (.agg #[.bool (neg Y),.string (mag Y)]),.sli w6.heap.size 30 2 #[.bool (neg X),.string (mag X),.bool (neg Y),.string (mag Y)],.eq (.agg #[.bool (neg (X+Y)),.string (mag (X+Y))]),.eq (.pointer (some ⟨g6,0,none⟩)),.eq (.int .i64 K),.eq (.agg #[.bool (neg (dm S1)),.string (mag (dm S1)),.int .i64 (de S1)])] 27 (by kernel_rfl) (by exact fun _ _ _ _ _ h=>h) (by kernel_rfl) (by rfl) ?hop ?htail
   case hop =>
    intro A hA
    have hN:A.tmps.size=27:=by rw[hA];rfl
    have q6:A.tmps.getD 6 undef=.pointer (some ⟨g6,0,none⟩):=by rw[hA];rfl
    clear hA
    refine⟨?_,?_,?_,?_,?_,?_,?_,?_,?_,trivial⟩
    ·refine kok hN fun u W ev ec ef E B hG hf=>?_
     exact k_val _ rfl rfl hG (by simp[go_sem,B 6 rfl rfl q6]) rfl
    ·refine kok hN fun u W ev ec ef E B hG hf=>?_
     exact k_val _ rfl rfl hG (by simp[go_sem,E 16 0 rfl rfl (hf 0 rfl),(Z4.later hG).cel]) rfl
    ·refine kok hN fun u W ev ec ef E B hG hf=>?_
     exact k_val _ rfl rfl hG (by simp[go_sem,B 6 rfl rfl q6]) rfl
    ·refine kok hN fun u W ev ec ef E B hG hf=>?_
     exact k_val _ rfl rfl hG (by simp[go_sem,E 18 2 rfl rfl (hf 2 rfl),(Z4.later hG).cel]) rfl
    ·refine kok hN fun u W ev ec ef E B hG hf=>?_
     exact k_new _ _ rfl (by simp[go_sem,E 17 1 rfl rfl (hf 1 rfl),E 19 3 rfl rfl (hf 3 rfl)]) (nxtA hG _) ⟨_,rfl,below_le hG,Bx.new _ _ _⟩ rfl
    ·refine kok hN fun u W ev ec ef E B hG hf=>?_
     obtain⟨g20,f20,hb20,hx20⟩:=hf 4 rfl
     exact k_cl rfl rfl (by simp[go_sem,ef,E 20 4 rfl rfl f20]) (iAdd2 bX bY hx20) hG (fun _ _=>rfl)
    ·refine kok hN fun u W ev ec ef E B hG hf=>?_
     exact k_val _ rfl rfl hG (by simp[go_sem,B 6 rfl rfl q6]) rfl
    ·refine kok hN fun u W ev ec ef E B hG hf=>?_
     exact k_val _ rfl rfl hG (by simp[go_sem,E 22 6 rfl rfl (hf 6 rfl),(Z4.later hG).cel]) rfl
    ·refine kok hN fun u W ev ec ef E B hG hf=>?_
     exact k_cl rfl rfl (by simp[go_sem,ef,E 21 5 rfl rfl (hf 5 rfl),E 23 7 rfl rfl (hf 7 rfl)]) (cM.out W (tab_keep HT.out (nxt hB3 hG))) hG (fun _ _=>rfl)
   case htail =>
    intro u w7 hG hP hD
    have f24:u 8=.agg #[.bool (neg (dm S1)),.string (mag (dm S1)),.int .i64 (de S1)]:=hP 8 (by decide)
    simp only[putAll,Act.put,List.setIfInBounds_toArray,List.set_cons_zero,List.set_cons_succ,List.length_cons,List.length_nil,Nat.reduceAdd,List.drop_succ_cons,List.drop_zero,f24]
    replace hB3:=nxt hB3 hG
    replace Z1:=Z1.later hG
    replace Z2:=Z2.later hG
    have HZ:=Lib.hid (And.intro Z1 (And.intro Z2 hB3))
    obtain⟨q1,q2,q5,q3,q4,q6⟩:=Z2.three
    clear hP hD hG f24 Z1 Z2 Z4 hB3 bX bY
    go_wp2
    obtain⟨Z1,Z2,hB3⟩:=HZ.out
    exact⟨⟨k+1,hlt,by go_num,Bx.far3 Z1 (by simp) _ _ _,by rw[← H1.out];exact Z2.set3 _ _ _,st3 hB3 (Nat.le_add_right _ 1) _ _ _⟩,by simp[intOf];omega⟩
  ·obtain rfl:k=n:=by omega
   obtain⟨p1,p2,p5,p3,p4,p6⟩:=Y1.three
   obtain⟨q1,q2,q5,_,_,_⟩:=Y2.three
   have HY:=Lib.hid Y1
   clear Y1 Y2 X1 X2 hB
   go_wp2_with fail
   exact bodyPost_ret (v:=.agg #[.bool (neg (dm (sumD xs k))),.string (mag (dm (sumD xs k))),.int .i64 (de (sumD xs k))]) (by simp[results,Tryz.results156,go_sem,(HY.out.set3 _ _ _).cel]) rfl ⟨rfl,st3 hB2 (Nat.le_refl _) _ _ _⟩
open Go.RowKit
theorem rdN2B{w:World}{g:Nat}{b c:Bool}{s t:ByteArray}{e f:Int}(h:Bx w g 32 #[.bool b,.string s,.int .i64 e,.bool c,.string t,.int .i64 f]): RdN w (some ⟨g,0,none⟩) 2 (fun j=>if j=0 then b else c) (fun j=>if j=0 then s else t) (fun j=>if j=0 then e else f):=fun _ =>
 ⟨g,0,rfl,fun j hj=>by
  have:j=0∨j=1:=by omega
  rcases this with rfl|rfl
  ·exact⟨h.cel 0,h.cel 1,h.cel 2⟩
  ·exact⟨h.cel 3,h.cel 4,h.cel 5⟩⟩
theorem dAdd2N{b c:Bool}{s t:ByteArray}{e f:Int}{x y:Dyadic}{L T0:Nat}{g:Nat}{w:World}(n1:ND b s e x)(n2:ND c t f y)(d1:DB L T0 x)(d2:DB L T0 y)(hLT:L+T0≤3000000)(hT:TabAt 0 Lib.deBruijn64tab w)(h:Bx w g 32 #[.bool b,.string s,.int .i64 e,.bool c,.string t,.int .i64 f]):
  Calls Tryz.prog 156 #[.slice (some ⟨g,0,none⟩) 2 2] w fun r w'=>r=.returned (.agg #[.bool (neg (dm (x+y))),.string (mag (dm (x+y))),.int .i64 (de (x+y))])∧Below w.heap.size w w':=by
 have h:=dAdd_any _ 2 2 _ _ _ (fun j=>if j=0 then x else y) L T0 w (by decide) (fun j=>by by_cases h0:j=0<;>simp only[h0,if_true,if_false]<;>assumption) (fun j=>by by_cases h0:j=0<;>simp only[h0,if_true,if_false]<;>assumption) (by omega) (rdN2B h) hT
 have e1:sumD (fun j=>if j=0 then x else y) 2=x+y:=by
  show(0+x)+y=_
  rw[Dyadic.zero_add]
 rwa [e1]at h
set_option maxHeartbeats 1000000 in
theorem dSub_any{b c:Bool}{s t:ByteArray}{e f:Int}{x y:Dyadic}{L T0:Nat}(w:World)(n1:ND b s e x)(n2:ND c t f y)(d1:DB L T0 x)(d2:DB L T0 y)(hLT:L+T0≤3000000)(hT:TabAt 0 Lib.deBruijn64tab w):
  Calls Tryz.prog 128 #[.agg #[.bool b,.string s,.int .i64 e],.agg #[.bool c,.string t,.int .i64 f]] w fun r w'=>r=.returned (.agg #[.bool (neg (dm (x-y))),.string (mag (dm (x-y))),.int .i64 (de (x-y))])∧Below w.heap.size w w':=by
 have HT:=Lib.hid hT
 have cN:=Lib.hid (fun W (h:TabAt 0 Lib.deBruijn64tab W)=>dNeg_any t c f W (Nat.le_trans n2.size (by decide)) (by have:=n2.lo;omega) (by have:=n2.hi;omega) h)
 rw[n2.val]at cN
 have cA:=Lib.hid (fun g W (h:TabAt 0 Lib.deBruijn64tab W) (hx:Bx W g 32 #[.bool b,.string s,.int .i64 e,.bool (neg (dm (-y))),.string (mag (dm (-y))),.int .i64 (de (-y))])=>dAdd2N n1 (nd_db (db_neg d2) (by omega)) d1 (db_neg d2) hLT h hx)
 rw[show x + -y=x-y by grind]at cA
 clear hT n1 n2 d1 d2 hLT
 go_enter Tryz.func128,Tryz.ntmps128
 go_upto_region 1 with(fail)
 have X1:=((Bx.new w 32 #[.bool b,.string s,.int .i64 e]).alloc (.cells #[.bool c,.string t,.int .i64 f] 32)).alloc (.cells #[.bool false,.string ⟨#[]⟩,.int .i64 0] 32)
 have X2:=(Bx.at1 w (.cells #[.bool b,.string s,.int .i64 e] 32) 32 #[.bool c,.string t,.int .i64 f]).alloc (.cells #[.bool false,.string ⟨#[]⟩,.int .i64 0] 32)
 have X3:=Bx.at2 w (.cells #[.bool b,.string s,.int .i64 e] 32) (.cells #[.bool c,.string t,.int .i64 f] 32) 32 #[.bool false,.string ⟨#[]⟩,.int .i64 0]
 have hB:=b3 w (.cells #[.bool b,.string s,.int .i64 e] 32) (.cells #[.bool c,.string t,.int .i64 f] 32) (.cells #[.bool false,.string ⟨#[]⟩,.int .i64 0] 32)
 generalize ((w.alloc (.cells #[.bool b,.string s,.int .i64 e] 32)).alloc (.cells #[.bool c,.string t,.int .i64 f] 32)).alloc (.cells #[.bool false,.string ⟨#[]⟩,.int .i64 0] 32)=w0 at *
 have hl0:=X1.lt
 have hl1:=X2.lt
 have hl2:=X3.lt
 refine wp_region_k [5,6,7,8,9] [.eq (.agg #[.bool b,.string s,.int .i64 e]),.eq (.agg #[.bool c,.string t,.int .i64 f]),.eq (.agg #[.bool (neg (dm (-y))),.string (mag (dm (-y))),.int .i64 (de (-y))]),.sli w0.heap.size 32 2 #[.bool b,.string s,.int .i64 e,.bool (neg (dm (-y))),.string (mag (dm (-y))),.int .i64 (de (-y))],.eq (.agg #[.bool (neg (dm (x-y))),.string (mag (dm (x-y))),.int .i64 (de (x-y))])] 10 (by kernel_rfl) (by exact fun _ _ _ _ _ h=>h) (by kernel_rfl) (by rfl) ?hop ?htail
 case hop =>
  intro A hA
  have hN:A.tmps.size=10:=by rw[hA];rfl
  have q2:A.tmps.getD 2 undef=.pointer (some ⟨w.heap.size,0,none⟩):=by rw[hA];rfl
  have q3:A.tmps.getD 3 undef=.pointer (some ⟨w.heap.size+1,0,none⟩):=by rw[hA];rfl
  clear hA
  refine⟨?_,?_,?_,?_,?_,trivial⟩
  ·refine kok hN fun u W ev ec ef E B hG hf=>?_
   exact k_val _ rfl rfl hG (by simp[go_sem,B 2 rfl rfl q2,(X1.later hG).cel]) rfl
  ·refine kok hN fun u W ev ec ef E B hG hf=>?_
   exact k_val _ rfl rfl hG (by simp[go_sem,B 3 rfl rfl q3,(X2.later hG).cel]) rfl
  ·refine kok hN fun u W ev ec ef E B hG hf=>?_
   exact k_cl rfl rfl (by simp[go_sem,ef,E 6 1 rfl rfl (hf 1 rfl)]) (cN.out W (tab_keep HT.out (nxt hB hG))) hG (fun _ _=>rfl)
  ·refine kok hN fun u W ev ec ef E B hG hf=>?_
   exact k_new _ _ rfl (by simp[go_sem,E 5 0 rfl rfl (hf 0 rfl),E 7 2 rfl rfl (hf 2 rfl)]) (nxtA hG _) ⟨_,rfl,below_le hG,Bx.new _ _ _⟩ rfl
  ·refine kok hN fun u W ev ec ef E B hG hf=>?_
   obtain⟨g8,f8,hb8,hx8⟩:=hf 3 rfl
   exact k_cl rfl rfl (by simp[go_sem,ef,E 8 3 rfl rfl f8]) (cA.out _ W (tab_keep HT.out (nxt hB hG)) hx8) hG (fun _ _=>rfl)
 case htail =>
  intro u w' hG hP hD
  have f9:u 4=.agg #[.bool (neg (dm (x-y))),.string (mag (dm (x-y))),.int .i64 (de (x-y))]:=hP 4 (by decide)
  simp only[putAll,Act.put,List.setIfInBounds_toArray,List.set_cons_zero,List.set_cons_succ,List.length_cons,List.length_nil,Nat.reduceAdd,List.drop_succ_cons,List.drop_zero,f9]
  have hB:=Lib.hid (nxt hB hG)
  replace X3:=X3.later hG
  have HX:=Lib.hid X3
  obtain⟨q1,q2,q5,q3,q4,q6⟩:=X3.three
  clear X1 X2 X3 hP hD hG f9
  go_wp2_with fail
  exact bodyPost_ret (v:=.agg #[.bool (neg (dm (x-y))),.string (mag (dm (x-y))),.int .i64 (de (x-y))]) (by simp[results,Tryz.results128,go_sem,(HX.out.set3 _ _ _).cel]) rfl ⟨rfl,st3 hB.out (Nat.le_add_right _ 2) _ _ _⟩
