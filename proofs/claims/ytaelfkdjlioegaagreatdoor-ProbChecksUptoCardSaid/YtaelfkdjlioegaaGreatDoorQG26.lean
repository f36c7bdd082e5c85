/- The walks and plain laws beneath the statements. -/
import Derived.Test.YtaelfkdjlioegaaGreatDoorQG25
import Derived.RegionTactic
namespace Go.Proofs.YtaelfkdjlioegaaGreatDoor
open Tryz
set_option maxHeartbeats 4000000
set_option maxRecDepth 100000
open Go.RowKit
variable{w:World}{g L:Nat}{k e f:Int}{t s:ByteArray}{x y:Dyadic}{b c:Bool}
theorem Bx.far3{g' i j k:Nat}{t:TypeId}{cs:Array Value}(h:Bx w g t cs)(hp:g≠g')(u v s:Value): Bx (((w.setCell ⟨g',i,none⟩ u).setCell ⟨g',j,none⟩ v).setCell ⟨g',k,none⟩ s) g t cs:=(h.far2 hp u v).far (p:=⟨g',k,none⟩) hp s
theorem lz(s:ByteArray)(b:Bool)(e m:Int)(x:Dyadic)(w:World)(hT:TabAt 0 Lib.deBruijn64tab w)(cN:Hid (∀W:World,Calls prog 155 #[.agg #[.bool b,.string s]] W fun r w'=>r=.returned (.agg #[.bool (neg m),.string (Qh m)])∧Below W.heap.size W w'))(cM:Hid (∀W:World,TabAt 0 Lib.deBruijn64tab W→Calls prog 96 #[.agg #[.bool (neg m),.string (Qh m)],.int .i64 e] W fun r w'=>r=.returned (.agg #[.bool (neg (dm x)),.string (Qh (dm x)),.int .i64 (de x)])∧Below W.heap.size W w'))
  :
  Calls prog 157 #[.agg #[.bool b,.string s,.int .i64 e]] w fun r w'=>r=.returned (.agg #[.bool (neg (dm x)),.string (Qh (dm x)),.int .i64 (de x)])∧Below w.heap.size w w' :=
 RetAt.at<|Qi Qk mixed (fun a w=>call157 a w) func157 ntmps157 results157 _ rfl _ [.reg 6 [],.o 1 2 (.ret (.agg [bV (neg m),sV (Qh m)])),.o 1 5 (.ret (.val (vN x)))] (fun W hW hR=>(fun(hT:Yk W)=>ZG (rc W call155 fun W=>cN.out W) (rt hT call96 fun W h=>cM.out W h)<|hR) (Qn hT hW)) fun W=>by kernel_rfl
theorem WI(s:ByteArray)(b:Bool)(e:Int)(w:World)(hs:s.size≤536870912)(he1:-4611686018427387904≤e)(he2:e≤4611686018427387904)(hT:TabAt 0 Lib.deBruijn64tab w):
  Calls prog 157 #[.agg #[.bool b,.string s,.int .i64 e]] w fun r w'=>r=.returned (.agg #[.bool (neg (dm (-dy (Qb b (Qa s)) e))),.string (Qh (dm (-dy (Qb b (Qa s)) e))),.int .i64 (de (-dy (Qb b (Qa s)) e))])∧Below w.heap.size w w':=by
 rw[IA]
 have hz:(Qh (-Qb b (Qa s))).size≤536870912:=by rw[QM,D6];exact L8 (XJ b s) hs
 have c:=Lib.hid (fun W h=>GA (Qh (-Qb b (Qa s))) (neg (-Qb b (Qa s))) e W hz he1 he2 h)
 rw[QR]at c
 exact lz s b e _ _ w hT (Lib.hid (fun W=>Bh s b W)) c
theorem eA(s t:ByteArray)(b c:Bool)(e f:Int)(b2:Bool)(s2:ByteArray)(e2:Int)(X Y:Int)(w:World)(hT:TabAt 0 Lib.deBruijn64tab w)(cF:Hid (∀W:World,TabAt 0 Lib.deBruijn64tab W→Calls prog 61 #[.agg #[.bool b,.string s,.int .i64 e]] W fun r w'=>r=.returned (.agg #[.bool false,.string ⟨#[]⟩,.int .i64 0])∧Below W.heap.size W w'))(cG:Hid (∀W:World,TabAt 0 Lib.deBruijn64tab W→Calls prog 61 #[.agg #[.bool c,.string t,.int .i64 f]] W fun r w'=>r=.returned (.agg #[.bool b2,.string s2,.int .i64 e2])∧Below W.heap.size W w'))(cU:Hid (∀W:World,TabAt 0 Lib.deBruijn64tab W→Calls prog 130 #[.int .i64 e2,.agg #[.bool false,.string ⟨#[]⟩,.int .i64 0]] W fun r w'=>r=.returned (.agg #[.bool (neg X),.string (Qh X)])∧Below W.heap.size W w'))(cV:Hid (∀W:World,TabAt 0 Lib.deBruijn64tab W→Calls prog 130 #[.int .i64 e2,.agg #[.bool b2,.string s2,.int .i64 e2]] W fun r w'=>r=.returned (.agg #[.bool (neg Y),.string (Qh Y)])∧Below W.heap.size W w'))
  :
  Calls prog 104 #[.agg #[.bool b,.string s,.int .i64 e],.agg #[.bool c,.string t,.int .i64 f]] w fun r w'=>r=.returned (.agg #[.int .i64 e2,.bool (neg X),.string (Qh X),.bool (neg Y),.string (Qh Y)])∧Below w.heap.size w w' :=
 RetAt.at<|Qi Qk mixed (fun a w=>call104 a w) func104 ntmps104 results104 _ rfl _ [.reg 4 [],.o 1 1 (.ret (.val (rN false ⟨#[]⟩ 0))),.o 1 3 (.ret (.val (rN b2 s2 e2))),.o 2 4 (.set (.int .i64 (min 0 e2))),.o 3 2 (.set (.bool true)),.reg 9 [],.o 8 3 (.ret (.agg [bV (neg X),sV (Qh X)])),.o 8 7 (.ret (.agg [bV (neg Y),sV (Qh Y)]))] (fun W hW hR=>(fun(hT:Yk W)=>KW (rt hT call61 fun W h=>cF.out W h) (rt hT call61 fun W h=>cG.out W h) (VB prog W #[3,3] 3 .i64 0 e2) (MI W (.tmp 17) (.tmp 18) false ⟨#[]⟩ 0) (rt hT call130 fun W h=>cU.out W h) (rt hT call130 fun W h=>cV.out W h)<|hR) (Qn hT hW)) fun W=>by kernel_rfl
theorem Wg(s t:ByteArray)(b c:Bool)(e f:Int)(b1:Bool)(s1:ByteArray)(e1:Int)(hm1:¬ s1.toList=[])(X Y:Int)(w:World)(hT:TabAt 0 Lib.deBruijn64tab w)(cF:Hid (∀W:World,TabAt 0 Lib.deBruijn64tab W→Calls prog 61 #[.agg #[.bool b,.string s,.int .i64 e]] W fun r w'=>r=.returned (.agg #[.bool b1,.string s1,.int .i64 e1])∧Below W.heap.size W w'))(cG:Hid (∀W:World,TabAt 0 Lib.deBruijn64tab W→Calls prog 61 #[.agg #[.bool c,.string t,.int .i64 f]] W fun r w'=>r=.returned (.agg #[.bool false,.string ⟨#[]⟩,.int .i64 0])∧Below W.heap.size W w'))(cU:Hid (∀W:World,TabAt 0 Lib.deBruijn64tab W→Calls prog 130 #[.int .i64 e1,.agg #[.bool b1,.string s1,.int .i64 e1]] W fun r w'=>r=.returned (.agg #[.bool (neg X),.string (Qh X)])∧Below W.heap.size W w'))(cV:Hid (∀W:World,TabAt 0 Lib.deBruijn64tab W→Calls prog 130 #[.int .i64 e1,.agg #[.bool false,.string ⟨#[]⟩,.int .i64 0]] W fun r w'=>r=.returned (.agg #[.bool (neg Y),.string (Qh Y)])∧Below W.heap.size W w'))
  :
  Calls prog 104 #[.agg #[.bool b,.string s,.int .i64 e],.agg #[.bool c,.string t,.int .i64 f]] w fun r w'=>r=.returned (.agg #[.int .i64 e1,.bool (neg X),.string (Qh X),.bool (neg Y),.string (Qh Y)])∧Below w.heap.size w w' :=
 RetAt.at<|Qi Qk mixed (fun a w=>call104 a w) func104 ntmps104 results104 _ rfl _ [.reg 4 [],.o 1 1 (.ret (.val (rN b1 s1 e1))),.o 1 3 (.ret (.val (rN false ⟨#[]⟩ 0))),.o 2 4 (.set (.int .i64 (min e1 0))),.o 3 2 (.set (.bool false)),.o 5 2 (.set (.bool true)),.reg 9 [],.o 8 3 (.ret (.agg [bV (neg X),sV (Qh X)])),.o 8 7 (.ret (.agg [bV (neg Y),sV (Qh Y)]))] (fun W hW hR=>(fun(hT:Yk W)=>G4 (rt hT call61 fun W h=>cF.out W h) (rt hT call61 fun W h=>cG.out W h) (VB prog W #[3,3] 3 .i64 e1 0) (Oc W (.tmp 17) (.tmp 18) b1 s1 e1 hm1) (MI W (.tmp 23) (.tmp 24) false ⟨#[]⟩ 0) (rt hT call130 fun W h=>cU.out W h) (rt hT call130 fun W h=>cV.out W h)<|hR) (Qn hT hW)) fun W=>by kernel_rfl
theorem bI(s t:ByteArray)(b c:Bool)(e f:Int)(b1:Bool)(s1:ByteArray)(e1:Int)(hm1:¬ s1.toList=[])(b2:Bool)(s2:ByteArray)(e2 k:Int)(hm2:¬ s2.toList=[])(hk:min e1 e2=k)(X Y:Int)(w:World)(hT:TabAt 0 Lib.deBruijn64tab w)(cF:Hid (∀W:World,TabAt 0 Lib.deBruijn64tab W→Calls prog 61 #[.agg #[.bool b,.string s,.int .i64 e]] W fun r w'=>r=.returned (.agg #[.bool b1,.string s1,.int .i64 e1])∧Below W.heap.size W w'))(cG:Hid (∀W:World,TabAt 0 Lib.deBruijn64tab W→Calls prog 61 #[.agg #[.bool c,.string t,.int .i64 f]] W fun r w'=>r=.returned (.agg #[.bool b2,.string s2,.int .i64 e2])∧Below W.heap.size W w'))(cU:Hid (∀W:World,TabAt 0 Lib.deBruijn64tab W→Calls prog 130 #[.int .i64 k,.agg #[.bool b1,.string s1,.int .i64 e1]] W fun r w'=>r=.returned (.agg #[.bool (neg X),.string (Qh X)])∧Below W.heap.size W w'))(cV:Hid (∀W:World,TabAt 0 Lib.deBruijn64tab W→Calls prog 130 #[.int .i64 k,.agg #[.bool b2,.string s2,.int .i64 e2]] W fun r w'=>r=.returned (.agg #[.bool (neg Y),.string (Qh Y)])∧Below W.heap.size W w'))
  :
  Calls prog 104 #[.agg #[.bool b,.string s,.int .i64 e],.agg #[.bool c,.string t,.int .i64 f]] w fun r w'=>r=.returned (.agg #[.int .i64 k,.bool (neg X),.string (Qh X),.bool (neg Y),.string (Qh Y)])∧Below w.heap.size w w' :=
 RetAt.at<|Qi Qk mixed (fun a w=>call104 a w) func104 ntmps104 results104 _ rfl _ [.reg 4 [],.o 1 1 (.ret (.val (rN b1 s1 e1))),.o 1 3 (.ret (.val (rN b2 s2 e2))),.o 2 4 (.set (.int .i64 k)),.o 3 2 (.set (.bool false)),.o 5 2 (.set (.bool false)),.reg 9 [],.o 8 3 (.ret (.agg [bV (neg X),sV (Qh X)])),.o 8 7 (.ret (.agg [bV (neg Y),sV (Qh Y)]))] (fun W hW hR=>(fun(hT:Yk W)=>G4 (rt hT call61 fun W h=>cF.out W h) (rt hT call61 fun W h=>cG.out W h) (show Qt prog W (Builtin.min_ #[3,3] 3 #[.int .i64 e1,.int .i64 e2]) (.int .i64 k)from by rw[← hk];exact VB _ _ _ _ _ _ _) (Oc W (.tmp 17) (.tmp 18) b1 s1 e1 hm1) (Oc W (.tmp 23) (.tmp 24) b2 s2 e2 hm2) (rt hT call130 fun W h=>cU.out W h) (rt hT call130 fun W h=>cV.out W h)<|hR) (Qn hT hW)) fun W=>by kernel_rfl
structure ND (b:Bool) (s:ByteArray) (e:Int) (x:Dyadic):Prop where
 val:dy (Qb b (Qa s)) e=x
 size:s.size≤1048576
 lo:-1073741824≤e
 hi:e≤1073741824
theorem VI{T:Nat}(h:DB L T x)(hLT:L+T≤4000000): ND (neg (dm x)) (Qh (dm x)) (de x) x:=by
 obtain⟨h1,h2,_⟩:=ZZ h
 have h4:=Vu h
 exact⟨by rw[QR,DR],by omega,by omega,by omega⟩
theorem PJ(h:ND b s e x): (Qh (dm x)).size≤1048576∧-1073741824≤de x∧de x≤1090519040:=by
 by_cases hz:Qb b (Qa s)=0
 ·have e1:=h.val
  rw[hz,Zu]at e1
  subst e1
  exact⟨by show(Qh 0).size≤_;rw[IY];exact L9 _,by decide,by decide⟩
 ·obtain⟨h1,h2⟩:=MT e hz
  rw[h.val,Q0]at h1 h2
  have h3:=IR (s:=s) (fun h0=>hz (by rw[h0,J1]))
  have h4:=h.size
  have h5:=h.lo
  have h6:=h.hi
  refine⟨?_,by omega,by omega⟩
  rw[h1,QM]
  refine L8 (X9 (Tn _ _)) (L8 (XJ b s) h4)
theorem CJ(h:x≠0): ¬(Qh (dm x)).toList=[]:=fun h1=>h (dm_zero.1 (mag_empty.1 h1))
theorem D0(x:Dyadic)(h:k≤de x): dy (Q6 (dm x) (de x-k)) k=x:=by
 unfold Q6
 rw[if_pos (by omega),VE]
 have e:k+((de x-k).toNat:Int)=de x:=by omega
 rw[e,DR]
theorem Gj(h:k≤de x)(hs:(Qh (dm x)).size≤1048576)(hk:de x-k≤2164260864): Yj (Q6 (dm x) (de x-k))≤300000000:=by
 unfold Q6
 rw[if_pos (by omega)]
 rw[QM]at hs
 exact L8 (Vj hs) (by omega)
theorem Md:Yj 0=0:=rfl
theorem FC(hv:Qb b (Qa s)=dm x)(he:e=de x)(hs:s.size≤1048576)(h1:-9223372036854775808≤e-k)(h2:e-k≤68719476736):
  Hid (∀W:World,TabAt 0 Lib.deBruijn64tab W→Calls prog 130 #[.int .i64 k,.agg #[.bool b,.string s,.int .i64 e]] W fun r w'=>r=.returned (.agg #[.bool (neg (Q6 (dm x) (de x-k))),.string (Qh (Q6 (dm x) (de x-k)))])∧Below W.heap.size W w'):=by
 have h:=Lib.hid (fun W (hT:TabAt 0 Lib.deBruijn64tab W)=>gR s b e k W (by omega) h1 h2 hT)
 rw[hv,he]at h
 rw[he]
 exact h
theorem Fb(n1:ND b s e x)(n2:ND c t f y):
  ∃k X Y:Int,dy X k=x∧dy Y k=y∧Yj X≤300000000∧Yj Y≤300000000∧-2147483648≤k∧k≤2147483648 ∧
   Hid (∀W:World,TabAt 0 Lib.deBruijn64tab W→Calls prog 104 #[.agg #[.bool b,.string s,.int .i64 e],.agg #[.bool c,.string t,.int .i64 f]] W fun r w'=>r=.returned (.agg #[.int .i64 k,.bool (neg X),.string (Qh X),.bool (neg Y),.string (Qh Y)])∧Below W.heap.size W w'):=by
 obtain⟨a1,a2,a3⟩:=PJ n1
 obtain⟨c1,c2,c3⟩:=PJ n2
 have cF:=Lib.hid (fun W (hT:TabAt 0 Lib.deBruijn64tab W)=>Vg s b e W (L8 n1.size (by decide)) (by have:=n1.lo;omega) (by have:=n1.hi;omega) hT)
 have cG:=Lib.hid (fun W (hT:TabAt 0 Lib.deBruijn64tab W)=>Vg t c f W (L8 n2.size (by decide)) (by have:=n2.lo;omega) (by have:=n2.hi;omega) hT)
 rw[n1.val]at cF
 rw[n2.val]at cG
 by_cases hx:x=0
 ·subst hx
  have z1:Q6 (dm 0) (de 0-de y)=0:=by
   show Q6 0 _=0
   unfold Q6;split<;>simp
  refine⟨de y,0,Q6 (dm y) (de y-de y),Zu _,D0 y (Ue _),by rw[Md];decide,Gj (Ue _) c1 (by omega),by omega,by omega,Lib.hid fun W hT=>?_⟩
  have cU:=FC (b:=false) (s:=⟨#[]⟩) (x:=0) (e:=0) (k:=de y) rfl rfl (by decide) (by omega) (by omega)
  rw[z1]at cU
  exact eA s t b c e f _ _ _ _ _ W hT cF cG cU (FC (QR _) rfl c1 (by omega) (by omega))
 ·by_cases hy:y=0
  ·subst hy
   have z1:Q6 (dm 0) (de 0-de x)=0:=by
    show Q6 0 _=0
    unfold Q6;split<;>simp
   refine⟨de x,Q6 (dm x) (de x-de x),0,D0 x (Ue _),Zu _,Gj (Ue _) a1 (by omega),by rw[Md];decide,by omega,by omega,Lib.hid fun W hT=>?_⟩
   have cV:=FC (b:=false) (s:=⟨#[]⟩) (x:=0) (e:=0) (k:=de x) rfl rfl (by decide) (by omega) (by omega)
   rw[z1]at cV
   exact Wg s t b c e f _ _ _ (CJ hx) _ _ W hT cF cG (FC (QR _) rfl a1 (by omega) (by omega)) cV
  ·obtain⟨k,hk⟩:∃k,min (de x) (de y)=k:=⟨_,rfl⟩
   refine⟨k,Q6 (dm x) (de x-k),Q6 (dm y) (de y-k),D0 x (by omega),D0 y (by omega),Gj (by omega) a1 (by omega),Gj (by omega) c1 (by omega),by omega,by omega,Lib.hid fun W hT=>?_⟩
   exact bI s t b c e f _ _ _ (CJ hx) _ _ _ k (CJ hy) hk _ _ W hT cF cG (FC (QR _) rfl a1 (by omega) (by omega)) (FC (QR _) rfl c1 (by omega) (by omega))
theorem jT(s t:ByteArray)(b c:Bool)(e f:Int)(w:World)(cS:Hid (∀W:World,Calls prog 67 #[.agg #[.bool b,.string s,.int .i64 e]] W fun r w'=>r=.returned (.int .i64 (-1))∧Below W.heap.size W w'))(cR:Hid (∀W:World,Calls prog 67 #[.agg #[.bool c,.string t,.int .i64 f]] W fun r w'=>r=.returned (.int .i64 (0))∧Below W.heap.size W w'))
  :
  Calls prog 68 #[.agg #[.bool b,.string s,.int .i64 e],.agg #[.bool c,.string t,.int .i64 f]] w fun r w'=>r=.returned (.int .i64 (-1))∧Below w.heap.size w w' :=
 RetAt.at<|Qi Qk mixed (fun a w=>call68 a w) func68 ntmps68 results68 _ rfl _ [.reg 6 [],.o 1 1 (.ret (iV (-1))),.o 1 3 (.ret (iV 0)),.o 3 3 (.set (.int .i64 (min 1 (IntKind.i64.wrap ((-1)-0))))),.o 3 4 (.set (.int .i64 (max (-1) (min 1 (IntKind.i64.wrap ((-1)-0))))))] (fun W hW hR=>Jj (rc W call67 fun W=>cS.out W) (rc W call67 fun W=>cR.out W) (VB prog W #[3,3] 3 .i64 1 (IntKind.i64.wrap ((-1)-0))) (JP prog W #[3,3] 3 .i64 (-1) (min 1 (IntKind.i64.wrap ((-1)-0))))<|hR) fun W=>by kernel_rfl
theorem j9(s t:ByteArray)(b c:Bool)(e f:Int)(w:World)(cS:Hid (∀W:World,Calls prog 67 #[.agg #[.bool b,.string s,.int .i64 e]] W fun r w'=>r=.returned (.int .i64 (-1))∧Below W.heap.size W w'))(cR:Hid (∀W:World,Calls prog 67 #[.agg #[.bool c,.string t,.int .i64 f]] W fun r w'=>r=.returned (.int .i64 (1))∧Below W.heap.size W w'))
  :
  Calls prog 68 #[.agg #[.bool b,.string s,.int .i64 e],.agg #[.bool c,.string t,.int .i64 f]] w fun r w'=>r=.returned (.int .i64 (-1))∧Below w.heap.size w w' :=
 RetAt.at<|Qi Qk mixed (fun a w=>call68 a w) func68 ntmps68 results68 _ rfl _ [.reg 6 [],.o 1 1 (.ret (iV (-1))),.o 1 3 (.ret (iV 1)),.o 3 3 (.set (.int .i64 (min 1 (IntKind.i64.wrap ((-1)-1))))),.o 3 4 (.set (.int .i64 (max (-1) (min 1 (IntKind.i64.wrap ((-1)-1))))))] (fun W hW hR=>Jj (rc W call67 fun W=>cS.out W) (rc W call67 fun W=>cR.out W) (VB prog W #[3,3] 3 .i64 1 (IntKind.i64.wrap ((-1)-1))) (JP prog W #[3,3] 3 .i64 (-1) (min 1 (IntKind.i64.wrap ((-1)-1))))<|hR) fun W=>by kernel_rfl
theorem jU(s t:ByteArray)(b c:Bool)(e f:Int)(w:World)(cS:Hid (∀W:World,Calls prog 67 #[.agg #[.bool b,.string s,.int .i64 e]] W fun r w'=>r=.returned (.int .i64 (0))∧Below W.heap.size W w'))(cR:Hid (∀W:World,Calls prog 67 #[.agg #[.bool c,.string t,.int .i64 f]] W fun r w'=>r=.returned (.int .i64 (-1))∧Below W.heap.size W w'))
  :
  Calls prog 68 #[.agg #[.bool b,.string s,.int .i64 e],.agg #[.bool c,.string t,.int .i64 f]] w fun r w'=>r=.returned (.int .i64 (1))∧Below w.heap.size w w' :=
 RetAt.at<|Qi Qk mixed (fun a w=>call68 a w) func68 ntmps68 results68 _ rfl _ [.reg 6 [],.o 1 1 (.ret (iV 0)),.o 1 3 (.ret (iV (-1))),.o 3 3 (.set (.int .i64 (min 1 (IntKind.i64.wrap (0-(-1)))))),.o 3 4 (.set (.int .i64 (max (-1) (min 1 (IntKind.i64.wrap (0-(-1)))))))] (fun W hW hR=>Jj (rc W call67 fun W=>cS.out W) (rc W call67 fun W=>cR.out W) (VB prog W #[3,3] 3 .i64 1 (IntKind.i64.wrap (0-(-1)))) (JP prog W #[3,3] 3 .i64 (-1) (min 1 (IntKind.i64.wrap (0-(-1)))))<|hR) fun W=>by kernel_rfl
theorem kW(s t:ByteArray)(b c:Bool)(e f:Int)(w:World)(cS:Hid (∀W:World,Calls prog 67 #[.agg #[.bool b,.string s,.int .i64 e]] W fun r w'=>r=.returned (.int .i64 (0))∧Below W.heap.size W w'))(cR:Hid (∀W:World,Calls prog 67 #[.agg #[.bool c,.string t,.int .i64 f]] W fun r w'=>r=.returned (.int .i64 (1))∧Below W.heap.size W w'))
  :
  Calls prog 68 #[.agg #[.bool b,.string s,.int .i64 e],.agg #[.bool c,.string t,.int .i64 f]] w fun r w'=>r=.returned (.int .i64 (-1))∧Below w.heap.size w w' :=
 RetAt.at<|Qi Qk mixed (fun a w=>call68 a w) func68 ntmps68 results68 _ rfl _ [.reg 6 [],.o 1 1 (.ret (iV 0)),.o 1 3 (.ret (iV 1)),.o 3 3 (.set (.int .i64 (min 1 (IntKind.i64.wrap (0-1))))),.o 3 4 (.set (.int .i64 (max (-1) (min 1 (IntKind.i64.wrap (0-1))))))] (fun W hW hR=>Jj (rc W call67 fun W=>cS.out W) (rc W call67 fun W=>cR.out W) (VB prog W #[3,3] 3 .i64 1 (IntKind.i64.wrap (0-1))) (JP prog W #[3,3] 3 .i64 (-1) (min 1 (IntKind.i64.wrap (0-1))))<|hR) fun W=>by kernel_rfl
theorem kP(s t:ByteArray)(b c:Bool)(e f:Int)(w:World)(cS:Hid (∀W:World,Calls prog 67 #[.agg #[.bool b,.string s,.int .i64 e]] W fun r w'=>r=.returned (.int .i64 (1))∧Below W.heap.size W w'))(cR:Hid (∀W:World,Calls prog 67 #[.agg #[.bool c,.string t,.int .i64 f]] W fun r w'=>r=.returned (.int .i64 (-1))∧Below W.heap.size W w'))
  :
  Calls prog 68 #[.agg #[.bool b,.string s,.int .i64 e],.agg #[.bool c,.string t,.int .i64 f]] w fun r w'=>r=.returned (.int .i64 (1))∧Below w.heap.size w w' :=
 RetAt.at<|Qi Qk mixed (fun a w=>call68 a w) func68 ntmps68 results68 _ rfl _ [.reg 6 [],.o 1 1 (.ret (iV 1)),.o 1 3 (.ret (iV (-1))),.o 3 3 (.set (.int .i64 (min 1 (IntKind.i64.wrap (1-(-1)))))),.o 3 4 (.set (.int .i64 (max (-1) (min 1 (IntKind.i64.wrap (1-(-1)))))))] (fun W hW hR=>Jj (rc W call67 fun W=>cS.out W) (rc W call67 fun W=>cR.out W) (VB prog W #[3,3] 3 .i64 1 (IntKind.i64.wrap (1-(-1)))) (JP prog W #[3,3] 3 .i64 (-1) (min 1 (IntKind.i64.wrap (1-(-1)))))<|hR) fun W=>by kernel_rfl
theorem lg(s t:ByteArray)(b c:Bool)(e f:Int)(w:World)(cS:Hid (∀W:World,Calls prog 67 #[.agg #[.bool b,.string s,.int .i64 e]] W fun r w'=>r=.returned (.int .i64 (1))∧Below W.heap.size W w'))(cR:Hid (∀W:World,Calls prog 67 #[.agg #[.bool c,.string t,.int .i64 f]] W fun r w'=>r=.returned (.int .i64 (0))∧Below W.heap.size W w'))
  :
  Calls prog 68 #[.agg #[.bool b,.string s,.int .i64 e],.agg #[.bool c,.string t,.int .i64 f]] w fun r w'=>r=.returned (.int .i64 (1))∧Below w.heap.size w w' :=
 RetAt.at<|Qi Qk mixed (fun a w=>call68 a w) func68 ntmps68 results68 _ rfl _ [.reg 6 [],.o 1 1 (.ret (iV 1)),.o 1 3 (.ret (iV 0)),.o 3 3 (.set (.int .i64 (min 1 (IntKind.i64.wrap (1-0))))),.o 3 4 (.set (.int .i64 (max (-1) (min 1 (IntKind.i64.wrap (1-0))))))] (fun W hW hR=>Jj (rc W call67 fun W=>cS.out W) (rc W call67 fun W=>cR.out W) (VB prog W #[3,3] 3 .i64 1 (IntKind.i64.wrap (1-0))) (JP prog W #[3,3] 3 .i64 (-1) (min 1 (IntKind.i64.wrap (1-0))))<|hR) fun W=>by kernel_rfl
theorem Uj(s t:ByteArray)(b c:Bool)(e f:Int)(p k X Y z:Int)(w:World)(cS:Hid (∀W:World,Calls prog 67 #[.agg #[.bool b,.string s,.int .i64 e]] W fun r w'=>r=.returned (.int .i64 p)∧Below W.heap.size W w'))(cR:Hid (∀W:World,Calls prog 67 #[.agg #[.bool c,.string t,.int .i64 f]] W fun r w'=>r=.returned (.int .i64 p)∧Below W.heap.size W w'))(HT:Hid (TabAt 0 Lib.deBruijn64tab w))(cL:Hid (∀W:World,TabAt 0 Lib.deBruijn64tab W→Calls prog 104 #[.agg #[.bool b,.string s,.int .i64 e],.agg #[.bool c,.string t,.int .i64 f]] W fun r w'=>r=.returned (.agg #[.int .i64 k,.bool (neg X),.string (Qh X),.bool (neg Y),.string (Qh Y)])∧Below W.heap.size W w'))(cC:Hid (∀W:World,Calls prog 105 #[.agg #[.bool (neg X),.string (Qh X)],.agg #[.bool (neg Y),.string (Qh Y)]] W fun r w'=>r=.returned (.int .i64 z)∧Below W.heap.size W w'))
  :
  Calls prog 68 #[.agg #[.bool b,.string s,.int .i64 e],.agg #[.bool c,.string t,.int .i64 f]] w fun r w'=>r=.returned (.int .i64 z)∧Below w.heap.size w w' :=
 RetAt.at<|Qi Qk mixed (fun a w=>call68 a w) func68 ntmps68 results68 _ rfl _ [.reg 6 [],.o 1 1 (.ret (iV p)),.o 1 3 (.ret (iV p)),.br false,.o 4 2 (.ret (.agg [iV k,bV (neg X),sV (Qh X),bV (neg Y),sV (Qh Y)])),.o 5 4 (.ret (iV z))] (fun W hW hR=>(fun(hT:Yk W)=>ZP (rc W call67 fun W=>cS.out W) (rc W call67 fun W=>cR.out W) (pd (rfl:(p:Int)=p)) (rt hT call104 fun W h=>cL.out W h) (rc W call105 fun W=>cC.out W)<|hR) (Qn HT.out hW)) fun W=>by kernel_rfl
theorem Ec(x:Dyadic): (Zs x=-1∧x<0)∨(Zs x=0∧x=0)∨(Zs x=1∧0<x):=by
 have h:=Dy x
 rcases U0 (Zs x) 0 with h1|h1|h1
 ·exact .inl ⟨by omega,dsgn_lt.1 h1⟩
 ·exact .inr (.inl ⟨h1,dsgn_eq.1 h1⟩)
 ·exact .inr (.inr ⟨by omega,dsgn_gt.1 h1⟩)
theorem BN(h:x<0): Zs x=-1:=by have:=Dy x;have:=dsgn_lt.2 h;omega
theorem IM(h:0<x): Zs x=1:=by have:=Dy x;have:=dsgn_gt.2 h;omega
theorem bA(w:World)(n1:ND b s e x)(n2:ND c t f y)(hT:TabAt 0 Lib.deBruijn64tab w):
  Calls prog 68 #[.agg #[.bool b,.string s,.int .i64 e],.agg #[.bool c,.string t,.int .i64 f]] w fun r w'=>r=.returned (.int .i64 (Zs (x-y)))∧Below w.heap.size w w':=by
 have cS:=Lib.hid (fun W=>KX s b e W)
 have cR:=Lib.hid (fun W=>KX t c f W)
 rw[n1.val]at cS
 rw[n2.val]at cR
 by_cases hpq:Zs x=Zs y
 ·obtain⟨k,X,Y,hX,hY,bX,bY,k1,k2,cL⟩:=Fb n1 n2
  have cC:=Lib.hid (fun W=>dt (Qh X) (Qh Y) (neg X) (neg Y) W (by rw[QM];omega) (by rw[QM];omega))
  rw[QR,QR]at cC
  have e1:Zs (x-y)=ZB (X-Y):=by rw[← hX,← hY,WC,DC]
  rw[e1]
  rw[← hpq]at cR
  exact Uj s t b c e f _ k X Y _ w cS cR (Lib.hid hT) cL cC
 ·rcases Ec x with⟨h1,hx⟩|⟨h1,hx⟩|⟨h1,hx⟩<;>rcases Ec y with⟨h2,hy⟩|⟨h2,hy⟩|⟨h2,hy⟩<;>rw[h1]at cS hpq<;>rw[h2]at cR hpq
  ·exact absurd rfl hpq
  ·rw[BN (x:=x-y) (by subst hy;grind)];exact jT s t b c e f w cS cR
  ·rw[BN (x:=x-y) (by grind)];exact j9 s t b c e f w cS cR
  ·rw[IM (x:=x-y) (by subst hx;grind)];exact jU s t b c e f w cS cR
  ·exact absurd rfl hpq
  ·rw[BN (x:=x-y) (by subst hx;grind)];exact kW s t b c e f w cS cR
  ·rw[IM (x:=x-y) (by grind)];exact kP s t b c e f w cS cR
  ·rw[IM (x:=x-y) (by subst hy;grind)];exact lg s t b c e f w cS cR
  ·exact absurd rfl hpq
def o6(w:World)(A:Option Addr)(n:Nat)(bs:Nat→Bool)(ss:Nat→ByteArray)(es:Nat→Int): Prop :=
 0<n→∃b off,A=some ⟨b,off,none⟩∧∀j,j<n→w.cell? ⟨b,off+j*3,none⟩=some (.bool (bs j))∧w.cell? ⟨b,off+j*3+1,none⟩=some (.string (ss j))∧w.cell? ⟨b,off+j*3+2,none⟩=some (.int .i64 (es j))
def Ke(f:Nat→Dyadic): Nat→Dyadic|0=>0|k+1=>Ke f k+f k
theorem F9{T:Nat}{f:Nat→Dyadic}(h:∀j,DB L T (f j)): ∀k,DB L (T+k) (Ke f k)
 | 0=>gC _ _
 | k+1=>kk (F9 h k) (Cd (h k) (L3 _) (Lf _ _))
theorem ko:DB 0 1 1:=⟨1,rfl,by decide⟩
theorem lh{b':Bool}(h:Bx w g 30 #[.bool b,.string s,.bool b',.string t]): mH w (some ⟨g,0,none⟩) 2 (fun j=>if j=0 then b else b') (fun j=>if j=0 then s else t):=fun _ =>
 ⟨g,0,rfl,fun j hj=>by
  have:j=0∨j=1:=by omega
  rcases this with rfl|rfl
  ·exact⟨h.cel 0,h.cel 1⟩
  ·exact⟨h.cel 2,h.cel 3⟩⟩
theorem nm{X Y:Int}{W:World}(h1:Yj X≤536870912)(h2:Yj Y≤536870912)(h:Bx W g 30 #[.bool (neg X),.string (Qh X),.bool (neg Y),.string (Qh Y)]):
  Calls prog 159 #[.slice (some ⟨g,0,none⟩) 2 2] W fun r w'=>r=.returned (.agg #[.bool (neg (X+Y)),.string (Qh (X+Y))])∧Below W.heap.size W w':=by
 have h:=I0 _ 2 2 _ _ W (by decide) (fun j=>by split<;>(rw[QM];assumption)) (lh h)
 have e:JD (fun j=>Qb (if j=0 then neg X else neg Y) (Qa (if j=0 then Qh X else Qh Y))) 2=X+Y:=by
  show(0+Qb (neg X) (Qa (Qh X)))+Qb (neg Y) (Qa (Qh Y))=_
  rw[Int.zero_add,QR,QR]
 rwa [e]at h
theorem du(A:Option Addr)(n c:Nat)(bs:Nat→Bool)(ss:Nat→ByteArray)(es:Nat→Int)(xs:Nat→Dyadic)(L0 T0:Nat)(w:World)(hn:n≤1000000)(hnd:∀j,ND (bs j) (ss j) (es j) (xs j))(hdb:∀j,DB L0 T0 (xs j))(hLT:L0+T0+n≤4000000)(hr:o6 w A n bs ss es)(hT:TabAt 0 Lib.deBruijn64tab w):
  Calls prog 156 #[.slice A n c] w fun r w'=>r=.returned (.agg #[.bool (neg (dm (Ke xs n))),.string (Qh (dm (Ke xs n))),.int .i64 (de (Ke xs n))])∧Below w.heap.size w w':=by
 have HT:=Lib.hid hT
 have HN:=Lib.hid hnd
 have HS:=Lib.hid (fun k (hk:k≤n)=>VI (F9 hdb k) (by omega))
 clear hT hnd hdb hLT
 go_enter func156,ntmps156
 have X1:=(Bx.new w 32 #[.bool false,.string ⟨#[]⟩,.int .i64 0]).alloc (.cells #[.bool false,.string ⟨#[]⟩,.int .i64 0] 32)
 have X2:=Bx.at1 w (.cells #[.bool false,.string ⟨#[]⟩,.int .i64 0] 32) 32 #[.bool false,.string ⟨#[]⟩,.int .i64 0]
 have hB:=b2 w (.cells #[.bool false,.string ⟨#[]⟩,.int .i64 0] 32) (.cells #[.bool false,.string ⟨#[]⟩,.int .i64 0] 32)
 go_wp2_with fail
 generalize (w.alloc (.cells #[.bool false,.string ⟨#[]⟩,.int .i64 0] 32)).alloc (.cells #[.bool false,.string ⟨#[]⟩,.int .i64 0] 32)=w0 at *
 go_loopw [9] (fun i wr=>∃k:Nat,k≤n∧i=.int .i64 (k:Nat)∧Bx wr w.heap.size 32 #[.bool false,.string ⟨#[]⟩,.int .i64 0]∧Bx wr (w.heap.size+1) 32 #[.bool (neg (dm (Ke xs k))),.string (Qh (dm (Ke xs k))),.int .i64 (de (Ke xs k))]∧Below w.heap.size w wr) (fun i _=>n-(intOf i).toNat)
 case atStart=>exact⟨0,L9 _,rfl,X1,X2,hB⟩
 case round =>
  obtain⟨k,hk,rfl,Y1,Y2,hB2⟩:=hrel
  by_cases hlt:k<n
  ·obtain⟨b,off,rfl,hc⟩:=hr (by omega)
   obtain⟨c1,c2,c3⟩:=hc k hlt
   have g1:=L7 hB2 c1
   have g2:=L7 hB2 c2
   have g3:=L7 hB2 c3
   clear hc hr c1 c2 c3 X1 X2 hB
   obtain⟨K,X,Y,hX,hY,bX,bY,k1,k2,cL⟩:=Fb (HS.out k hk) (HN.out k)
   obtain⟨S1,hS1⟩:∃S1,S1=Ke xs (k+1):=⟨_,rfl⟩
   have e1:dy (X+Y) K=S1:=by rw[← Iu,hX,hY,hS1];rfl
   have bXY:Yj (X+Y)≤300000001:=Kh bX bY
   have cM:=Lib.hid (fun W h=>GA (Qh (X+Y)) (neg (X+Y)) K W (by rw[QM];omega) (by omega) (by omega) h)
   rw[QR,e1]at cM
   have HBX:=Lib.hid (And.intro (L8 bX (by decide:300000000≤536870912)) (L8 bY (by decide:300000000≤536870912)))
   have H1:=Lib.hid hS1
   clear hX hY bX bY k1 k2 hS1 e1 bXY
   have Z3:=Bx.new wr 32 #[.bool (bs k),.string (ss k),.int .i64 (es k)]
   have Z1:=Y1.alloc (.cells #[.bool (bs k),.string (ss k),.int .i64 (es k)] 32)
   have Z2:=Y2.alloc (.cells #[.bool (bs k),.string (ss k),.int .i64 (es k)] 32)
   have hB3:=JJ hB2 (.cells #[.bool (bs k),.string (ss k),.int .i64 (es k)] 32)
   obtain⟨q1,q2,q5,q3,q4,q6⟩:=Z2.three
   obtain⟨r1,r2,r5,r3,r4,r6⟩:=Z3.three
   clear Y1 Y2 hB2
   go_wp2_with fail
   generalize wr.alloc (.cells #[.bool (bs k),.string (ss k),.int .i64 (es k)] 32)=w4 at *
   refine(cL.out _ (Qn HT.out hB3)).mono ?_
   rintro e w5 ⟨rfl,hb⟩
   replace Z1:=Z1.later hb
   replace Z2:=Z2.later hb
   replace hB3:=nxt hB3 hb
   clear hb q1 q2 q5 q3 q4 q6 r1 r2 r5 r3 r4 r6 Z3
   have Z4:=Bx.new w5 137 #[.int .i64 K,.bool (neg X),.string (Qh X),.bool (neg Y),.string (Qh Y)]
   replace Z1:=Z1.alloc (.cells #[.int .i64 K,.bool (neg X),.string (Qh X),.bool (neg Y),.string (Qh Y)] 137)
   replace Z2:=Z2.alloc (.cells #[.int .i64 K,.bool (neg X),.string (Qh X),.bool (neg Y),.string (Qh Y)] 137)
   replace hB3:=JJ hB3 (.cells #[.int .i64 K,.bool (neg X),.string (Qh X),.bool (neg Y),.string (Qh Y)] 137)
   go_upto_region 6 with(fail)
   generalize w5.alloc (.cells #[.int .i64 K,.bool (neg X),.string (Qh X),.bool (neg Y),.string (Qh Y)] 137)=w6 at *
   generalize w5.heap.size=g6 at *
   obtain⟨bX,bY⟩:=HBX.out
   refine Kx [16,17,18,19,20,21,22,23,24] [.eq (.pointer (some ⟨g6,1,none⟩)),.eq (.agg #[.bool (neg X),.string (Qh X)]),.eq (.pointer (some ⟨g6,3,none⟩)),.eq (.agg #[.bool (neg Y),.string (Qh Y)]),.sli w6.heap.size 30 2 #[.bool (neg X),.string (Qh X),.bool (neg Y),.string (Qh Y)],.eq (.agg #[.bool (neg (X+Y)),.string (Qh (X+Y))]),.eq (.pointer (some ⟨g6,0,none⟩)),.eq (.int .i64 K),.eq (.agg #[.bool (neg (dm S1)),.string (Qh (dm S1)),.int .i64 (de S1)])] 27 (by kernel_rfl) (by exact fun _ _ _ _ _ h=>h) (by kernel_rfl) (by rfl) ?hop ?htail
   case hop =>
    intro A hA
    have hN:A.tmps.size=27:=by rw[hA];rfl
    have q6:A.tmps.getD 6 undef=.pointer (some ⟨g6,0,none⟩):=by rw[hA];rfl
    clear hA
    refine⟨?_,?_,?_,?_,?_,?_,?_,?_,?_,trivial⟩
    ·refine YT hN fun u W ev ec ef E B hG hf=>?_
     exact QV _ rfl rfl hG (by simp[go_sem,B 6 rfl rfl q6]) rfl
    ·refine YT hN fun u W ev ec ef E B hG hf=>?_
     exact QV _ rfl rfl hG (by simp[go_sem,E 16 0 rfl rfl (hf 0 rfl),(Z4.later hG).cel]) rfl
    ·refine YT hN fun u W ev ec ef E B hG hf=>?_
     exact QV _ rfl rfl hG (by simp[go_sem,B 6 rfl rfl q6]) rfl
    ·refine YT hN fun u W ev ec ef E B hG hf=>?_
     exact QV _ rfl rfl hG (by simp[go_sem,E 18 2 rfl rfl (hf 2 rfl),(Z4.later hG).cel]) rfl
    ·refine YT hN fun u W ev ec ef E B hG hf=>?_
     exact MW _ _ rfl (by simp[go_sem,E 17 1 rfl rfl (hf 1 rfl),E 19 3 rfl rfl (hf 3 rfl)]) (JJ hG _) ⟨_,rfl,V9 hG,Bx.new _ _ _⟩ rfl
    ·refine YT hN fun u W ev ec ef E B hG hf=>?_
     obtain⟨g20,f20,hb20,hx20⟩:=hf 4 rfl
     exact EL rfl rfl (by simp[go_sem,ef,E 20 4 rfl rfl f20]) (nm bX bY hx20) hG (fun _ _=>rfl)
    ·refine YT hN fun u W ev ec ef E B hG hf=>?_
     exact QV _ rfl rfl hG (by simp[go_sem,B 6 rfl rfl q6]) rfl
    ·refine YT hN fun u W ev ec ef E B hG hf=>?_
     exact QV _ rfl rfl hG (by simp[go_sem,E 22 6 rfl rfl (hf 6 rfl),(Z4.later hG).cel]) rfl
    ·refine YT hN fun u W ev ec ef E B hG hf=>?_
     exact EL rfl rfl (by simp[go_sem,ef,E 21 5 rfl rfl (hf 5 rfl),E 23 7 rfl rfl (hf 7 rfl)]) (cM.out W (Qn HT.out (nxt hB3 hG))) hG (fun _ _=>rfl)
   case htail =>
    intro u w7 hG hP hD
    have f24:u 8=.agg #[.bool (neg (dm S1)),.string (Qh (dm S1)),.int .i64 (de S1)]:=hP 8 (by decide)
    simp only[Z5,Act.put,Rp,Ti,Tj,Rb,Rs,Nat.reduceAdd,Td,Te,f24]
    replace hB3:=nxt hB3 hG
    replace Z1:=Z1.later hG
    replace Z2:=Z2.later hG
    have HZ:=Lib.hid (And.intro Z1 (And.intro Z2 hB3))
    obtain⟨q1,q2,q5,q3,q4,q6⟩:=Z2.three
    clear hP hD hG f24 Z1 Z2 Z4 hB3 bX bY
    go_wp2
    obtain⟨Z1,Z2,hB3⟩:=HZ.out
    exact⟨⟨k+1,hlt,by go_num,Bx.far3 Z1 (by simp) _ _ _,by rw[← H1.out];exact Z2.set3 _ _ _,cx hB3 (Lf _ 1) _ _ _⟩,by simp[intOf];omega⟩
  ·obtain rfl:k=n:=by omega
   obtain⟨p1,p2,p5,p3,p4,p6⟩:=Y1.three
   obtain⟨q1,q2,q5,_,_,_⟩:=Y2.three
   have HY:=Lib.hid Y1
   clear Y1 Y2 X1 X2 hB
   go_wp2_with fail
   exact bodyPost_ret (v:=.agg #[.bool (neg (dm (Ke xs k))),.string (Qh (dm (Ke xs k))),.int .i64 (de (Ke xs k))]) (by simp[results,results156,go_sem,(HY.out.set3 _ _ _).cel]) rfl ⟨rfl,cx hB2 (L3 _) _ _ _⟩
theorem mK(h:Bx w g 32 #[.bool b,.string s,.int .i64 e,.bool c,.string t,.int .i64 f]): o6 w (some ⟨g,0,none⟩) 2 (fun j=>if j=0 then b else c) (fun j=>if j=0 then s else t) (fun j=>if j=0 then e else f):=fun _ =>
 ⟨g,0,rfl,fun j hj=>by
  have:j=0∨j=1:=by omega
  rcases this with rfl|rfl
  ·exact⟨h.cel 0,h.cel 1,h.cel 2⟩
  ·exact⟨h.cel 3,h.cel 4,h.cel 5⟩⟩
theorem j5{T0:Nat}(n1:ND b s e x)(n2:ND c t f y)(d1:DB L T0 x)(d2:DB L T0 y)(hLT:L+T0≤3000000)(hT:TabAt 0 Lib.deBruijn64tab w)(h:Bx w g 32 #[.bool b,.string s,.int .i64 e,.bool c,.string t,.int .i64 f]):
  Calls prog 156 #[.slice (some ⟨g,0,none⟩) 2 2] w fun r w'=>r=.returned (.agg #[.bool (neg (dm (x+y))),.string (Qh (dm (x+y))),.int .i64 (de (x+y))])∧Below w.heap.size w w':=by
 have h:=du _ 2 2 _ _ _ (fun j=>if j=0 then x else y) L T0 w (by decide) (fun j=>by by_cases h0:j=0<;>simp only[h0,if_true,if_false]<;>assumption) (fun j=>by by_cases h0:j=0<;>simp only[h0,if_true,if_false]<;>assumption) (by omega) (mK h) hT
 have e1:Ke (fun j=>if j=0 then x else y) 2=x+y:=by
  show(0+x)+y=_
  rw[Dyadic.zero_add]
 rwa [e1]at h
theorem bF{T0:Nat}(w:World)(n1:ND b s e x)(n2:ND c t f y)(d1:DB L T0 x)(d2:DB L T0 y)(hLT:L+T0≤3000000)(hT:TabAt 0 Lib.deBruijn64tab w):
  Calls prog 128 #[.agg #[.bool b,.string s,.int .i64 e],.agg #[.bool c,.string t,.int .i64 f]] w fun r w'=>r=.returned (.agg #[.bool (neg (dm (x-y))),.string (Qh (dm (x-y))),.int .i64 (de (x-y))])∧Below w.heap.size w w':=by
 have HT:=Lib.hid hT
 have cN:=Lib.hid (fun W (h:TabAt 0 Lib.deBruijn64tab W)=>WI t c f W (L8 n2.size (by decide)) (by have:=n2.lo;omega) (by have:=n2.hi;omega) h)
 rw[n2.val]at cN
 have cA:=Lib.hid (fun g W (h:TabAt 0 Lib.deBruijn64tab W) (hx:Bx W g 32 #[.bool b,.string s,.int .i64 e,.bool (neg (dm (-y))),.string (Qh (dm (-y))),.int .i64 (de (-y))])=>j5 n1 (VI (CI d2) (by omega)) d1 (CI d2) hLT h hx)
 rw[show x + -y=x-y by grind]at cA
 clear hT n1 n2 d1 d2 hLT
 go_enter func128,ntmps128
 go_upto_region 1 with(fail)
 have X1:=((Bx.new w 32 #[.bool b,.string s,.int .i64 e]).alloc (.cells #[.bool c,.string t,.int .i64 f] 32)).alloc (.cells #[.bool false,.string ⟨#[]⟩,.int .i64 0] 32)
 have X2:=(Bx.at1 w (.cells #[.bool b,.string s,.int .i64 e] 32) 32 #[.bool c,.string t,.int .i64 f]).alloc (.cells #[.bool false,.string ⟨#[]⟩,.int .i64 0] 32)
 have X3:=Bx.at2 w (.cells #[.bool b,.string s,.int .i64 e] 32) (.cells #[.bool c,.string t,.int .i64 f] 32) 32 #[.bool false,.string ⟨#[]⟩,.int .i64 0]
 have hB:=b3 w (.cells #[.bool b,.string s,.int .i64 e] 32) (.cells #[.bool c,.string t,.int .i64 f] 32) (.cells #[.bool false,.string ⟨#[]⟩,.int .i64 0] 32)
 generalize ((w.alloc (.cells #[.bool b,.string s,.int .i64 e] 32)).alloc (.cells #[.bool c,.string t,.int .i64 f] 32)).alloc (.cells #[.bool false,.string ⟨#[]⟩,.int .i64 0] 32)=w0 at *
 have hl0:=X1.lt
 have hl1:=X2.lt
 have hl2:=X3.lt
 refine Kx [5,6,7,8,9] [.eq (.agg #[.bool b,.string s,.int .i64 e]),.eq (.agg #[.bool c,.string t,.int .i64 f]),.eq (.agg #[.bool (neg (dm (-y))),.string (Qh (dm (-y))),.int .i64 (de (-y))]),.sli w0.heap.size 32 2 #[.bool b,.string s,.int .i64 e,.bool (neg (dm (-y))),.string (Qh (dm (-y))),.int .i64 (de (-y))],.eq (.agg #[.bool (neg (dm (x-y))),.string (Qh (dm (x-y))),.int .i64 (de (x-y))])] 10 (by kernel_rfl) (by exact fun _ _ _ _ _ h=>h) (by kernel_rfl) (by rfl) ?hop ?htail
 case hop =>
  intro A hA
  have hN:A.tmps.size=10:=by rw[hA];rfl
  have q2:A.tmps.getD 2 undef=.pointer (some ⟨w.heap.size,0,none⟩):=by rw[hA];rfl
  have q3:A.tmps.getD 3 undef=.pointer (some ⟨w.heap.size+1,0,none⟩):=by rw[hA];rfl
  clear hA
  refine⟨?_,?_,?_,?_,?_,trivial⟩
  ·refine YT hN fun u W ev ec ef E B hG hf=>?_
   exact QV _ rfl rfl hG (by simp[go_sem,B 2 rfl rfl q2,(X1.later hG).cel]) rfl
  ·refine YT hN fun u W ev ec ef E B hG hf=>?_
   exact QV _ rfl rfl hG (by simp[go_sem,B 3 rfl rfl q3,(X2.later hG).cel]) rfl
  ·refine YT hN fun u W ev ec ef E B hG hf=>?_
   exact EL rfl rfl (by simp[go_sem,ef,E 6 1 rfl rfl (hf 1 rfl)]) (cN.out W (Qn HT.out (nxt hB hG))) hG (fun _ _=>rfl)
  ·refine YT hN fun u W ev ec ef E B hG hf=>?_
   exact MW _ _ rfl (by simp[go_sem,E 5 0 rfl rfl (hf 0 rfl),E 7 2 rfl rfl (hf 2 rfl)]) (JJ hG _) ⟨_,rfl,V9 hG,Bx.new _ _ _⟩ rfl
  ·refine YT hN fun u W ev ec ef E B hG hf=>?_
   obtain⟨g8,f8,hb8,hx8⟩:=hf 3 rfl
   exact EL rfl rfl (by simp[go_sem,ef,E 8 3 rfl rfl f8]) (cA.out _ W (Qn HT.out (nxt hB hG)) hx8) hG (fun _ _=>rfl)
 case htail =>
  intro u w' hG hP hD
  have f9:u 4=.agg #[.bool (neg (dm (x-y))),.string (Qh (dm (x-y))),.int .i64 (de (x-y))]:=hP 4 (by decide)
  simp only[Z5,Act.put,Rp,Ti,Tj,Rb,Rs,Nat.reduceAdd,Td,Te,f9]
  have hB:=Lib.hid (nxt hB hG)
  replace X3:=X3.later hG
  have HX:=Lib.hid X3
  obtain⟨q1,q2,q5,q3,q4,q6⟩:=X3.three
  clear X1 X2 X3 hP hD hG f9
  go_wp2_with fail
  exact bodyPost_ret (v:=.agg #[.bool (neg (dm (x-y))),.string (Qh (dm (x-y))),.int .i64 (de (x-y))]) (by simp[results,results128,go_sem,(HX.out.set3 _ _ _).cel]) rfl ⟨rfl,cx hB.out (Lf _ 2) _ _ _⟩
