/- The walks and plain laws beneath the statements. -/
import Derived.Test.YtaelfkdjlioegaaGreatDoorQG28
import Derived.RegionTactic
namespace Go.Proofs.YtaelfkdjlioegaaGreatDoor
open Tryz
set_option maxHeartbeats 4000000
set_option maxRecDepth 100000
open Go.RowKit
variable{L T0:Nat}{x y:Dyadic}{b c:Bool}{s t:ByteArray}{e f:Int}
theorem Bs(d1:DB L T0 x)(hLT:L+T0≤4000000):
  Hid (∀W:World,Calls prog 73 #[.agg #[.bool (neg (dm x)),.string (Qh (dm x)),.int .i64 (de x)]] W fun r w'=>r=.returned (.int .i64 (Zs x))∧Below W.heap.size W w'):=by
 have h1:=Vu d1
 have h:=Lib.hid (fun W=>Zg (Qh (dm x)) (neg (dm x)) (de x) W (by omega))
 rw[QR,DR]at h
 exact h
theorem F4(n1:ND b s e x):
  Hid (∀W:World,Calls prog 72 #[.agg #[.bool b,.string s,.int .i64 e]] W fun r w'=>r=.returned (.agg #[.bool (neg (dm x)),.string (Qh (dm x)),.int .i64 (de x)])∧Below W.heap.size W w'):=by
 have h:=Lib.hid (fun W=>G6 s b e W (L8 n1.size (by decide)) n1.lo (by have:=n1.hi;omega))
 rw[n1.val]at h
 exact h
theorem Eo(d1:DB L T0 x)(d2:DB L T0 y)(hLT:L+T0≤4000000)(hge:de y≤de x):
  ∃d m q:Int,IntKind.i64.wrap (de x-de y)=d∧Hid (∀W:World,Calls prog 160 #[.agg #[.bool (neg (dm x)),.string (Qh (dm x))],.int .i64 d] W fun r w'=>r=.returned (.agg #[.bool (neg m),.string (Qh m)])∧Below W.heap.size W w') ∧
   Hid (∀W:World,Calls prog 116 #[.agg #[.bool (neg m),.string (Qh m)],.agg #[.bool (neg (dm y)),.string (Qh (dm y))]] W fun r w'=>r=.returned (.agg #[.bool (neg q),.string (Qh q)])∧Below W.heap.size W w') ∧
   Hid (∀W:World,Calls prog 51 #[.agg #[.bool (neg q),.string (Qh q)],.int .i64 (de y)] W fun r w'=>r=.returned (.agg #[.bool (neg (dm (x+y))),.string (Qh (dm (x+y))),.int .i64 (de (x+y))])∧Below W.heap.size W w'):=by
 have f1:=ZZ d1
 have f2:=ZZ d2
 have s1:=Vu d1
 have s2:=Vu d2
 have hsh:Q6 (dm x) (de x-de y)=dm x*2^(de x-de y).toNat:=by unfold Q6;rw[if_pos (by omega)]
 have bm:Yj (dm x*2^(de x-de y).toNat)≤1100000:=by
  rw[QM]at s1
  exact L8 (Vj s1) (by omega)
 have by':Yj (dm y)≤1100000:=by rw[QM]at s2;omega
 have bq:=Kh bm by'
 refine⟨de x-de y,dm x*2^(de x-de y).toNat,dm x*2^(de x-de y).toNat+dm y,Ln _ (by omega),?_,?_,?_⟩
 ·have h:=Lib.hid (fun W=>UP (Qh (dm x)) (neg (dm x)) (de x-de y) W (by omega) (by omega) (by omega))
  rw[QR]at h
  exact h
 ·have h:=Lib.hid (fun W=>OY (Qh (dm x*2^(de x-de y).toNat)) (Qh (dm y)) (neg (dm x*2^(de x-de y).toNat)) (neg (dm y)) W (by rw[QM];omega) (by omega))
  rw[QR,QR]at h
  exact h
 ·have h:=Lib.hid (fun W=>KU (Qh (dm x*2^(de x-de y).toNat+dm y)) (neg (dm x*2^(de x-de y).toNat+dm y)) (de y) W (by rw[QM];omega) (by omega) (by omega))
  rw[QR,← Iu,VE,DR]at h
  have e1:de y+((de x-de y).toNat:Int)=de x:=by omega
  rw[e1,DR]at h
  exact h
theorem Dd(w:World)(n1:ND b s e x)(n2:ND c t f y)(d1:DB L T0 x)(d2:DB L T0 y)(hLT:L+T0≤4000000):
  Calls prog 134 #[.agg #[.bool b,.string s,.int .i64 e],.agg #[.bool c,.string t,.int .i64 f]] w fun r w'=>r=.returned (.agg #[.bool (neg (dm (x+y))),.string (Qh (dm (x+y))),.int .i64 (de (x+y))])∧Below w.heap.size w w':=by
 have cF:=F4 n1
 have cG:=F4 n2
 have cS:=Bs d1 hLT
 have cT:=Bs d2 hLT
 by_cases hx:x=0
 ·subst hx
  rw[Dyadic.zero_add]
  exact SR s t b c e f _ _ _ (dsgn_eq.2 rfl) w cF cG cS
 ·have hsx:¬ Zs x=0:=fun h=>hx (dsgn_eq.1 h)
  by_cases hy:y=0
  ·subst hy
   rw[Dyadic.add_zero]
   exact Wd s t b c e f _ _ _ _ hsx (dsgn_eq.2 rfl) w cF cG cS cT
  ·have hsy:¬ Zs y=0:=fun h=>hy (dsgn_eq.1 h)
   by_cases hlt:de x<de y
   ·obtain⟨d,m,q,hw,cH,cP,cM⟩:=Eo d2 d1 hLT (by omega)
    rw[Dyadic.add_comm x y]
    exact RV s t b c e f x y _ _ d m q _ hsx hsy hlt hw w cF cG cS cT cH cP cM
   ·obtain⟨d,m,q,hw,cH,cP,cM⟩:=Eo d1 d2 hLT (by omega)
    exact We s t b c e f x y _ _ d m q _ hsx hsy hlt hw w cF cG cS cT cH cP cM
theorem gy(s t:ByteArray)(b c:Bool)(e f:Int)(x z:Dyadic)(w:World)(cN:Hid (∀W:World,Calls prog 135 #[.agg #[.bool c,.string t,.int .i64 f]] W fun r w'=>r=.returned (.agg #[.bool (neg (dm z)),.string (Qh (dm z)),.int .i64 (de z)])∧Below W.heap.size W w'))(cM:Hid (∀W:World,Calls prog 134 #[.agg #[.bool b,.string s,.int .i64 e],.agg #[.bool (neg (dm z)),.string (Qh (dm z)),.int .i64 (de z)]] W fun r w'=>r=.returned (.agg #[.bool (neg (dm x)),.string (Qh (dm x)),.int .i64 (de x)])∧Below W.heap.size W w'))
  :
  Calls prog 109 #[.agg #[.bool b,.string s,.int .i64 e],.agg #[.bool c,.string t,.int .i64 f]] w fun r w'=>r=.returned (.agg #[.bool (neg (dm x)),.string (Qh (dm x)),.int .i64 (de x)])∧Below w.heap.size w w' :=
 RetAt.at<|Qi Qk mixed (fun a w=>call109 a w) func109 ntmps109 results109 _ rfl _ [.reg 4 [],.o 1 2 (.ret (.val (vN z))),.o 1 3 (.ret (.val (vN x)))] (fun W hW hR=>ZG (rc W call135 fun W=>cN.out W) (rc W call134 fun W=>cM.out W)<|hR) fun W=>by kernel_rfl
theorem FT(w:World)(n1:ND b s e x)(n2:ND c t f y)(d1:DB L T0 x)(d2:DB L T0 y)(hLT:L+T0≤4000000):
  Calls prog 109 #[.agg #[.bool b,.string s,.int .i64 e],.agg #[.bool c,.string t,.int .i64 f]] w fun r w'=>r=.returned (.agg #[.bool (neg (dm (x-y))),.string (Qh (dm (x-y))),.int .i64 (de (x-y))])∧Below w.heap.size w w':=by
 have cN:=Lib.hid (fun W=>E5 t c f W (L8 n2.size (by decide)) n2.lo (by have:=n2.hi;omega))
 rw[n2.val]at cN
 have cM:=Lib.hid (fun W=>Dd W n1 (VI (CI d2) hLT) d1 (CI d2) hLT)
 rw[show x + -y=x-y by grind]at cM
 exact gy s t b c e f _ _ w cN cM
theorem ik(s t:ByteArray)(b c:Bool)(e f g:Int)(x:Dyadic)(w:World)(cM:Hid (∀W:World,Calls prog 109 #[.agg #[.bool b,.string s,.int .i64 e],.agg #[.bool c,.string t,.int .i64 f]] W fun r w'=>r=.returned (.agg #[.bool (neg (dm x)),.string (Qh (dm x)),.int .i64 (de x)])∧Below W.heap.size W w'))(cS:Hid (∀W:World,Calls prog 73 #[.agg #[.bool (neg (dm x)),.string (Qh (dm x)),.int .i64 (de x)]] W fun r w'=>r=.returned (.int .i64 g)∧Below W.heap.size W w'))
  :
  Calls prog 75 #[.agg #[.bool b,.string s,.int .i64 e],.agg #[.bool c,.string t,.int .i64 f]] w fun r w'=>r=.returned (.int .i64 g)∧Below w.heap.size w w':=by
 go_enter func75,ntmps75
 go_upto_region 1 with(fail)
 have X1:=(Bx.new w 32 #[.bool b,.string s,.int .i64 e]).alloc (.cells #[.bool c,.string t,.int .i64 f] 32)
 have X2:=Bx.at1 w (.cells #[.bool b,.string s,.int .i64 e] 32) 32 #[.bool c,.string t,.int .i64 f]
 have hB:=b2 w (.cells #[.bool b,.string s,.int .i64 e] 32) (.cells #[.bool c,.string t,.int .i64 f] 32)
 generalize (w.alloc (.cells #[.bool b,.string s,.int .i64 e] 32)).alloc (.cells #[.bool c,.string t,.int .i64 f] 32)=w0 at *
 have hl0:=X1.lt
 have hl1:=X2.lt
 obtain⟨p1,p2,p5,p3,p4,p6⟩:=X1.three
 obtain⟨q1,q2,q5,q3,q4,q6⟩:=X2.three
 go_wp2_with fail
 refine(cM.out _).mono ?_
 rintro e w1 ⟨rfl,hb⟩
 replace X1:=X1.later hb
 replace X2:=X2.later hb
 replace hB:=nxt hB hb
 clear hb
 clear p1 p2 p3 p4 p5 p6 q1 q2 q3 q4 q5 q6
 obtain⟨p1,p2,p5,p3,p4,p6⟩:=X1.three
 obtain⟨q1,q2,q5,q3,q4,q6⟩:=X2.three
 go_wp2_with fail
 refine(cS.out _).mono ?_
 rintro e w2 ⟨rfl,hb⟩
 replace X1:=X1.later hb
 replace X2:=X2.later hb
 replace hB:=nxt hB hb
 clear hb
 clear p1 p2 p3 p4 p5 p6 q1 q2 q3 q4 q5 q6
 obtain⟨p1,p2,p5,p3,p4,p6⟩:=X1.three
 obtain⟨q1,q2,q5,q3,q4,q6⟩:=X2.three
 go_wp2
 go_ret
 exact⟨rfl,hB⟩
theorem UT(w:World)(n1:ND b s e x)(n2:ND c t f y)(d1:DB L T0 x)(d2:DB L T0 y)(hLT:L+T0≤3000000):
  Calls prog 75 #[.agg #[.bool b,.string s,.int .i64 e],.agg #[.bool c,.string t,.int .i64 f]] w fun r w'=>r=.returned (.int .i64 (Zs (x-y)))∧Below w.heap.size w w':=by
 exact ik s t b c e f _ _ w (Lib.hid fun W=>FT W n1 n2 d1 d2 (by omega)) (Bs (OQ d1 d2) (by omega))
