/- The walks and plain laws beneath the statements. -/
import Derived.Test.YtaelfkdjlioegaaGreatDoorQO9
import Derived.Test.YtaelfkdjlioegaaGreatDoorQO23
namespace Go.Proofs.YtaelfkdjlioegaaGreatDoor
set_option maxRecDepth 100000
open Go.RowKit
theorem rOf_i(v:Nat)(x:Int)(w:World)(hv:v<LB)(hx:x=(v:Int)):
 Calls Tryz.prog 85 #[.int .u64 x] w fun e w'=>e=.returned (.string (nstr v))∧Below w.heap.size w w':=by subst hx;exact rOf_any v w hv
theorem rText_nd(s:ByteArray)(A:Option Addr)(c:Nat)(w:World)(hs:s.size≤268435456)(hnc:nd 1 (sval s)≤c)(hr:Rd w A (nd 1 (sval s)) (bitv (sval s))):
  Calls Tryz.prog 113 #[.slice A (nd 1 (sval s)) c] w fun e w'=>e=.returned (.string (nstr (sval s)))∧Below w.heap.size w w' :=
 rText_any A _ c _ w (by have:=nd1_size s;omega) hnc (lt2_nd _) hr
set_option maxHeartbeats 400000 in
theorem rForm_any(s:ByteArray)(b:Bool)(w:World)(hs:s.size≤268435456):
  Calls Tryz.prog 83 #[.agg #[.bool b,.string s]] w fun e w'=>e=.returned (.agg #[.bool (neg (ival b (sval s))),.string (mag (ival b (sval s)))])∧Below w.heap.size w w':=by
 have hn:=ival_neg b (sval s)
 have hm:=mag_ival b (sval s)
 have cB:=Lib.hid (fun W=>rBits_any s W hs)
 obtain⟨t,ht⟩:∃t,t=nstr (sval s):=⟨_,rfl⟩
 have HT:=Lib.hid ht.symm
 have hemp:=nstr_empty (v:=sval s)
 rw[← ht]at hm hemp
 clear ht
 by_cases h0:sval s=0
 ·have he:t.toList=[]:=hemp.2 h0
  replace hn:neg (ival b (sval s))=false:=by rw[hn,h0];cases b<;>rfl
  cases b
  ·have HN:=Lib.hid hn
   have HM:=Lib.hid hm
   clear hn hm hemp h0
   go_enter Tryz.func83,Tryz.ntmps83
   go_wp2_with fail
   have X1:=(Bx.new w 30 #[.bool false,.string s]).alloc (.cells #[.bool false,.string ⟨#[]⟩] 30)
   have X2:=Bx.at1 w (.cells #[.bool false,.string s] 30) 30 #[.bool false,.string ⟨#[]⟩]
   have hB:=b2 w (.cells #[.bool false,.string s] 30) (.cells #[.bool false,.string ⟨#[]⟩] 30)
   generalize (w.alloc (.cells #[.bool false,.string s] 30)).alloc (.cells #[.bool false,.string ⟨#[]⟩] 30)=w0 at *
   have hl0:=X1.lt
   have hl1:=X2.lt
   refine(cB.out _).mono ?_
   rintro e w1 ⟨A,c,rfl,hnc,hr,hb⟩
   replace X1:=X1.later hb
   replace X2:=X2.later hb
   replace hB:=nxt hB hb
   clear hb
   have cT:=Lib.hid (rText_nd s A c w1 hs hnc hr)
   go_wp2_with fail
   refine cT.out.mono ?_
   rintro e w2 ⟨rfl,hb⟩
   rw[HT.out]
   replace X1:=X1.later hb
   replace X2:=X2.later hb
   replace hB:=nxt hB hb
   clear hb
   obtain⟨p1,p2,_,_⟩:=X1.two
   obtain⟨q1,q2,q3,q4⟩:=X2.two
   go_wp2
   exact bodyPost_ret (v:=.agg #[.bool false,.string t]) (by simp[results,Tryz.results83,go_sem,(X2.set2 _ _).cel]) rfl ⟨by rw[HN.out,HM.out],st2 hB (Nat.le_add_right _ 1) _ _⟩
  ·have HN:=Lib.hid hn
   have HM:=Lib.hid hm
   clear hn hm hemp h0
   go_enter Tryz.func83,Tryz.ntmps83
   go_wp2_with fail
   have X1:=(Bx.new w 30 #[.bool true,.string s]).alloc (.cells #[.bool false,.string ⟨#[]⟩] 30)
   have X2:=Bx.at1 w (.cells #[.bool true,.string s] 30) 30 #[.bool false,.string ⟨#[]⟩]
   have hB:=b2 w (.cells #[.bool true,.string s] 30) (.cells #[.bool false,.string ⟨#[]⟩] 30)
   generalize (w.alloc (.cells #[.bool true,.string s] 30)).alloc (.cells #[.bool false,.string ⟨#[]⟩] 30)=w0 at *
   have hl0:=X1.lt
   have hl1:=X2.lt
   refine(cB.out _).mono ?_
   rintro e w1 ⟨A,c,rfl,hnc,hr,hb⟩
   replace X1:=X1.later hb
   replace X2:=X2.later hb
   replace hB:=nxt hB hb
   clear hb
   have cT:=Lib.hid (rText_nd s A c w1 hs hnc hr)
   go_wp2_with fail
   refine cT.out.mono ?_
   rintro e w2 ⟨rfl,hb⟩
   rw[HT.out]
   replace X1:=X1.later hb
   replace X2:=X2.later hb
   replace hB:=nxt hB hb
   clear hb
   obtain⟨p1,p2,_,_⟩:=X1.two
   obtain⟨q1,q2,q3,q4⟩:=X2.two
   go_wp2
   exact bodyPost_ret (v:=.agg #[.bool false,.string t]) (by simp[results,Tryz.results83,go_sem,(X2.set2 _ _).cel]) rfl ⟨by rw[HN.out,HM.out],st2 hB (Nat.le_add_right _ 1) _ _⟩
 ·have he:t.toList.isEmpty=false:=by
   rw[List.isEmpty_eq_false_iff];exact fun h=>h0 (hemp.1 h)
  have hv:(sval s==0)=false:=by simpa using h0
  rw[hv]at hn
  cases b
  ·have HN:=Lib.hid hn
   have HM:=Lib.hid hm
   clear hn hm hemp hv h0
   go_enter Tryz.func83,Tryz.ntmps83
   go_wp2_with fail
   have X1:=(Bx.new w 30 #[.bool false,.string s]).alloc (.cells #[.bool false,.string ⟨#[]⟩] 30)
   have X2:=Bx.at1 w (.cells #[.bool false,.string s] 30) 30 #[.bool false,.string ⟨#[]⟩]
   have hB:=b2 w (.cells #[.bool false,.string s] 30) (.cells #[.bool false,.string ⟨#[]⟩] 30)
   generalize (w.alloc (.cells #[.bool false,.string s] 30)).alloc (.cells #[.bool false,.string ⟨#[]⟩] 30)=w0 at *
   have hl0:=X1.lt
   have hl1:=X2.lt
   refine(cB.out _).mono ?_
   rintro e w1 ⟨A,c,rfl,hnc,hr,hb⟩
   replace X1:=X1.later hb
   replace X2:=X2.later hb
   replace hB:=nxt hB hb
   clear hb
   have cT:=Lib.hid (rText_nd s A c w1 hs hnc hr)
   go_wp2_with fail
   refine cT.out.mono ?_
   rintro e w2 ⟨rfl,hb⟩
   rw[HT.out]
   replace X1:=X1.later hb
   replace X2:=X2.later hb
   replace hB:=nxt hB hb
   clear hb
   obtain⟨p1,p2,_,_⟩:=X1.two
   obtain⟨q1,q2,q3,q4⟩:=X2.two
   go_wp2
   exact bodyPost_ret (v:=.agg #[.bool false,.string t]) (by simp[results,Tryz.results83,go_sem,(X2.set2 _ _).cel]) rfl ⟨by rw[HN.out,HM.out];rfl,st2 hB (Nat.le_add_right _ 1) _ _⟩
  ·have HN:=Lib.hid hn
   have HM:=Lib.hid hm
   clear hn hm hemp hv h0
   go_enter Tryz.func83,Tryz.ntmps83
   go_wp2_with fail
   have X1:=(Bx.new w 30 #[.bool true,.string s]).alloc (.cells #[.bool false,.string ⟨#[]⟩] 30)
   have X2:=Bx.at1 w (.cells #[.bool true,.string s] 30) 30 #[.bool false,.string ⟨#[]⟩]
   have hB:=b2 w (.cells #[.bool true,.string s] 30) (.cells #[.bool false,.string ⟨#[]⟩] 30)
   generalize (w.alloc (.cells #[.bool true,.string s] 30)).alloc (.cells #[.bool false,.string ⟨#[]⟩] 30)=w0 at *
   have hl0:=X1.lt
   have hl1:=X2.lt
   refine(cB.out _).mono ?_
   rintro e w1 ⟨A,c,rfl,hnc,hr,hb⟩
   replace X1:=X1.later hb
   replace X2:=X2.later hb
   replace hB:=nxt hB hb
   clear hb
   have cT:=Lib.hid (rText_nd s A c w1 hs hnc hr)
   go_wp2_with fail
   refine cT.out.mono ?_
   rintro e w2 ⟨rfl,hb⟩
   rw[HT.out]
   replace X1:=X1.later hb
   replace X2:=X2.later hb
   replace hB:=nxt hB hb
   clear hb
   obtain⟨p1,p2,_,_⟩:=X1.two
   obtain⟨q1,q2,q3,q4⟩:=X2.two
   go_wp2
   exact bodyPost_ret (v:=.agg #[.bool true,.string t]) (by simp[results,Tryz.results83,go_sem,(X2.set2 _ _).cel]) rfl ⟨by rw[HN.out,HM.out];rfl,st2 hB (Nat.le_add_right _ 1) _ _⟩
set_option maxHeartbeats 400000 in
theorem rWOf_neg(v:Nat)(w:World)(h0:0<v)(hv:v≤9223372036854775808):
  Calls Tryz.prog 52 #[.int .i64 (-(v:Int))] w fun e w'=>e=.returned (.agg #[.bool (neg (-(v:Int))),.string (mag (-(v:Int)))])∧Below w.heap.size w w':=by
 have hn:neg (-(v:Int))=true:=decide_eq_true (by omega)
 have hm:mag (-(v:Int))=nstr v:=by unfold mag;rw[Int.natAbs_neg,Int.natAbs_natCast]
 rw[hn,hm]
 have co:=Lib.hid (fun W x hx=>rOf_i v x W (by rw[LB_eq];omega) hx)
 have hcv:IntKind.u64.wrap ((v:Int)-1)=(v:Int)-1:=by rw[IntKind.wrap_u64];omega
 have hcw:IntKind.u64.wrap ((v:Int)-1+1)=(v:Int):=by rw[IntKind.wrap_u64];omega
 have hcx:IntKind.u64.wrap (v:Int)=(v:Int):=by rw[IntKind.wrap_u64];omega
 have hcy:IntKind.u64.wrap (-(-(v:Int)+1))=(v:Int)-1:=by rw[IntKind.wrap_u64];omega
 clear hn hm
 go_enter Tryz.func52,Tryz.ntmps52
 have X:=Bx.new w 30 #[.bool false,.string ⟨#[]⟩]
 go_wp2_with fail
 refine(co.out _ _ (by omega)).mono ?_
 rintro e w1 ⟨rfl,hb⟩
 have X1:=X.later hb
 have hB:=nxt (b1 w _) hb
 clear hb X
 obtain⟨r1,r2,r3,r4⟩:=X1.two
 go_wp2
 exact bodyPost_ret (v:=.agg #[.bool true,.string (nstr v)]) (by simp[results,Tryz.results52,go_sem,(X1.set2 _ _).cel]) rfl ⟨rfl,st2 hB (Nat.le_refl _) _ _⟩
set_option maxHeartbeats 400000 in
theorem rWOf_pos(v:Nat)(w:World)(hv:v≤9223372036854775807):
  Calls Tryz.prog 52 #[.int .i64 (v:Int)] w fun e w'=>e=.returned (.agg #[.bool (neg ((v:Int))),.string (mag ((v:Int)))])∧Below w.heap.size w w':=by
 have hn:neg (v:Int)=false:=decide_eq_false (by omega)
 have hm:mag (v:Int)=nstr v:=by unfold mag;rw[Int.natAbs_natCast]
 rw[hn,hm]
 have co:=Lib.hid (fun W x hx=>rOf_i v x W (by rw[LB_eq];omega) hx)
 have hcx:IntKind.u64.wrap (v:Int)=(v:Int):=by rw[IntKind.wrap_u64];omega
 clear hn hm
 go_enter Tryz.func52,Tryz.ntmps52
 have X:=Bx.new w 30 #[.bool false,.string ⟨#[]⟩]
 go_wp2_with fail
 refine(co.out _ _ rfl).mono ?_
 rintro e w1 ⟨rfl,hb⟩
 have X1:=X.later hb
 have hB:=nxt (b1 w _) hb
 clear hb X
 obtain⟨r1,r2,r3,r4⟩:=X1.two
 go_wp2
 exact bodyPost_ret (v:=.agg #[.bool false,.string (nstr v)]) (by simp[results,Tryz.results52,go_sem,(X1.set2 _ _).cel]) rfl ⟨rfl,st2 hB (Nat.le_refl _) _ _⟩
theorem rWOf_any(n:Int)(w:World)(h1:-9223372036854775808≤n)(h2:n≤9223372036854775807):
  Calls Tryz.prog 52 #[.int .i64 n] w fun e w'=>e=.returned (.agg #[.bool (neg n),.string (mag n)])∧Below w.heap.size w w':=by
 by_cases h:n<0
 ·obtain⟨v,rfl⟩:∃v:Nat,n=-(v:Int):=⟨n.natAbs,by omega⟩
  exact rWOf_neg v w (by omega) (by omega)
 ·obtain⟨v,rfl⟩:∃v:Nat,n=(v:Int):=⟨n.natAbs,by omega⟩
  exact rWOf_pos v w (by omega)
set_option maxHeartbeats 400000 in
theorem rWSign_any(s:ByteArray)(b:Bool)(w:World)(hs:s.size≤268435456):
  Calls Tryz.prog 108 #[.agg #[.bool b,.string s]] w fun e w'=>e=.returned (.int .i64 (sgn (ival b (sval s))))∧Below w.heap.size w w':=by
 have cL:=Lib.hid (fun W=>rLen_any s W hs)
 by_cases h0:sval s=0
 ·have HS:=Lib.hid (show sgn (ival b (sval s))=0 by rw[h0,ival_zero];rfl)
  have hl:nd 1 (sval s)=0:=by rw[h0];rfl
  rw[hl]at cL
  clear h0 hl
  go_enter Tryz.func108,Tryz.ntmps108
  go_wp2_with fail
  refine(cL.out _).mono ?_
  rintro e w1 ⟨rfl,hb⟩
  go_wp2
  go_ret
  exact⟨by rw[HS.out];rfl,nxt (b1 w _) hb⟩
 ·have hl:0<nd 1 (sval s):=nd_pos h0
  have hl2:(((nd 1 (sval s):Nat):Int)==0)=false:=by simp;omega
  cases b
  ·have HS:=Lib.hid (show sgn (ival false (sval s))=1 by unfold sgn ival;simp;omega)
   clear h0
   go_enter Tryz.func108,Tryz.ntmps108
   have X1:=Bx.new w 30 #[.bool false,.string s]
   go_wp2_with fail
   refine(cL.out _).mono ?_
   rintro e w1 ⟨rfl,hb⟩
   obtain⟨p1,p2,_,_⟩:=(X1.later hb).two
   go_wp2
   go_ret
   exact⟨by rw[HS.out];rfl,nxt (b1 w _) hb⟩
  ·have HS:=Lib.hid (show sgn (ival true (sval s))=-1 by unfold sgn ival;simp;omega)
   clear h0
   go_enter Tryz.func108,Tryz.ntmps108
   have X1:=Bx.new w 30 #[.bool true,.string s]
   go_wp2_with fail
   refine(cL.out _).mono ?_
   rintro e w1 ⟨rfl,hb⟩
   obtain⟨p1,p2,_,_⟩:=(X1.later hb).two
   go_wp2
   go_ret
   exact⟨by rw[HS.out];rfl,nxt (b1 w _) hb⟩
open Go.RowKit
