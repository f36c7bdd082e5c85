/- The walks and plain laws beneath the statements. -/
import Derived.Test.YtaelfkdjlioegaaGreatDoorQG18
import Derived.Test.YtaelfkdjlioegaaGreatDoorQG10
namespace Go.Proofs.YtaelfkdjlioegaaGreatDoor
open Tryz
set_option maxHeartbeats 4000000
set_option maxRecDepth 100000
open Go.RowKit
theorem jx(v:Nat)(x:Int)(w:World)(hv:v<LB)(hx:x=(v:Int)):
 Calls prog 85 #[.int .u64 x] w fun e w'=>e=.returned (.string (Qx v))∧Below w.heap.size w w':=by subst hx;exact fL v w hv
theorem Dz(s:ByteArray)(A:Option Addr)(c:Nat)(w:World)(hs:s.size≤268435456)(hnc:nd 1 (Qa s)≤c)(hr:Rd w A (nd 1 (Qa s)) (YQ (Qa s))):
  Calls prog 113 #[.slice A (nd 1 (Qa s)) c] w fun e w'=>e=.returned (.string (Qx (Qa s)))∧Below w.heap.size w w' :=
 ZL A _ c _ w (by have:=Y9 s;omega) hnc (ZX _) hr
theorem YI(s:ByteArray)(b:Bool)(w:World)(hs:s.size≤268435456):
  Calls prog 83 #[.agg #[.bool b,.string s]] w fun e w'=>e=.returned (.agg #[.bool (neg (Qb b (Qa s))),.string (Qh (Qb b (Qa s)))])∧Below w.heap.size w w':=by
 have hn:=Mj b (Qa s)
 have hm:=Zq b (Qa s)
 have cB:=Lib.hid (fun W=>XO s W hs)
 obtain⟨t,ht⟩:∃t,t=Qx (Qa s):=⟨_,rfl⟩
 have HT:=Lib.hid ht.symm
 have hemp:=nstr_empty (v:=Qa s)
 rw[← ht]at hm hemp
 clear ht
 by_cases h0:Qa s=0
 ·have he:t.toList=[]:=hemp.2 h0
  replace hn:neg (Qb b (Qa s))=false:=by rw[hn,h0];cases b<;>rfl
  cases b
  ·have HN:=Lib.hid hn
   have HM:=Lib.hid hm
   clear hn hm hemp h0
   go_enter func83,ntmps83
   go_wp2_with fail
   have X1:=(Bx.new w 30 #[.bool false,.string s]).alloc (.cells #[.bool false,.string ⟨#[]⟩] 30)
   have X2:=Bx.at1 w (.cells #[.bool false,.string s] 30) 30 #[.bool false,.string ⟨#[]⟩]
   have hB:=b2 w (.cells #[.bool false,.string s] 30) (.cells #[.bool false,.string ⟨#[]⟩] 30)
   generalize (w.alloc (.cells #[.bool false,.string s] 30)).alloc (.cells #[.bool false,.string ⟨#[]⟩] 30)=w0 at *
   have hl0:=X1.lt
   have hl1:=X2.lt
   refine(cB.out _).mono ?_
   rintro e w1 ⟨A,c,rfl,hnc,hr,hb⟩
   replace X1:=X1.later hb
   replace X2:=X2.later hb
   replace hB:=nxt hB hb
   clear hb
   have cT:=Lib.hid (Dz s A c w1 hs hnc hr)
   go_wp2_with fail
   refine cT.out.mono ?_
   rintro e w2 ⟨rfl,hb⟩
   rw[HT.out]
   replace X1:=X1.later hb
   replace X2:=X2.later hb
   replace hB:=nxt hB hb
   clear hb
   obtain⟨p1,p2,_,_⟩:=X1.two
   obtain⟨q1,q2,q3,q4⟩:=X2.two
   go_wp2
   exact bodyPost_ret (v:=.agg #[.bool false,.string t]) (by simp[results,results83,go_sem,(X2.set2 _ _).cel]) rfl ⟨by rw[HN.out,HM.out],Kq hB (Lf _ 1) _ _⟩
  ·have HN:=Lib.hid hn
   have HM:=Lib.hid hm
   clear hn hm hemp h0
   go_enter func83,ntmps83
   go_wp2_with fail
   have X1:=(Bx.new w 30 #[.bool true,.string s]).alloc (.cells #[.bool false,.string ⟨#[]⟩] 30)
   have X2:=Bx.at1 w (.cells #[.bool true,.string s] 30) 30 #[.bool false,.string ⟨#[]⟩]
   have hB:=b2 w (.cells #[.bool true,.string s] 30) (.cells #[.bool false,.string ⟨#[]⟩] 30)
   generalize (w.alloc (.cells #[.bool true,.string s] 30)).alloc (.cells #[.bool false,.string ⟨#[]⟩] 30)=w0 at *
   have hl0:=X1.lt
   have hl1:=X2.lt
   refine(cB.out _).mono ?_
   rintro e w1 ⟨A,c,rfl,hnc,hr,hb⟩
   replace X1:=X1.later hb
   replace X2:=X2.later hb
   replace hB:=nxt hB hb
   clear hb
   have cT:=Lib.hid (Dz s A c w1 hs hnc hr)
   go_wp2_with fail
   refine cT.out.mono ?_
   rintro e w2 ⟨rfl,hb⟩
   rw[HT.out]
   replace X1:=X1.later hb
   replace X2:=X2.later hb
   replace hB:=nxt hB hb
   clear hb
   obtain⟨p1,p2,_,_⟩:=X1.two
   obtain⟨q1,q2,q3,q4⟩:=X2.two
   go_wp2
   exact bodyPost_ret (v:=.agg #[.bool false,.string t]) (by simp[results,results83,go_sem,(X2.set2 _ _).cel]) rfl ⟨by rw[HN.out,HM.out],Kq hB (Lf _ 1) _ _⟩
 ·have he:t.toList.isEmpty=false:=by
   rw[List.isEmpty_eq_false_iff];exact fun h=>h0 (hemp.1 h)
  have hv:(Qa s==0)=false:=by simpa using h0
  rw[hv]at hn
  cases b
  ·have HN:=Lib.hid hn
   have HM:=Lib.hid hm
   clear hn hm hemp hv h0
   go_enter func83,ntmps83
   go_wp2_with fail
   have X1:=(Bx.new w 30 #[.bool false,.string s]).alloc (.cells #[.bool false,.string ⟨#[]⟩] 30)
   have X2:=Bx.at1 w (.cells #[.bool false,.string s] 30) 30 #[.bool false,.string ⟨#[]⟩]
   have hB:=b2 w (.cells #[.bool false,.string s] 30) (.cells #[.bool false,.string ⟨#[]⟩] 30)
   generalize (w.alloc (.cells #[.bool false,.string s] 30)).alloc (.cells #[.bool false,.string ⟨#[]⟩] 30)=w0 at *
   have hl0:=X1.lt
   have hl1:=X2.lt
   refine(cB.out _).mono ?_
   rintro e w1 ⟨A,c,rfl,hnc,hr,hb⟩
   replace X1:=X1.later hb
   replace X2:=X2.later hb
   replace hB:=nxt hB hb
   clear hb
   have cT:=Lib.hid (Dz s A c w1 hs hnc hr)
   go_wp2_with fail
   refine cT.out.mono ?_
   rintro e w2 ⟨rfl,hb⟩
   rw[HT.out]
   replace X1:=X1.later hb
   replace X2:=X2.later hb
   replace hB:=nxt hB hb
   clear hb
   obtain⟨p1,p2,_,_⟩:=X1.two
   obtain⟨q1,q2,q3,q4⟩:=X2.two
   go_wp2
   exact bodyPost_ret (v:=.agg #[.bool false,.string t]) (by simp[results,results83,go_sem,(X2.set2 _ _).cel]) rfl ⟨by rw[HN.out,HM.out];rfl,Kq hB (Lf _ 1) _ _⟩
  ·have HN:=Lib.hid hn
   have HM:=Lib.hid hm
   clear hn hm hemp hv h0
   go_enter func83,ntmps83
   go_wp2_with fail
   have X1:=(Bx.new w 30 #[.bool true,.string s]).alloc (.cells #[.bool false,.string ⟨#[]⟩] 30)
   have X2:=Bx.at1 w (.cells #[.bool true,.string s] 30) 30 #[.bool false,.string ⟨#[]⟩]
   have hB:=b2 w (.cells #[.bool true,.string s] 30) (.cells #[.bool false,.string ⟨#[]⟩] 30)
   generalize (w.alloc (.cells #[.bool true,.string s] 30)).alloc (.cells #[.bool false,.string ⟨#[]⟩] 30)=w0 at *
   have hl0:=X1.lt
   have hl1:=X2.lt
   refine(cB.out _).mono ?_
   rintro e w1 ⟨A,c,rfl,hnc,hr,hb⟩
   replace X1:=X1.later hb
   replace X2:=X2.later hb
   replace hB:=nxt hB hb
   clear hb
   have cT:=Lib.hid (Dz s A c w1 hs hnc hr)
   go_wp2_with fail
   refine cT.out.mono ?_
   rintro e w2 ⟨rfl,hb⟩
   rw[HT.out]
   replace X1:=X1.later hb
   replace X2:=X2.later hb
   replace hB:=nxt hB hb
   clear hb
   obtain⟨p1,p2,_,_⟩:=X1.two
   obtain⟨q1,q2,q3,q4⟩:=X2.two
   go_wp2
   exact bodyPost_ret (v:=.agg #[.bool true,.string t]) (by simp[results,results83,go_sem,(X2.set2 _ _).cel]) rfl ⟨by rw[HN.out,HM.out];rfl,Kq hB (Lf _ 1) _ _⟩
theorem aT(v:Nat)(w:World)(h0:0<v)(hv:v≤9223372036854775808):
  Calls prog 52 #[.int .i64 (-(v:Int))] w fun e w'=>e=.returned (.agg #[.bool (neg (-(v:Int))),.string (Qh (-(v:Int)))])∧Below w.heap.size w w':=by
 have hn:neg (-(v:Int))=true:=Rf (by omega)
 have hm:Qh (-(v:Int))=Qx v:=by unfold Qh;rw[Int.natAbs_neg,Tw]
 rw[hn,hm]
 have co:=Lib.hid (fun W x hx=>jx v x W (by rw[YW];omega) hx)
 have hcv:IntKind.u64.wrap ((v:Int)-1)=(v:Int)-1:=by rw[IntKind.wrap_u64];omega
 have hcw:IntKind.u64.wrap ((v:Int)-1+1)=(v:Int):=by rw[IntKind.wrap_u64];omega
 have hcx:IntKind.u64.wrap (v:Int)=(v:Int):=by rw[IntKind.wrap_u64];omega
 have hcy:IntKind.u64.wrap (-(-(v:Int)+1))=(v:Int)-1:=by rw[IntKind.wrap_u64];omega
 clear hn hm
 go_enter func52,ntmps52
 have X:=Bx.new w 30 #[.bool false,.string ⟨#[]⟩]
 go_wp2_with fail
 refine(co.out _ _ (by omega)).mono ?_
 rintro e w1 ⟨rfl,hb⟩
 have X1:=X.later hb
 have hB:=nxt (b1 w _) hb
 clear hb X
 obtain⟨r1,r2,r3,r4⟩:=X1.two
 go_wp2
 exact bodyPost_ret (v:=.agg #[.bool true,.string (Qx v)]) (by simp[results,results52,go_sem,(X1.set2 _ _).cel]) rfl ⟨rfl,Kq hB (L3 _) _ _⟩
theorem aq(v:Nat)(w:World)(hv:v≤9223372036854775807):
  Calls prog 52 #[.int .i64 (v:Int)] w fun e w'=>e=.returned (.agg #[.bool (neg ((v:Int))),.string (Qh ((v:Int)))])∧Below w.heap.size w w':=by
 have hn:neg (v:Int)=false:=Lk (by omega)
 have hm:Qh (v:Int)=Qx v:=by unfold Qh;rw[Tw]
 rw[hn,hm]
 have co:=Lib.hid (fun W x hx=>jx v x W (by rw[YW];omega) hx)
 have hcx:IntKind.u64.wrap (v:Int)=(v:Int):=by rw[IntKind.wrap_u64];omega
 clear hn hm
 go_enter func52,ntmps52
 have X:=Bx.new w 30 #[.bool false,.string ⟨#[]⟩]
 go_wp2_with fail
 refine(co.out _ _ rfl).mono ?_
 rintro e w1 ⟨rfl,hb⟩
 have X1:=X.later hb
 have hB:=nxt (b1 w _) hb
 clear hb X
 obtain⟨r1,r2,r3,r4⟩:=X1.two
 go_wp2
 exact bodyPost_ret (v:=.agg #[.bool false,.string (Qx v)]) (by simp[results,results52,go_sem,(X1.set2 _ _).cel]) rfl ⟨rfl,Kq hB (L3 _) _ _⟩
theorem Bd(n:Int)(w:World)(h1:-9223372036854775808≤n)(h2:n≤9223372036854775807):
  Calls prog 52 #[.int .i64 n] w fun e w'=>e=.returned (.agg #[.bool (neg n),.string (Qh n)])∧Below w.heap.size w w':=by
 by_cases h:n<0
 ·obtain⟨v,rfl⟩:∃v:Nat,n=-(v:Int):=⟨n.natAbs,by omega⟩
  exact aT v w (by omega) (by omega)
 ·obtain⟨v,rfl⟩:∃v:Nat,n=(v:Int):=⟨n.natAbs,by omega⟩
  exact aq v w (by omega)
theorem UD(s:ByteArray)(b:Bool)(w:World)(hs:s.size≤268435456):
  Calls prog 161 #[.agg #[.bool b,.string s]] w fun e w'=>e=.returned (.agg #[.bool (neg (-Qb b (Qa s))),.string (Qh (-Qb b (Qa s)))])∧Below w.heap.size w w':=by
 rw[← Mo]
 have cF:=Lib.hid (fun W=>YI s (!b) W hs)
 go_enter func161,ntmps161
 go_wp2_with fail
 have X1:=(Bx.new w 30 #[.bool b,.string s]).alloc (.cells #[.bool false,.string ⟨#[]⟩] 30)
 have X2:=Bx.at1 w (.cells #[.bool b,.string s] 30) 30 #[.bool false,.string ⟨#[]⟩]
 have hB:=b2 w (.cells #[.bool b,.string s] 30) (.cells #[.bool false,.string ⟨#[]⟩] 30)
 generalize (w.alloc (.cells #[.bool b,.string s] 30)).alloc (.cells #[.bool false,.string ⟨#[]⟩] 30)=w0 at *
 have hl0:=X1.lt
 have hl1:=X2.lt
 refine(cF.out _).mono ?_
 rintro e w1 ⟨rfl,hb⟩
 obtain⟨r1,r2,r3,r4⟩:=(X2.later hb).two
 go_wp2
 exact bodyPost_ret (v:=.agg #[.bool (neg (Qb (!b) (Qa s))),.string (Qh (Qb (!b) (Qa s)))]) (by simp[results,results161,go_sem,((X2.later hb).set2 _ _).cel]) rfl ⟨rfl,Kq (nxt hB hb) (Lf _ 1) _ _⟩
theorem Df(s:ByteArray)(b:Bool)(w:World)(hs:s.size≤268435456):
  Calls prog 108 #[.agg #[.bool b,.string s]] w fun e w'=>e=.returned (.int .i64 (ZB (Qb b (Qa s))))∧Below w.heap.size w w':=by
 have cL:=Lib.hid (fun W=>eN s W hs)
 by_cases h0:Qa s=0
 ·have HS:=Lib.hid (show ZB (Qb b (Qa s))=0 by rw[h0,J1];rfl)
  have hl:nd 1 (Qa s)=0:=by rw[h0];rfl
  rw[hl]at cL
  clear h0 hl
  go_enter func108,ntmps108
  go_wp2_with fail
  refine(cL.out _).mono ?_
  rintro e w1 ⟨rfl,hb⟩
  go_wp2
  go_ret
  exact⟨by rw[HS.out];rfl,nxt (b1 w _) hb⟩
 ·have hl:0<nd 1 (Qa s):=Y8 h0
  have hl2:(((nd 1 (Qa s):Nat):Int)==0)=false:=by simp;omega
  cases b
  ·have HS:=Lib.hid (show ZB (Qb false (Qa s))=1 by unfold ZB Qb;simp;omega)
   clear h0
   go_enter func108,ntmps108
   have X1:=Bx.new w 30 #[.bool false,.string s]
   go_wp2_with fail
   refine(cL.out _).mono ?_
   rintro e w1 ⟨rfl,hb⟩
   obtain⟨p1,p2,_,_⟩:=(X1.later hb).two
   go_wp2
   go_ret
   exact⟨by rw[HS.out];rfl,nxt (b1 w _) hb⟩
  ·have HS:=Lib.hid (show ZB (Qb true (Qa s))=-1 by unfold ZB Qb;simp;omega)
   clear h0
   go_enter func108,ntmps108
   have X1:=Bx.new w 30 #[.bool true,.string s]
   go_wp2_with fail
   refine(cL.out _).mono ?_
   rintro e w1 ⟨rfl,hb⟩
   obtain⟨p1,p2,_,_⟩:=(X1.later hb).two
   go_wp2
   go_ret
   exact⟨by rw[HS.out];rfl,nxt (b1 w _) hb⟩
theorem UZ(b b':Bool)(u v:Nat): Qb b u*Qb b' v=Qb (!(b==b')) (u*v):=by
 cases b<;>cases b'<;>simp[Qb,Ud,Int.mul_neg]
theorem Oa(s t:ByteArray)(b b':Bool)(w:World)(hs:s.size≤16777216)(ht:t.size≤16777216):
  Calls prog 162 #[.agg #[.bool b,.string s],.agg #[.bool b',.string t]] w fun e w'=>e=.returned (.agg #[.bool (neg (Qb b (Qa s)*Qb b' (Qa t))),.string (Qh (Qb b (Qa s)*Qb b' (Qa t)))])∧Below w.heap.size w w':=by
 have hsz:(Qx (Qa s*Qa t)).size≤268435456:=by
  have h:=Yy (XJ false s) (XJ false t)
  rw[← QM,show Qb false (Qa s)*Qb false (Qa t)=Qb false (Qa s*Qa t)by simp[Qb],Zq]at h
  omega
 have c1:=Lib.hid (fun W=>W7 s t W hs ht)
 have c2:=Lib.hid (fun W=>YI (Qx (Qa s*Qa t)) (!(b==b')) W hsz)
 rw[XB,← UZ]at c2
 clear hsz
 go_enter func162,ntmps162
 go_wp2_with fail
 have X1:=((Bx.new w 30 #[.bool b,.string s]).alloc (.cells #[.bool b',.string t] 30)).alloc (.cells #[.bool false,.string ⟨#[]⟩] 30)
 have X2:=(Bx.at1 w (.cells #[.bool b,.string s] 30) 30 #[.bool b',.string t]).alloc (.cells #[.bool false,.string ⟨#[]⟩] 30)
 have X3:=Bx.at2 w (.cells #[.bool b,.string s] 30) (.cells #[.bool b',.string t] 30) 30 #[.bool false,.string ⟨#[]⟩]
 have hB:=b3 w (.cells #[.bool b,.string s] 30) (.cells #[.bool b',.string t] 30) (.cells #[.bool false,.string ⟨#[]⟩] 30)
 generalize ((w.alloc (.cells #[.bool b,.string s] 30)).alloc (.cells #[.bool b',.string t] 30)).alloc (.cells #[.bool false,.string ⟨#[]⟩] 30)=w0 at *
 have hl0:=X1.lt
 have hl1:=X2.lt
 have hl2:=X3.lt
 obtain⟨p1,p2,p3,p4⟩:=(X1).two
 obtain⟨q1,q2,q3,q4⟩:=(X2).two
 obtain⟨r1,r2,r3,r4⟩:=(X3).two
 go_region_held3 (fun w'=>w'.cell? ⟨w.heap.size,0,none⟩=some (.bool b)∧w'.cell? ⟨w.heap.size,1,none⟩=some (.string s)∧w'.cell? ⟨w.heap.size+1,0,none⟩=some (.bool b')∧w'.cell? ⟨w.heap.size+1,1,none⟩=some (.string t)) (first|exact⟨p1,p2,q1,q2⟩|exact⟨L7 hb p1,L7 hb p2,L7 hb q1,L7 hb q2⟩|exact⟨L7 (b1 _ _) p1,L7 (b1 _ _) p2,L7 (b1 _ _) q1,L7 (b1 _ _) q2⟩|exact⟨L7 hb2 (L7 hb p1),L7 hb2 (L7 hb p2),L7 hb2 (L7 hb q1),L7 hb2 (L7 hb q2)⟩|exact⟨Xh (L7 hb2 (L7 hb p1)) (by omega) _ _,Xh (L7 hb2 (L7 hb p2)) (by omega) _ _,Xh (L7 hb2 (L7 hb q1)) (by omega) _ _,Xh (L7 hb2 (L7 hb q2)) (by omega) _ _⟩|go_keep)
  (first
   | (go_at_call 178;refine(c1.out w0.drew).mono ?_;rintro e wn ⟨rfl,hb'⟩;have hb:=KJ hb';clear hb')
   | (go_at_call 83;refine(c2.out wn).mono ?_;rintro e wm ⟨rfl,hb2⟩;obtain⟨t1,t2,t3,t4⟩:=((X3.later hb).later hb2).two))
 go_wp2
 exact bodyPost_ret (v:=.agg #[.bool (neg (Qb b (Qa s)*Qb b' (Qa t))),.string (Qh (Qb b (Qa s)*Qb b' (Qa t)))]) (by simp[results,results162,go_sem,(((X3.later hb).later hb2).set2 _ _).cel]) rfl ⟨rfl,Kq (nxt (nxt hB hb) hb2) (Lf _ 2) _ _⟩
theorem TH(a b:ByteArray)(w:World)(t:TypeId)(ha:a.size≤16777216)(hb:b.size≤16777216):
  Calls prog 140 #[.slice (some ⟨w.heap.size,0,none⟩) 2 2] (w.alloc (.cells #[.string a,.string b] t)) fun e w'=>e=.returned (.string (Qx (Qa a+Qa b)))∧Below w.heap.size w w':=by
 have h:=(Cel.new w t #[.string a,.string b]).rd (o:=0) (n:=2) (by simp)
 have hr:Rd (w.alloc (.cells #[.string a,.string b] t)) (some ⟨w.heap.size,0,none⟩) 2 (fun j=>.string (if j=0 then a else b)):=h.congr fun j hj=>by
  have:j=0∨j=1:=by omega
  rcases this with rfl|rfl<;>rfl
 have hs:Zf (fun j=>Qa (if j=0 then a else b)) 2=Qa a+Qa b:=by simp[Zf]
 refine(eK _ 2 2 (fun j=>if j=0 then a else b) _ (by decide) (fun j=>by split<;>assumption) hr).mono fun e w' ⟨he,hb⟩=>⟨by rw[he,hs],nxt (b1 _ _) hb⟩
theorem EI{s t:ByteArray}{n:Nat}(hs:s.size≤n)(ht:t.size≤n): (Qx (Qa s+Qa t)).size≤n+1:=by
 have h:=Kh (L8 (XJ false s) hs) (L8 (XJ false t) ht)
 rwa [← QM,show Qb false (Qa s)+Qb false (Qa t)=Qb false (Qa s+Qa t)by simp[Qb],Zq]at h
theorem JU{v:Nat}{s:ByteArray}(h:v≤Qa s): (Qx v).size≤s.size:=by
 rw[Gn];exact QU (k:=8) (by decide) (Lu h (Vo s))
theorem Ow(s t:ByteArray)(b:Bool)(w:World)(hs:s.size≤16777216)(ht:t.size≤16777216):
  Calls prog 116 #[.agg #[.bool b,.string s],.agg #[.bool b,.string t]] w fun e w'=>e=.returned (.agg #[.bool (neg (Qb b (Qa s+Qa t))),.string (Qh (Qb b (Qa s+Qa t)))])∧Below w.heap.size w w':=by
 have hsz:(Qx (Qa s+Qa t)).size≤268435456:=by have:=EI hs ht;omega
 have c2:=Lib.hid (fun W=>YI (Qx (Qa s+Qa t)) b W hsz)
 rw[XB]at c2
 clear hsz
 go_enter func116,ntmps116
 go_wp2_with fail
 have X1:=((Bx.new w 30 #[.bool b,.string s]).alloc (.cells #[.bool b,.string t] 30)).alloc (.cells #[.bool false,.string ⟨#[]⟩] 30)
 have X2:=(Bx.at1 w (.cells #[.bool b,.string s] 30) 30 #[.bool b,.string t]).alloc (.cells #[.bool false,.string ⟨#[]⟩] 30)
 have X3:=Bx.at2 w (.cells #[.bool b,.string s] 30) (.cells #[.bool b,.string t] 30) 30 #[.bool false,.string ⟨#[]⟩]
 have hB:=b3 w (.cells #[.bool b,.string s] 30) (.cells #[.bool b,.string t] 30) (.cells #[.bool false,.string ⟨#[]⟩] 30)
 generalize ((w.alloc (.cells #[.bool b,.string s] 30)).alloc (.cells #[.bool b,.string t] 30)).alloc (.cells #[.bool false,.string ⟨#[]⟩] 30)=w0 at *
 have hl0:=X1.lt
 have hl1:=X2.lt
 have hl2:=X3.lt
 obtain⟨p1,p2,p3,p4⟩:=(X1).two
 obtain⟨q1,q2,q3,q4⟩:=(X2).two
 obtain⟨r1,r2,r3,r4⟩:=(X3).two
 go_region_held3 (fun w'=>w'.cell? ⟨w.heap.size,0,none⟩=some (.bool b)∧w'.cell? ⟨w.heap.size,1,none⟩=some (.string s)∧w'.cell? ⟨w.heap.size+1,0,none⟩=some (.bool b)∧w'.cell? ⟨w.heap.size+1,1,none⟩=some (.string t)) (first|exact⟨p1,p2,q1,q2⟩|exact⟨L7 hb p1,L7 hb p2,L7 hb q1,L7 hb q2⟩|exact⟨L7 (b1 _ _) p1,L7 (b1 _ _) p2,L7 (b1 _ _) q1,L7 (b1 _ _) q2⟩|exact⟨L7 hb2 (L7 hb p1),L7 hb2 (L7 hb p2),L7 hb2 (L7 hb q1),L7 hb2 (L7 hb q2)⟩|exact⟨Xh (L7 hb2 (L7 hb p1)) (by omega) _ _,Xh (L7 hb2 (L7 hb p2)) (by omega) _ _,Xh (L7 hb2 (L7 hb q1)) (by omega) _ _,Xh (L7 hb2 (L7 hb q2)) (by omega) _ _⟩|go_keep)
  (first
   | (go_at_call 140;refine(TH s t w0.drew _ hs ht).mono ?_;rintro e wn ⟨rfl,hb'⟩;have hb:=KJ hb';clear hb')
   | (go_at_call 83;refine(c2.out wn).mono ?_;rintro e wm ⟨rfl,hb2⟩;obtain⟨t1,t2,t3,t4⟩:=((X3.later hb).later hb2).two))
 go_wp2
 exact bodyPost_ret (v:=.agg #[.bool (neg (Qb b (Qa s+Qa t))),.string (Qh (Qb b (Qa s+Qa t)))]) (by simp[results,results116,go_sem,(((X3.later hb).later hb2).set2 _ _).cel]) rfl ⟨rfl,Kq (nxt (nxt hB hb) hb2) (Lf _ 2) _ _⟩
theorem Wh(s t:ByteArray)(b b':Bool)(w:World)(hs:s.size≤16777216)(ht:t.size≤16777216)(hbb:(b==b')=false)(hst:Qa t≤Qa s):
  Calls prog 116 #[.agg #[.bool b,.string s],.agg #[.bool b',.string t]] w fun e w'=>e=.returned (.agg #[.bool (neg (Qb b (Qa s-Qa t))),.string (Qh (Qb b (Qa s-Qa t)))])∧Below w.heap.size w w':=by
 have hsz:(Qx (Qa s-Qa t)).size≤268435456:=by have:=JU (v:=Qa s-Qa t) (s:=s) (by omega);omega
 have c1:=Lib.hid (fun W=>DI s t W (by omega) (by omega))
 have c3:=Lib.hid (fun W=>DI t s W (by omega) (by omega))
 have c2:=Lib.hid (fun W=>YI (Qx (Qa s-Qa t)) b W hsz)
 rw[XB]at c2
 rw[if_neg (by omega)]at c1
 clear hsz hst
 go_enter func116,ntmps116
 go_wp2_with fail
 have X1:=((Bx.new w 30 #[.bool b,.string s]).alloc (.cells #[.bool b',.string t] 30)).alloc (.cells #[.bool false,.string ⟨#[]⟩] 30)
 have X2:=(Bx.at1 w (.cells #[.bool b,.string s] 30) 30 #[.bool b',.string t]).alloc (.cells #[.bool false,.string ⟨#[]⟩] 30)
 have X3:=Bx.at2 w (.cells #[.bool b,.string s] 30) (.cells #[.bool b',.string t] 30) 30 #[.bool false,.string ⟨#[]⟩]
 have hB:=b3 w (.cells #[.bool b,.string s] 30) (.cells #[.bool b',.string t] 30) (.cells #[.bool false,.string ⟨#[]⟩] 30)
 generalize ((w.alloc (.cells #[.bool b,.string s] 30)).alloc (.cells #[.bool b',.string t] 30)).alloc (.cells #[.bool false,.string ⟨#[]⟩] 30)=w0 at *
 have hl0:=X1.lt
 have hl1:=X2.lt
 have hl2:=X3.lt
 obtain⟨p1,p2,p3,p4⟩:=(X1).two
 obtain⟨q1,q2,q3,q4⟩:=(X2).two
 obtain⟨r1,r2,r3,r4⟩:=(X3).two
 refine(c1.out _).mono ?_
 rintro e w1 ⟨rfl,hb⟩
 replace X1:=X1.later hb
 replace X2:=X2.later hb
 replace X3:=X3.later hb
 replace hB:=nxt hB hb
 clear hb p1 p2 p3 p4 q1 q2 q3 q4 r1 r2 r3 r4
 obtain⟨p1,p2,p3,p4⟩:=(X1).two
 obtain⟨q1,q2,q3,q4⟩:=(X2).two
 obtain⟨r1,r2,r3,r4⟩:=(X3).two
 go_wp2_with fail
 refine(c2.out _).mono ?_
 rintro e w4 ⟨rfl,hb⟩
 replace X3:=X3.later hb
 replace hB:=nxt hB hb
 clear hb p1 p2 p3 p4 q1 q2 q3 q4 r1 r2 r3 r4
 obtain⟨r1,r2,r3,r4⟩:=X3.two
 go_wp2
 exact bodyPost_ret (v:=.agg #[.bool (neg (Qb b (Qa s-Qa t))),.string (Qh (Qb b (Qa s-Qa t)))]) (by simp[results,results116,go_sem,(X3.set2 _ _).cel]) rfl ⟨rfl,Kq hB (Lf _ 2) _ _⟩
theorem WF(s t:ByteArray)(b b':Bool)(w:World)(hs:s.size≤16777216)(ht:t.size≤16777216)(hbb:(b==b')=false)(hst:Qa s<Qa t):
  Calls prog 116 #[.agg #[.bool b,.string s],.agg #[.bool b',.string t]] w fun e w'=>e=.returned (.agg #[.bool (neg (Qb b' (Qa t-Qa s))),.string (Qh (Qb b' (Qa t-Qa s)))])∧Below w.heap.size w w':=by
 have hsz:(Qx (Qa t-Qa s)).size≤268435456:=by have:=JU (v:=Qa t-Qa s) (s:=t) (by omega);omega
 have c1:=Lib.hid (fun W=>DI s t W (by omega) (by omega))
 have c3:=Lib.hid (fun W=>DI t s W (by omega) (by omega))
 have c2:=Lib.hid (fun W=>YI (Qx (Qa t-Qa s)) b' W hsz)
 rw[XB]at c2
 rw[if_pos hst]at c1
 rw[if_neg (by omega)]at c3
 clear hsz hst
 go_enter func116,ntmps116
 go_wp2_with fail
 have X1:=((Bx.new w 30 #[.bool b,.string s]).alloc (.cells #[.bool b',.string t] 30)).alloc (.cells #[.bool false,.string ⟨#[]⟩] 30)
 have X2:=(Bx.at1 w (.cells #[.bool b,.string s] 30) 30 #[.bool b',.string t]).alloc (.cells #[.bool false,.string ⟨#[]⟩] 30)
 have X3:=Bx.at2 w (.cells #[.bool b,.string s] 30) (.cells #[.bool b',.string t] 30) 30 #[.bool false,.string ⟨#[]⟩]
 have hB:=b3 w (.cells #[.bool b,.string s] 30) (.cells #[.bool b',.string t] 30) (.cells #[.bool false,.string ⟨#[]⟩] 30)
 generalize ((w.alloc (.cells #[.bool b,.string s] 30)).alloc (.cells #[.bool b',.string t] 30)).alloc (.cells #[.bool false,.string ⟨#[]⟩] 30)=w0 at *
 have hl0:=X1.lt
 have hl1:=X2.lt
 have hl2:=X3.lt
 obtain⟨p1,p2,p3,p4⟩:=(X1).two
 obtain⟨q1,q2,q3,q4⟩:=(X2).two
 obtain⟨r1,r2,r3,r4⟩:=(X3).two
 refine(c1.out _).mono ?_
 rintro e w1 ⟨rfl,hb⟩
 replace X1:=X1.later hb
 replace X2:=X2.later hb
 replace X3:=X3.later hb
 replace hB:=nxt hB hb
 clear hb p1 p2 p3 p4 q1 q2 q3 q4 r1 r2 r3 r4
 obtain⟨p1,p2,p3,p4⟩:=(X1).two
 obtain⟨q1,q2,q3,q4⟩:=(X2).two
 obtain⟨r1,r2,r3,r4⟩:=(X3).two
 go_wp2_with fail
 refine(c3.out _).mono ?_
 rintro e w2 ⟨rfl,hb⟩
 replace X1:=X1.later hb
 replace X2:=X2.later hb
 replace X3:=X3.later hb
 replace hB:=nxt hB hb
 clear hb p1 p2 p3 p4 q1 q2 q3 q4 r1 r2 r3 r4
 obtain⟨p1,p2,p3,p4⟩:=(X1).two
 obtain⟨q1,q2,q3,q4⟩:=(X2).two
 obtain⟨r1,r2,r3,r4⟩:=(X3).two
 go_wp2_with fail
 refine(c2.out _).mono ?_
 rintro e w4 ⟨rfl,hb⟩
 replace X3:=X3.later hb
 replace hB:=nxt hB hb
 clear hb p1 p2 p3 p4 q1 q2 q3 q4 r1 r2 r3 r4
 obtain⟨r1,r2,r3,r4⟩:=X3.two
 go_wp2
 exact bodyPost_ret (v:=.agg #[.bool (neg (Qb b' (Qa t-Qa s))),.string (Qh (Qb b' (Qa t-Qa s)))]) (by simp[results,results116,go_sem,(X3.set2 _ _).cel]) rfl ⟨rfl,Kq hB (Lf _ 2) _ _⟩
theorem OY(s t:ByteArray)(b b':Bool)(w:World)(hs:s.size≤16777216)(ht:t.size≤16777216):
  Calls prog 116 #[.agg #[.bool b,.string s],.agg #[.bool b',.string t]] w fun e w'=>e=.returned (.agg #[.bool (neg (Qb b (Qa s)+Qb b' (Qa t))),.string (Qh (Qb b (Qa s)+Qb b' (Qa t)))])∧Below w.heap.size w w':=by
 obtain⟨h1,h2,h3⟩:=Mu b b' (Qa s) (Qa t)
 cases hbb:(b==b')
 ·rcases Ra (Qa s) (Qa t)with hst|hst
  ·rw[h3 hbb hst];exact WF s t b b' w hs ht hbb hst
  ·rw[h2 hbb hst];exact Wh s t b b' w hs ht hbb hst
 ·have e:b=b':=by simpa using hbb
  subst e
  rw[h1 rfl];exact Ow s t b w hs ht
