/- The walks and plain laws beneath the statements. -/
import Derived.Test.YtaelfkdjlioegaaGreatDoorQO7
import Derived.Deep.DeepCutAuto
import Derived.Deep.CutBlock
import Derived.Deep.RegionHeld3
namespace Go.Proofs.YtaelfkdjlioegaaGreatDoor
set_option maxRecDepth 100000
open Go.RowKit
set_option maxHeartbeats 400000 in
theorem wMade_any(s:ByteArray)(b:Bool)(w:World):
  Calls Tryz.prog 145 #[.agg #[.string s,.bool b]] w fun e w'=>e=.returned (.agg #[.bool (neg (ival b (sval s))),.string (mag (ival b (sval s)))])∧Below w.heap.size w w':=by
 have hn:=ival_neg b (sval s)
 have hm:=mag_ival b (sval s)
 have hT:=Lib.hid (fun W=>nTrim_any s W)
 generalize ival b (sval s)=z at *
 generalize sval s=v at *
 have hemp:=nstr_empty (v:=v)
 generalize nstr v=t at *
 by_cases h0:v=0
 ·subst h0
  have he:t.toList=[]:=hemp.2 rfl
  cases b
  all_goals
   have HN:=Lib.hid hn
   have HM:=Lib.hid hm
   clear hn hm hemp
   go_enter Tryz.func145,Tryz.ntmps145
   go_wp2_with (go_at_call 169;refine(hT.out _).mono ?_;rintro e wn ⟨rfl,rfl⟩)
   exact bodyPost_ret (v:=.agg #[.bool false,.string t]) (by simp[results,Tryz.results145,go_sem]) rfl ⟨by rw[HN.out,HM.out];rfl,b2 _ _ _⟩
 ·have he:t.toList.isEmpty=false:=by
   rw[List.isEmpty_eq_false_iff];exact fun h=>h0 (hemp.1 h)
  have hv:(v==0)=false:=by simpa using h0
  rw[hv]at hn
  cases b
  ·have HN:=Lib.hid hn
   have HM:=Lib.hid hm
   clear hn hm hemp hv h0
   go_enter Tryz.func145,Tryz.ntmps145
   go_wp2_with (go_at_call 169;refine(hT.out _).mono ?_;rintro e wn ⟨rfl,rfl⟩)
   exact bodyPost_ret (v:=.agg #[.bool false,.string t]) (by simp[results,Tryz.results145,go_sem]) rfl ⟨by rw[HN.out,HM.out];rfl,b2 _ _ _⟩
  ·have HN:=Lib.hid hn
   have HM:=Lib.hid hm
   clear hn hm hemp hv h0
   go_enter Tryz.func145,Tryz.ntmps145
   go_wp2_with (go_at_call 169;refine(hT.out _).mono ?_;rintro e wn ⟨rfl,rfl⟩)
   exact bodyPost_ret (v:=.agg #[.bool true,.string t]) (by simp[results,Tryz.results145,go_sem]) rfl ⟨by rw[HN.out,HM.out];rfl,b2 _ _ _⟩
set_option maxHeartbeats 400000 in
theorem wof_any(s:ByteArray)(b:Bool)(w:World):
  Calls Tryz.prog 158 #[.agg #[.bool b,.string s]] w fun e w'=>e=.returned (.agg #[.string s,.bool b])∧Below w.heap.size w w':=by
 go_enter Tryz.func158,Tryz.ntmps158
 go_wp2
 exact bodyPost_ret (v:=.agg #[.string s,.bool b]) (by simp[results,Tryz.results158,go_sem]) rfl ⟨rfl,b2 _ _ _⟩
set_option maxHeartbeats 400000 in
theorem wcmp_any(s t:ByteArray)(w:World)(hs:s.size≤4294967296)(ht:t.size≤4294967296):
  Calls Tryz.prog 186 #[.string s,.string t] w fun e w'=>e=.returned (.int .i64 (cmpI (sval s) (sval t)))∧Below w.heap.size w w':=by
 go_enter Tryz.func186,Tryz.ntmps186
 go_wp2_with (go_at_call 198;refine(nCmp_any s t _ hs ht).mono ?_;rintro e wn ⟨rfl,hb⟩)
 go_ret
 exact⟨rfl,hb⟩
set_option maxHeartbeats 400000 in
theorem wForm_any(s:ByteArray)(b:Bool)(w:World):
  Calls Tryz.prog 129 #[.agg #[.bool b,.string s]] w fun e w'=>e=.returned (.agg #[.bool (neg (ival b (sval s))),.string (mag (ival b (sval s)))])∧Below w.heap.size w w':=by
 go_enter Tryz.func129,Tryz.ntmps129
 go_wp2_with fail
 refine(wof_any s b _).mono ?_
 rintro e w1 ⟨rfl,hb⟩
 have R1:=(Bx.at1 w _ _ _).later hb
 have hB1:=nxt (b2 w _ _) hb
 go_wp2_with fail
 refine(wMade_any s b _).mono ?_
 rintro e w2 ⟨rfl,hb2⟩
 have R2:=R1.later hb2
 have hB2:=nxt hB1 hb2
 obtain⟨r0,r1,r2,r3⟩:=R2.two
 clear hb hb2
 go_wp2
 exact bodyPost_ret (v:=.agg #[.bool (neg (ival b (sval s))),.string (mag (ival b (sval s)))]) (by simp[results,Tryz.results129,go_sem,(R2.set2 _ _).cel]) rfl ⟨rfl,st2 hB2 (Nat.le_succ _) _ _⟩
open Go.RowKit
theorem add2_any(a b:ByteArray)(w:World)(t:TypeId)(ha:a.size≤1073741824)(hb:b.size≤1073741824):
  Calls Tryz.prog 185 #[.slice (some ⟨w.heap.size,0,none⟩) 2 2] (w.alloc (.cells #[.string a,.string b] t)) fun e w'=>e=.returned (.string (nstr (sval a+sval b)))∧Below w.heap.size w w':=by
 have h:=(Cel.new w t #[.string a,.string b]).rd (o:=0) (n:=2) (by simp)
 have hr:Rd (w.alloc (.cells #[.string a,.string b] t)) (some ⟨w.heap.size,0,none⟩) 2 (fun j=>.string (if j=0 then a else b)):=h.congr fun j hj=>by
  have:j=0∨j=1:=by omega
  rcases this with rfl|rfl<;>rfl
 have hs:sumTo (fun j=>sval (if j=0 then a else b)) 2=sval a+sval b:=by simp[sumTo]
 refine(nAdd_any _ 2 2 (fun j=>if j=0 then a else b) _ (by decide) (fun j=>by split<;>assumption) hr).mono fun e w' ⟨he,hb⟩=>⟨by rw[he,hs],nxt (b1 _ _) hb⟩
set_option maxHeartbeats 400000 in
theorem plus_same(s t:ByteArray)(b:Bool)(w:World)(hs:s.size≤1073741824)(ht:t.size≤1073741824):
  Calls Tryz.prog 176 #[.agg #[.string s,.bool b],.agg #[.string t,.bool b]] w fun e w'=>e=.returned (.agg #[.string (nstr (sval s+sval t)),.bool b])∧Below w.heap.size w w':=by
 go_enter Tryz.func176,Tryz.ntmps176
 go_wp2_with fail
 have X1:=((Bx.new w 179 #[.string s,.bool b]).alloc (.cells #[.string t,.bool b] 179)).alloc (.cells #[.string ⟨#[]⟩,.bool false] 179)
 have X2:=(Bx.at1 w (.cells #[.string s,.bool b] 179) 179 #[.string t,.bool b]).alloc (.cells #[.string ⟨#[]⟩,.bool false] 179)
 have X3:=Bx.at2 w (.cells #[.string s,.bool b] 179) (.cells #[.string t,.bool b] 179) 179 #[.string ⟨#[]⟩,.bool false]
 have hB:=b3 w (.cells #[.string s,.bool b] 179) (.cells #[.string t,.bool b] 179) (.cells #[.string ⟨#[]⟩,.bool false] 179)
 generalize ((w.alloc (.cells #[.string s,.bool b] 179)).alloc (.cells #[.string t,.bool b] 179)).alloc (.cells #[.string ⟨#[]⟩,.bool false] 179)=w0 at *
 have hl0:=X1.lt
 have hl1:=X2.lt
 have hl2:=X3.lt
 obtain⟨p1,p2,p3,p4⟩:=(X1).two
 obtain⟨q1,q2,q3,q4⟩:=(X2).two
 obtain⟨r1,r2,r3,r4⟩:=(X3).two
 go_region_held3 (fun w'=>w'.cell? ⟨w.heap.size,0,none⟩=some (.string s)∧w'.cell? ⟨w.heap.size,1,none⟩=some (.bool b)∧w'.cell? ⟨w.heap.size+1,0,none⟩=some (.string t)∧w'.cell? ⟨w.heap.size+1,1,none⟩=some (.bool b)) ((repeat' apply And.intro)<;>(first|assumption|exact cell_later hb (by assumption)|exact cell_far2 (cell_later hb (by assumption)) (by omega) _ _|exact cell_far2 (by assumption) (by omega) _ _|go_keep))
  (first|(go_at_call 185;refine(add2_any s t w0.drew _ hs ht).mono ?_;rintro e wn ⟨rfl,hb'⟩;have hb:=undrew hb';clear hb';obtain⟨s1,s2,s3,s4⟩:=(X3.later hb).two))
 go_wp2
 exact bodyPost_ret (v:=.agg #[.string (nstr (sval s+sval t)),.bool b]) (by simp[results,Tryz.results176,go_sem,((X3.later hb).set2 _ _).cel]) rfl ⟨rfl,st2 (nxt hB hb) (Nat.le_add_right _ 2) _ _⟩
set_option maxHeartbeats 400000 in
theorem plus_ge(s t:ByteArray)(b b':Bool)(w:World)(hs:s.size≤1073741824)(ht:t.size≤1073741824)(hbb:(b==b')=false)(hst:sval t≤sval s):
  Calls Tryz.prog 176 #[.agg #[.string s,.bool b],.agg #[.string t,.bool b']] w fun e w'=>e=.returned (.agg #[.string (nstr (sval s-sval t)),.bool b])∧Below w.heap.size w w':=by
 have c1:=Lib.hid (fun W=>wcmp_any s t W (by omega) (by omega))
 have c2:=Lib.hid (fun W=>nSub_any s t W (by omega) (by omega))
 have h0:¬ cmpI (sval s) (sval t)<0:=fun h=>by have:=cmpI_lt.1 h;omega
 rw[if_neg (by omega)]at c2
 clear hst
 go_enter Tryz.func176,Tryz.ntmps176
 go_wp2_with fail
 have X1:=((Bx.new w 179 #[.string s,.bool b]).alloc (.cells #[.string t,.bool b'] 179)).alloc (.cells #[.string ⟨#[]⟩,.bool false] 179)
 have X2:=(Bx.at1 w (.cells #[.string s,.bool b] 179) 179 #[.string t,.bool b']).alloc (.cells #[.string ⟨#[]⟩,.bool false] 179)
 have X3:=Bx.at2 w (.cells #[.string s,.bool b] 179) (.cells #[.string t,.bool b'] 179) 179 #[.string ⟨#[]⟩,.bool false]
 have hB:=b3 w (.cells #[.string s,.bool b] 179) (.cells #[.string t,.bool b'] 179) (.cells #[.string ⟨#[]⟩,.bool false] 179)
 generalize ((w.alloc (.cells #[.string s,.bool b] 179)).alloc (.cells #[.string t,.bool b'] 179)).alloc (.cells #[.string ⟨#[]⟩,.bool false] 179)=w0 at *
 have hl0:=X1.lt
 have hl1:=X2.lt
 have hl2:=X3.lt
 obtain⟨p1,p2,p3,p4⟩:=(X1).two
 obtain⟨q1,q2,q3,q4⟩:=(X2).two
 obtain⟨r1,r2,r3,r4⟩:=(X3).two
 refine(c1.out _).mono ?_
 rintro e w1 ⟨rfl,hb⟩
 obtain⟨p'1,p'2,p'3,p'4⟩:=(X1.later hb).two
 obtain⟨q'1,q'2,q'3,q'4⟩:=(X2.later hb).two
 obtain⟨r'1,r'2,r'3,r'4⟩:=(X3.later hb).two
 clear p1 p2 p3 p4 q1 q2 q3 q4 r1 r2 r3 r4
 go_wp2_with fail
 refine(c2.out _).mono ?_
 rintro e w2 ⟨rfl,hb2⟩
 have Y1:=(X1.later hb).later hb2
 have Y3:=(X3.later hb).later hb2
 obtain⟨py1,py2,py3,py4⟩:=(Y1).two
 obtain⟨qy1,qy2,qy3,qy4⟩:=(Y3).two
 clear p'1 p'2 p'3 p'4 q'1 q'2 q'3 q'4 r'1 r'2 r'3 r'4
 go_wp2
 exact bodyPost_ret (v:=.agg #[.string (nstr (sval s-sval t)),.bool b]) (by simp[results,Tryz.results176,go_sem,(Y3.set2 _ _).cel]) rfl ⟨rfl,st2 (nxt (nxt hB hb) hb2) (Nat.le_add_right _ 2) _ _⟩
set_option maxHeartbeats 400000 in
theorem plus_lt(s t:ByteArray)(b b':Bool)(w:World)(hs:s.size≤1073741824)(ht:t.size≤1073741824)(hbb:(b==b')=false)(hst:sval s<sval t):
  Calls Tryz.prog 176 #[.agg #[.string s,.bool b],.agg #[.string t,.bool b']] w fun e w'=>e=.returned (.agg #[.string (nstr (sval t-sval s)),.bool b'])∧Below w.heap.size w w':=by
 have c1:=Lib.hid (fun W=>wcmp_any s t W (by omega) (by omega))
 have c2:=Lib.hid (fun W=>nSub_any t s W (by omega) (by omega))
 have h0:cmpI (sval s) (sval t)<0:=cmpI_lt.2 hst
 rw[if_neg (by omega)]at c2
 clear hst
 go_enter Tryz.func176,Tryz.ntmps176
 go_wp2_with fail
 have X1:=((Bx.new w 179 #[.string s,.bool b]).alloc (.cells #[.string t,.bool b'] 179)).alloc (.cells #[.string ⟨#[]⟩,.bool false] 179)
 have X2:=(Bx.at1 w (.cells #[.string s,.bool b] 179) 179 #[.string t,.bool b']).alloc (.cells #[.string ⟨#[]⟩,.bool false] 179)
 have X3:=Bx.at2 w (.cells #[.string s,.bool b] 179) (.cells #[.string t,.bool b'] 179) 179 #[.string ⟨#[]⟩,.bool false]
 have hB:=b3 w (.cells #[.string s,.bool b] 179) (.cells #[.string t,.bool b'] 179) (.cells #[.string ⟨#[]⟩,.bool false] 179)
 generalize ((w.alloc (.cells #[.string s,.bool b] 179)).alloc (.cells #[.string t,.bool b'] 179)).alloc (.cells #[.string ⟨#[]⟩,.bool false] 179)=w0 at *
 have hl0:=X1.lt
 have hl1:=X2.lt
 have hl2:=X3.lt
 obtain⟨p1,p2,p3,p4⟩:=(X1).two
 obtain⟨q1,q2,q3,q4⟩:=(X2).two
 obtain⟨r1,r2,r3,r4⟩:=(X3).two
 refine(c1.out _).mono ?_
 rintro e w1 ⟨rfl,hb⟩
 obtain⟨p'1,p'2,p'3,p'4⟩:=(X1.later hb).two
 obtain⟨q'1,q'2,q'3,q'4⟩:=(X2.later hb).two
 obtain⟨r'1,r'2,r'3,r'4⟩:=(X3.later hb).two
 clear p1 p2 p3 p4 q1 q2 q3 q4 r1 r2 r3 r4
 go_wp2_with fail
 have Z1:=(X1.later hb).set2 (.string t) (.bool b')
 have Z1':=(Z1.far (p:=⟨w.heap.size+1,0,none⟩) (by simp) (.string s)).far (p:=⟨w.heap.size+1,1,none⟩) (by simp) (.bool b)
 have Z3:=((((X3.later hb).far (p:=⟨w.heap.size,0,none⟩) (by simp) (.string t)).far (p:=⟨w.heap.size,1,none⟩) (by simp) (.bool b')).far (p:=⟨w.heap.size+1,0,none⟩) (by simp) (.string s)).far (p:=⟨w.heap.size+1,1,none⟩) (by simp) (.bool b)
 have hB1:=st2 (st2 (nxt hB hb) (Nat.le_refl _) (.string t) (.bool b')) (Nat.le_add_right w.heap.size 1) (.string s) (.bool b)
 refine(c2.out _).mono ?_
 rintro e w2 ⟨rfl,hb2⟩
 have Y1:=Z1'.later hb2
 have Y3:=Z3.later hb2
 obtain⟨py1,py2,py3,py4⟩:=(Y1).two
 obtain⟨qy1,qy2,qy3,qy4⟩:=(Y3).two
 clear p'1 p'2 p'3 p'4 q'1 q'2 q'3 q'4 r'1 r'2 r'3 r'4
 go_wp2
 exact bodyPost_ret (v:=.agg #[.string (nstr (sval t-sval s)),.bool b']) (by simp[results,Tryz.results176,go_sem,(Y3.set2 _ _).cel]) rfl ⟨rfl,st2 (nxt hB1 hb2) (Nat.le_add_right _ 2) _ _⟩
theorem ival_sum(b b':Bool)(u v:Nat): (b=b'→ival b u+ival b' v=ival b (u+v))∧((b==b')=false→v≤u→ival b u+ival b' v=ival b (u-v))∧((b==b')=false→u<v→ival b u+ival b' v=ival b' (v-u)):=by
 cases b<;>cases b'<;>simp[ival]<;>omega
theorem wPlus_any(s t:ByteArray)(b b':Bool)(w:World)(hs:s.size≤1073741824)(ht:t.size≤1073741824):
  Calls Tryz.prog 176 #[.agg #[.string s,.bool b],.agg #[.string t,.bool b']] w fun e w'=>∃c,e=.returned (.agg #[.string (mag (ival b (sval s)+ival b' (sval t))),.bool c])∧ival c (ival b (sval s)+ival b' (sval t)).natAbs=ival b (sval s)+ival b' (sval t)∧Below w.heap.size w w':=by
 obtain⟨h1,h2,h3⟩:=ival_sum b b' (sval s) (sval t)
 cases hbb:(b==b')
 ·rcases Nat.lt_or_ge (sval s) (sval t)with hst|hst
  ·rw[h3 hbb hst]
   exact(plus_lt s t b b' w hs ht hbb hst).mono fun e w' ⟨he,hb⟩=>⟨b',by rw[he,mag_ival],by rw[ival_natAbs],hb⟩
  ·rw[h2 hbb hst]
   exact(plus_ge s t b b' w hs ht hbb hst).mono fun e w' ⟨he,hb⟩=>⟨b,by rw[he,mag_ival],by rw[ival_natAbs],hb⟩
 ·have e:b=b':=by simpa using hbb
  subst e
  rw[h1 rfl]
  exact(plus_same s t b w hs ht).mono fun e w' ⟨he,hb⟩=>⟨b,by rw[he,mag_ival],by rw[ival_natAbs],hb⟩
open Go.RowKit
set_option maxHeartbeats 400000 in
theorem wNeg_any(s:ByteArray)(b:Bool)(w:World):
  Calls Tryz.prog 155 #[.agg #[.bool b,.string s]] w fun e w'=>e=.returned (.agg #[.bool (neg (-ival b (sval s))),.string (mag (-ival b (sval s)))])∧Below w.heap.size w w':=by
 rw[← ival_not]
 go_enter Tryz.func155,Tryz.ntmps155
 go_wp2_with fail
 have X1:=(Bx.new w 30 #[.bool b,.string s]).alloc (.cells #[.bool false,.string ⟨#[]⟩] 30)
 have X2:=Bx.at1 w (.cells #[.bool b,.string s] 30) 30 #[.bool false,.string ⟨#[]⟩]
 have hB:=b2 w (.cells #[.bool b,.string s] 30) (.cells #[.bool false,.string ⟨#[]⟩] 30)
 generalize (w.alloc (.cells #[.bool b,.string s] 30)).alloc (.cells #[.bool false,.string ⟨#[]⟩] 30)=w0 at *
 have hl0:=X1.lt
 have hl1:=X2.lt
 refine(wMade_any s (!b) _).mono ?_
 rintro e w1 ⟨rfl,hb⟩
 obtain⟨r1,r2,r3,r4⟩:=(X2.later hb).two
 go_wp2
 exact bodyPost_ret (v:=.agg #[.bool (neg (ival (!b) (sval s))),.string (mag (ival (!b) (sval s)))]) (by simp[results,Tryz.results155,go_sem,((X2.later hb).set2 _ _).cel]) rfl ⟨rfl,st2 (nxt hB hb) (Nat.le_add_right _ 1) _ _⟩
set_option maxHeartbeats 400000 in
theorem wOf_neg(v:Nat)(w:World)(h0:0<v)(hv:v≤9223372036854775808):
  Calls Tryz.prog 148 #[.int .i64 (-(v:Int))] w fun e w'=>e=.returned (.agg #[.bool (neg (-(v:Int))),.string (mag (-(v:Int)))])∧Below w.heap.size w w':=by
 have hi:ival true (sval (nstr v))=-(v:Int):=by rw[sval_nstr];rfl
 have cm:=Lib.hid (fun W=>wMade_any (nstr v) true W)
 rw[hi]at cm
 have hcv:IntKind.u64.wrap (-(v:Int))=18446744073709551616-(v:Int):=by rw[IntKind.wrap_u64];omega
 have hcn:IntKind.u64.wrap (-(18446744073709551616-(v:Int)))=(v:Int):=by rw[IntKind.wrap_u64];omega
 have co:=Lib.hid (fun W=>nOf_any v W (by rw[LB_eq];omega))
 clear hi
 go_enter Tryz.func148,Tryz.ntmps148
 have X:=Bx.new w 30 #[.bool false,.string ⟨#[]⟩]
 go_wp2_with fail
 refine(co.out _).mono ?_
 rintro e w1 ⟨rfl,hb⟩
 have X1:=X.later hb
 have hB:=nxt (b1 w _) hb
 clear hb X
 go_wp2_with fail
 refine(cm.out _).mono ?_
 rintro e w2 ⟨rfl,hb2⟩
 have X2:=X1.later hb2
 have hB2:=nxt hB hb2
 clear hb2 X1
 obtain⟨r1,r2,r3,r4⟩:=X2.two
 go_wp2
 exact bodyPost_ret (v:=.agg #[.bool (neg (-(v:Int))),.string (mag (-(v:Int)))]) (by simp[results,Tryz.results148,go_sem,(X2.set2 _ _).cel]) rfl ⟨rfl,st2 hB2 (Nat.le_refl _) _ _⟩
set_option maxHeartbeats 400000 in
theorem wOf_pos(v:Nat)(w:World)(hv:v≤9223372036854775807):
  Calls Tryz.prog 148 #[.int .i64 (v:Int)] w fun e w'=>e=.returned (.agg #[.bool (neg ((v:Int))),.string (mag ((v:Int)))])∧Below w.heap.size w w':=by
 have hi:ival false (sval (nstr v))=(v:Int):=by rw[sval_nstr];rfl
 have cm:=Lib.hid (fun W=>wMade_any (nstr v) false W)
 rw[hi]at cm
 have hcv:IntKind.u64.wrap (v:Int)=(v:Int):=by rw[IntKind.wrap_u64];omega
 have co:=Lib.hid (fun W=>nOf_any v W (by rw[LB_eq];omega))
 clear hi
 go_enter Tryz.func148,Tryz.ntmps148
 have X:=Bx.new w 30 #[.bool false,.string ⟨#[]⟩]
 go_wp2_with fail
 refine(co.out _).mono ?_
 rintro e w1 ⟨rfl,hb⟩
 have X1:=X.later hb
 have hB:=nxt (b1 w _) hb
 clear hb X
 go_wp2_with fail
 refine(cm.out _).mono ?_
 rintro e w2 ⟨rfl,hb2⟩
 have X2:=X1.later hb2
 have hB2:=nxt hB hb2
 clear hb2 X1
 obtain⟨r1,r2,r3,r4⟩:=X2.two
 go_wp2
 exact bodyPost_ret (v:=.agg #[.bool (neg ((v:Int))),.string (mag ((v:Int)))]) (by simp[results,Tryz.results148,go_sem,(X2.set2 _ _).cel]) rfl ⟨rfl,st2 hB2 (Nat.le_refl _) _ _⟩
theorem wOf_any(n:Int)(w:World)(h1:-9223372036854775808≤n)(h2:n≤9223372036854775807):
  Calls Tryz.prog 148 #[.int .i64 n] w fun e w'=>e=.returned (.agg #[.bool (neg n),.string (mag n)])∧Below w.heap.size w w':=by
 by_cases h:n<0
 ·obtain⟨v,rfl⟩:∃v:Nat,n=-(v:Int):=⟨n.natAbs,by omega⟩
  exact wOf_neg v w (by omega) (by omega)
 ·obtain⟨v,rfl⟩:∃v:Nat,n=(v:Int):=⟨n.natAbs,by omega⟩
  exact wOf_pos v w (by omega)
theorem mag_empty{z:Int}: (mag z).toList=[]↔z=0:=by
 unfold mag;rw[nstr_empty];omega
theorem mag_full{z:Int}(h:z≠0): (mag z).toList.isEmpty=false:=by
 rw[List.isEmpty_eq_false_iff];exact fun e=>h (mag_empty.1 e)
set_option maxHeartbeats 400000 in
theorem wSign_any(s:ByteArray)(b:Bool)(w:World):
  Calls Tryz.prog 103 #[.agg #[.bool b,.string s]] w fun e w'=>e=.returned (.int .i64 (sgn (ival b (sval s))))∧Below w.heap.size w w':=by
 have cf:=Lib.hid (fun W=>wForm_any s b W)
 generalize ival b (sval s)=z at *
 rcases Int.lt_trichotomy z 0 with h|h|h
 ·have hn:neg z=true:=decide_eq_true h
  have HS:=Lib.hid (show sgn z=-1 by unfold sgn;rw[if_pos h])
  clear h
  go_enter Tryz.func103,Tryz.ntmps103
  go_wp2_with fail
  refine(cf.out _).mono ?_
  rintro e w1 ⟨rfl,hb⟩
  go_wp2
  go_ret
  exact⟨by rw[HS.out];rfl,nxtA (nxt (b1 w _) hb) _⟩
 ·have hn:neg z=false:=decide_eq_false (by omega)
  have hm:(mag z).toList=[]:=mag_empty.2 h
  have HS:=Lib.hid (show sgn z=0 from sgn_eq.2 h)
  clear h
  go_enter Tryz.func103,Tryz.ntmps103
  go_wp2_with fail
  refine(cf.out _).mono ?_
  rintro e w1 ⟨rfl,hb⟩
  go_wp2
  go_ret
  exact⟨by rw[HS.out];rfl,nxtA (nxt (b1 w _) hb) _⟩
 ·have hn:neg z=false:=decide_eq_false (by omega)
  have hm:(mag z).toList.isEmpty=false:=mag_full (by omega)
  have HS:=Lib.hid (show sgn z=1 by unfold sgn;rw[if_neg (by omega),if_neg (by omega)])
  clear h
  go_enter Tryz.func103,Tryz.ntmps103
  go_wp2_with fail
  refine(cf.out _).mono ?_
  rintro e w1 ⟨rfl,hb⟩
  go_wp2
  go_ret
  exact⟨by rw[HS.out];rfl,nxtA (nxt (b1 w _) hb) _⟩
open Go.RowKit
def RdI(w:World)(A:Option Addr)(n:Nat)(bs:Nat→Bool)(ss:Nat→ByteArray): Prop :=
 0<n→∃b off,A=some ⟨b,off,none⟩∧∀j,j<n→w.cell? ⟨b,off+j*2,none⟩=some (.bool (bs j))∧w.cell? ⟨b,off+j*2+1,none⟩=some (.string (ss j))
theorem RdI.below{w w':World}{A:Option Addr}{n:Nat}{bs:Nat→Bool}{ss:Nat→ByteArray}(h:RdI w A n bs ss)(hb:Below w.heap.size w w'): RdI w' A n bs ss:=fun h0=>by
 obtain⟨b,off,e,hc⟩:=h h0
 exact⟨b,off,e,fun j hj=>⟨cell_later hb (hc j hj).1,cell_later hb (hc j hj).2⟩⟩
set_option maxHeartbeats 400000 in
theorem wAdd_any(A:Option Addr)(n c:Nat)(bs:Nat→Bool)(ss:Nat→ByteArray)(w:World)(hn:n≤268435456)(hs:∀j,(ss j).size≤536870912)(hr:RdI w A n bs ss):
  Calls Tryz.prog 159 #[.slice A n c] w fun e w'=>e=.returned (.agg #[.bool (neg (sumI (fun j=>ival (bs j) (sval (ss j))) n)),.string (mag (sumI (fun j=>ival (bs j) (sval (ss j))) n))])∧Below w.heap.size w w':=by
 have HS:=Lib.hid hs
 have hb1:∀k,bsz (sumI (fun j=>ival (bs j) (sval (ss j))) k)≤536870912+k:=fun k=>bsz_sumI (fun j=>Nat.le_trans (bsz_ival _ _) (hs j)) k
 have HB:=Lib.hid hb1
 clear hs hb1
 go_enter Tryz.func159,Tryz.ntmps159
 have X1:=(Bx.new w 30 #[.bool false,.string ⟨#[]⟩]).alloc (.cells #[.string ⟨#[]⟩,.bool false] 179)
 have X2:=Bx.at1 w (.cells #[.bool false,.string ⟨#[]⟩] 30) 179 #[.string ⟨#[]⟩,.bool false]
 have hB:=b2 w (.cells #[.bool false,.string ⟨#[]⟩] 30) (.cells #[.string ⟨#[]⟩,.bool false] 179)
 go_wp2_with fail
 generalize (w.alloc (.cells #[.bool false,.string ⟨#[]⟩] 30)).alloc (.cells #[.string ⟨#[]⟩,.bool false] 179)=w0 at *
 go_loopw [8] (fun i wr=>∃k:Nat,∃d:Bool,k≤n∧i=.int .i64 (k:Nat)∧Hid (ival d (sumI (fun j=>ival (bs j) (sval (ss j))) k).natAbs=sumI (fun j=>ival (bs j) (sval (ss j))) k)∧Bx wr w.heap.size 30 #[.bool false,.string ⟨#[]⟩]∧Bx wr (w.heap.size+1) 179 #[.string (mag (sumI (fun j=>ival (bs j) (sval (ss j))) k)),.bool d]∧Below w.heap.size w wr) (fun i _=>n-(intOf i).toNat)
 case atStart=>exact⟨0,false,Nat.zero_le _,rfl,rfl,X1,X2,hB⟩
 case round =>
  obtain⟨k,d,hk,rfl,hd,Y1,Y2,hB2⟩:=hrel
  obtain⟨p1,p2,p3,p4⟩:=Y1.two
  obtain⟨q1,q2,q3,q4⟩:=Y2.two
  by_cases hlt:k<n
  ·obtain⟨b,off,rfl,hc⟩:=hr (by omega)
   have g1:=cell_later hB2 (hc k hlt).1
   have g2:=cell_later hB2 (hc k hlt).2
   clear hc hr
   have hl2:w.heap.size+1<wr.heap.size:=Y2.lt
   have Z3:=Bx.new wr 30 #[.bool (bs k),.string (ss k)]
   have Z1:=Y1.alloc (.cells #[.bool (bs k),.string (ss k)] 30)
   have Z2:=Y2.alloc (.cells #[.bool (bs k),.string (ss k)] 30)
   have hB3:=nxtA hB2 (.cells #[.bool (bs k),.string (ss k)] 30)
   have hsz:=HS.out k
   have hbz:=HB.out k
   have HD:=Lib.hid (show sumI (fun j=>ival (bs j) (sval (ss j))) (k+1)=ival d (sval (mag (sumI (fun j=>ival (bs j) (sval (ss j))) k)))+ival (bs k) (sval (ss k))by
    rw[sval_mag,hd.out];rfl)
   have hms:(mag (sumI (fun j=>ival (bs j) (sval (ss j))) k)).size≤1073741824:=by rw[mag_size];omega
   have hsz2:(ss k).size≤1073741824:=by omega
   have cp:=Lib.hid (fun W=>wPlus_any (mag (sumI (fun j=>ival (bs j) (sval (ss j))) k)) (ss k) d (bs k) W hms hsz2)
   rw[← HD.out]at cp
   clear hsz hbz hms hsz2
   obtain⟨S1,hS1⟩:∃S1,S1=sumI (fun j=>ival (bs j) (sval (ss j))) (k+1):=⟨_,rfl⟩
   rw[← hS1]at cp
   have H1:=Lib.hid hS1
   clear hS1
   go_wp2_with fail
   generalize wr.alloc (.cells #[.bool (bs k),.string (ss k)] 30)=w5 at *
   obtain⟨z1,z2,_,_⟩:=Z3.two
   clear p1 p2 p3 p4 q1 q2 q3 q4
   obtain⟨q1,q2,q3,q4⟩:=Z2.two
   have hl5:wr.heap.size<w5.heap.size:=Z3.lt
   go_region_with
    (first
     | (go_at_call 158;refine(wof_any (ss k) (bs k) w5.drew).mono ?_;rintro e wn ⟨rfl,hb'⟩;have hb:=undrew hb';clear hb';obtain⟨s1,s2,s3,s4⟩:=(Z2.later hb).two)
     | (go_at_call 176;refine(cp.out wn).mono ?_;rintro e wm ⟨d',rfl,hd',hb2⟩;have hd2:=Lib.hid hd';clear hd';obtain⟨t1,t2,t3,t4⟩:=((Z2.later hb).later hb2).two))
   all_goals
    go_wp2
    exact⟨⟨k+1,d',hlt,by go_num,by rw[← H1.out];exact hd2.out,(((Z1.later hb).later hb2).far (p:=⟨w.heap.size+1,0,none⟩) (by simp) _).far (p:=⟨w.heap.size+1,1,none⟩) (by simp) _,by rw[← H1.out];exact((Z2.later hb).later hb2).set2 _ _,st2 (nxt (nxt hB3 hb) hb2) (Nat.le_add_right _ 1) _ _⟩,by simp[intOf];omega⟩
  ·obtain rfl:k=n:=by omega
   have cm:=Lib.hid (fun W=>wMade_any (mag (sumI (fun j=>ival (bs j) (sval (ss j))) k)) d W)
   rw[sval_mag,hd.out]at cm
   go_wp2_with fail
   refine(cm.out _).mono ?_
   rintro e w6 ⟨rfl,hb6⟩
   obtain⟨s1,s2,s3,s4⟩:=(Y1.later hb6).two
   go_wp2
   exact bodyPost_ret (v:=.agg #[.bool (neg (sumI (fun j=>ival (bs j) (sval (ss j))) k)),.string (mag (sumI (fun j=>ival (bs j) (sval (ss j))) k))]) (by simp[results,Tryz.results159,go_sem,((Y1.later hb6).set2 _ _).cel]) rfl ⟨rfl,st2 (nxt hB2 hb6) (Nat.le_refl _) _ _⟩
open Go.RowKit
theorem rdI2(w:World)(s t:ByteArray)(b b':Bool): RdI (w.alloc (.cells #[.bool b,.string s,.bool b',.string t] 30)) (some ⟨w.heap.size,0,none⟩) 2 (fun j=>if j=0 then b else b') (fun j=>if j=0 then s else t):=fun _ =>
 ⟨w.heap.size,0,rfl,fun j hj=>by
  have h:=Bx.new w 30 #[.bool b,.string s,.bool b',.string t]
  have:j=0∨j=1:=by omega
  rcases this with rfl|rfl
  ·exact⟨h.cel 0,h.cel 1⟩
  ·exact⟨h.cel 2,h.cel 3⟩⟩
theorem wAdd2_any(s t:ByteArray)(b b':Bool)(w:World)(hs:s.size≤536870912)(ht:t.size≤536870912):
  Calls Tryz.prog 159 #[.slice (some ⟨w.heap.size,0,none⟩) 2 2] (w.alloc (.cells #[.bool b,.string s,.bool b',.string t] 30)) fun e w'=>e=.returned (.agg #[.bool (neg (ival b (sval s)+ival b' (sval t))),.string (mag (ival b (sval s)+ival b' (sval t)))])∧Below w.heap.size w w':=by
 have h:=wAdd_any _ 2 2 _ _ (w.alloc (.cells #[.bool b,.string s,.bool b',.string t] 30)) (by decide) (fun j=>by split<;>assumption) (rdI2 w s t b b')
 have e:sumI (fun j=>ival (if j=0 then b else b') (sval (if j=0 then s else t))) 2=ival b (sval s)+ival b' (sval t):=by
  show(0+ival b (sval s))+ival b' (sval t)=_
  rw[Int.zero_add]
 rw[e]at h
 exact h.mono fun e w' ⟨he,hb⟩=>⟨he,nxt (b1 _ _) hb⟩
set_option maxHeartbeats 400000 in
theorem wSub_any(s t:ByteArray)(b b':Bool)(w:World)(hs:s.size≤536870912)(ht:t.size≤536870912):
  Calls Tryz.prog 131 #[.agg #[.bool b,.string s],.agg #[.bool b',.string t]] w fun e w'=>e=.returned (.agg #[.bool (neg (ival b (sval s)-ival b' (sval t))),.string (mag (ival b (sval s)-ival b' (sval t)))])∧Below w.heap.size w w':=by
 have h2:(mag (-ival b' (sval t))).size≤536870912:=by
  rw[mag_size,bsz_neg];exact Nat.le_trans (bsz_ival _ _) ht
 have cn:=Lib.hid (fun W=>wNeg_any t b' W)
 have ca:=Lib.hid (fun W=>wAdd2_any s (mag (-ival b' (sval t))) b (neg (-ival b' (sval t))) W hs h2)
 rw[ival_mk,← Int.sub_eq_add_neg]at ca
 clear h2
 go_enter Tryz.func131,Tryz.ntmps131
 go_wp2_with fail
 have X1:=((Bx.new w 30 #[.bool b,.string s]).alloc (.cells #[.bool b',.string t] 30)).alloc (.cells #[.bool false,.string ⟨#[]⟩] 30)
 have X2:=(Bx.at1 w (.cells #[.bool b,.string s] 30) 30 #[.bool b',.string t]).alloc (.cells #[.bool false,.string ⟨#[]⟩] 30)
 have X3:=Bx.at2 w (.cells #[.bool b,.string s] 30) (.cells #[.bool b',.string t] 30) 30 #[.bool false,.string ⟨#[]⟩]
 have hB:=b3 w (.cells #[.bool b,.string s] 30) (.cells #[.bool b',.string t] 30) (.cells #[.bool false,.string ⟨#[]⟩] 30)
 generalize ((w.alloc (.cells #[.bool b,.string s] 30)).alloc (.cells #[.bool b',.string t] 30)).alloc (.cells #[.bool false,.string ⟨#[]⟩] 30)=w0 at *
 have hl0:=X1.lt
 have hl1:=X2.lt
 have hl2:=X3.lt
 obtain⟨p1,p2,p3,p4⟩:=(X1).two
 obtain⟨q1,q2,q3,q4⟩:=(X2).two
 obtain⟨r1,r2,r3,r4⟩:=(X3).two
 go_region_held3 (fun w'=>w'.cell? ⟨w.heap.size,0,none⟩=some (.bool b)∧w'.cell? ⟨w.heap.size,1,none⟩=some (.string s)∧w'.cell? ⟨w.heap.size+1,0,none⟩=some (.bool b')∧w'.cell? ⟨w.heap.size+1,1,none⟩=some (.string t)) (first|exact⟨p1,p2,q1,q2⟩|exact⟨cell_later hb p1,cell_later hb p2,cell_later hb q1,cell_later hb q2⟩|exact⟨cell_later (b1 wn _) (cell_later hb p1),cell_later (b1 wn _) (cell_later hb p2),cell_later (b1 wn _) (cell_later hb q1),cell_later (b1 wn _) (cell_later hb q2)⟩|exact⟨cell_later hb2 (cell_later hb p1),cell_later hb2 (cell_later hb p2),cell_later hb2 (cell_later hb q1),cell_later hb2 (cell_later hb q2)⟩|exact⟨cell_far2 (cell_later hb2 (cell_later hb p1)) (by omega) _ _,cell_far2 (cell_later hb2 (cell_later hb p2)) (by omega) _ _,cell_far2 (cell_later hb2 (cell_later hb q1)) (by omega) _ _,cell_far2 (cell_later hb2 (cell_later hb q2)) (by omega) _ _⟩)
  (first
   | (go_at_call 155;refine(cn.out w0.drew).mono ?_;rintro e wn ⟨rfl,hb'⟩;have hb:=undrew hb';clear hb')
   | (go_at_call 159;refine(ca.out wn).mono ?_;rintro e wm ⟨rfl,hb2⟩;obtain⟨t1,t2,t3,t4⟩:=((X3.later hb).later hb2).two))
 go_wp2
 exact bodyPost_ret (v:=.agg #[.bool (neg (ival b (sval s)-ival b' (sval t))),.string (mag (ival b (sval s)-ival b' (sval t)))]) (by simp[results,Tryz.results131,go_sem,(((X3.later hb).later hb2).set2 _ _).cel]) rfl ⟨rfl,st2 (nxt (nxt hB hb) hb2) (Nat.le_add_right _ 2) _ _⟩
set_option maxHeartbeats 400000 in
theorem wCmp_any(s t:ByteArray)(b b':Bool)(w:World)(hs:s.size≤536870912)(ht:t.size≤536870912):
  Calls Tryz.prog 105 #[.agg #[.bool b,.string s],.agg #[.bool b',.string t]] w fun e w'=>e=.returned (.int .i64 (sgn (ival b (sval s)-ival b' (sval t))))∧Below w.heap.size w w':=by
 have c1:=Lib.hid (fun W=>wSub_any s t b b' W hs ht)
 have c2:=Lib.hid (fun W=>wSign_any (mag (ival b (sval s)-ival b' (sval t))) (neg (ival b (sval s)-ival b' (sval t))) W)
 rw[ival_mk]at c2
 go_enter Tryz.func105,Tryz.ntmps105
 go_wp2_with fail
 refine(c1.out _).mono ?_
 rintro e w1 ⟨rfl,hb⟩
 have hB:=nxt (b2 w _ _) hb
 clear hb
 go_wp2_with fail
 refine(c2.out _).mono ?_
 rintro e w2 ⟨rfl,hb⟩
 go_wp2
 go_ret
 exact⟨rfl,nxt hB hb⟩
