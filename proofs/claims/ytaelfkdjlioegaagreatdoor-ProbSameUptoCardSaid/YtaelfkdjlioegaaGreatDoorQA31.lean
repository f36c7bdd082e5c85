/- The walks and plain laws beneath the statements. -/
import Derived.Test.YtaelfkdjlioegaaGreatDoorQA22
import Derived.RegionTactic
namespace Go.Proofs.YtaelfkdjlioegaaGreatDoor
set_option maxRecDepth 100000
open Go.RowKit
theorem neg_nat(v:Nat): neg (v:Int)=false:=decide_eq_false (by omega)
theorem mag_nat(v:Nat): mag (v:Int)=nstr v:=by unfold mag;rw[Int.natAbs_natCast]
theorem ival_false(v:Nat): ival false v=(v:Int):=rfl
set_option maxHeartbeats 400000 in
theorem wDiv_zero(s t:ByteArray)(b b':Bool)(w:World)(hs:s.size≤536870912)(ht:t.size≤536870912)(h0:sval t=0):
  Calls Tryz.prog 154 #[.agg #[.bool b,.string s],.agg #[.bool b',.string t]] w fun e w'=>e=.returned (.tuple #[.agg #[.bool false,.string ⟨#[]⟩],.agg #[.bool false,.string ⟨#[]⟩],.bool false])∧Below w.heap.size w w':=by
 have cD:=Lib.hid (fun W=>nDiv_any s t W (by omega) (by omega))
 simp only[if_pos h0]at cD
 clear h0
 go_enter Tryz.func154,Tryz.ntmps154
 go_wp2_with fail
 have Y1:=(((Bx.new w 30 #[.bool b,.string s]).alloc (.cells #[.bool b',.string t] 30)).alloc (.cells #[.bool false,.string ⟨#[]⟩] 30)).alloc (.cells #[.bool false,.string ⟨#[]⟩] 30)
 have Y2:=((Bx.at1 w (.cells #[.bool b,.string s] 30) 30 #[.bool b',.string t]).alloc (.cells #[.bool false,.string ⟨#[]⟩] 30)).alloc (.cells #[.bool false,.string ⟨#[]⟩] 30)
 have Y3:=(Bx.at2 w (.cells #[.bool b,.string s] 30) (.cells #[.bool b',.string t] 30) 30 #[.bool false,.string ⟨#[]⟩]).alloc (.cells #[.bool false,.string ⟨#[]⟩] 30)
 have Y4:=Bx.at3 w (.cells #[.bool b,.string s] 30) (.cells #[.bool b',.string t] 30) (.cells #[.bool false,.string ⟨#[]⟩] 30) 30 #[.bool false,.string ⟨#[]⟩]
 have hB:=b4 w (.cells #[.bool b,.string s] 30) (.cells #[.bool b',.string t] 30) (.cells #[.bool false,.string ⟨#[]⟩] 30) (.cells #[.bool false,.string ⟨#[]⟩] 30)
 generalize (((w.alloc (.cells #[.bool b,.string s] 30)).alloc (.cells #[.bool b',.string t] 30)).alloc (.cells #[.bool false,.string ⟨#[]⟩] 30)).alloc (.cells #[.bool false,.string ⟨#[]⟩] 30)=w0 at *
 have hl0:=Y1.lt
 have hl1:=Y2.lt
 have hl2:=Y3.lt
 have hl3:=Y4.lt
 refine(cD.out _).mono ?_
 rintro e w1 ⟨rfl,hb⟩
 replace Y1:=Y1.later hb
 replace Y2:=Y2.later hb
 replace Y3:=Y3.later hb
 replace Y4:=Y4.later hb
 replace hB:=nxt hB hb
 clear hb
 obtain⟨p1,p2,p3,p4⟩:=Y1.two
 obtain⟨q1,q2,q3,q4⟩:=Y2.two
 obtain⟨r1,r2,r3,r4⟩:=Y3.two
 obtain⟨s1,s2,s3,s4⟩:=Y4.two
 go_wp2_with fail
 go_region
 all_goals
  go_wp2
  exact bodyPost_ret (v:=.tuple #[.agg #[.bool false,.string ⟨#[]⟩],.agg #[.bool false,.string ⟨#[]⟩],.bool false]) (by simp[results,Tryz.results154,go_sem,Y3.cel,Y4.cel]) rfl ⟨rfl,(st2 (st2 hB (Nat.le_add_right _ 2) _ _) (Nat.le_add_right _ 3) _ _).drew⟩
set_option maxHeartbeats 4000000 in
theorem wDiv_ff0(s t:ByteArray)(q r:Nat)(w:World)(hs:s.size≤536870912)(ht:t.size≤536870912)(hv:0<sval t)(hq:q=sval s / sval t)(hr0:r=sval s % sval t):
  Calls Tryz.prog 154 #[.agg #[.bool false,.string s],.agg #[.bool false,.string t]] w fun e w'=>e=.returned (.tuple #[.agg #[.bool (neg ((q:Int))),.string (mag ((q:Int)))],.agg #[.bool (neg ((r:Int))),.string (mag ((r:Int)))],.bool true])∧Below w.heap.size w w':=by
 have hqs:(nstr q).size≤536870912:=by
  rw[← mag_nat,mag_size,hq];exact Nat.le_trans (bsz_natAbs_le (y:=ival false (sval s)) (by rw[ival_natAbs,Int.natAbs_natCast];exact Nat.div_le_self _ _)) (Nat.le_trans (bsz_ival _ _) hs)
 have cF:=Lib.hid (fun W=>wForm_any (nstr q) false W)
 rw[sval_nstr,ival_false]at cF
 have cD:=Lib.hid (fun W=>nDiv_any s t W (by omega) (by omega))
 simp only[if_neg (Nat.ne_of_gt hv),← hq,← hr0]at cD
 clear hv hqs hq hr0
 go_enter Tryz.func154,Tryz.ntmps154
 go_wp2_with fail
 have Y1:=(((Bx.new w 30 #[.bool false,.string s]).alloc (.cells #[.bool false,.string t] 30)).alloc (.cells #[.bool false,.string ⟨#[]⟩] 30)).alloc (.cells #[.bool false,.string ⟨#[]⟩] 30)
 have Y2:=((Bx.at1 w (.cells #[.bool false,.string s] 30) 30 #[.bool false,.string t]).alloc (.cells #[.bool false,.string ⟨#[]⟩] 30)).alloc (.cells #[.bool false,.string ⟨#[]⟩] 30)
 have Y3:=(Bx.at2 w (.cells #[.bool false,.string s] 30) (.cells #[.bool false,.string t] 30) 30 #[.bool false,.string ⟨#[]⟩]).alloc (.cells #[.bool false,.string ⟨#[]⟩] 30)
 have Y4:=Bx.at3 w (.cells #[.bool false,.string s] 30) (.cells #[.bool false,.string t] 30) (.cells #[.bool false,.string ⟨#[]⟩] 30) 30 #[.bool false,.string ⟨#[]⟩]
 have hB:=b4 w (.cells #[.bool false,.string s] 30) (.cells #[.bool false,.string t] 30) (.cells #[.bool false,.string ⟨#[]⟩] 30) (.cells #[.bool false,.string ⟨#[]⟩] 30)
 generalize (((w.alloc (.cells #[.bool false,.string s] 30)).alloc (.cells #[.bool false,.string t] 30)).alloc (.cells #[.bool false,.string ⟨#[]⟩] 30)).alloc (.cells #[.bool false,.string ⟨#[]⟩] 30)=w0 at *
 have hl0:=Y1.lt
 have hl1:=Y2.lt
 have hl2:=Y3.lt
 have hl3:=Y4.lt
 refine(cD.out _).mono ?_
 rintro e w1 ⟨rfl,hb⟩
 replace Y1:=Y1.later hb
 replace Y2:=Y2.later hb
 replace Y3:=Y3.later hb
 replace Y4:=Y4.later hb
 replace hB:=nxt hB hb
 clear hb
 obtain⟨p1,p2,p3,p4⟩:=Y1.two
 obtain⟨q1,q2,q3,q4⟩:=Y2.two
 obtain⟨r1,r2,r3,r4⟩:=Y3.two
 obtain⟨s1,s2,s3,s4⟩:=Y4.two
 replace Y1:=Y1.far2 (g':=w.heap.size+2) (i:=0) (j:=1) (by simp) (.bool false) (.string (nstr q))
 replace Y2:=Y2.far2 (g':=w.heap.size+2) (i:=0) (j:=1) (by simp) (.bool false) (.string (nstr q))
 replace Y3:=Y3.set2 (.bool false) (.string (nstr q))
 replace Y4:=Y4.far2 (g':=w.heap.size+2) (i:=0) (j:=1) (by simp) (.bool false) (.string (nstr q))
 replace hB:=st2 hB (Nat.le_add_right w.heap.size 2) (.bool false) (.string (nstr q))
 replace Y1:=Y1.far2 (g':=w.heap.size+3) (i:=0) (j:=1) (by simp) (.bool false) (.string (nstr r))
 replace Y2:=Y2.far2 (g':=w.heap.size+3) (i:=0) (j:=1) (by simp) (.bool false) (.string (nstr r))
 replace Y3:=Y3.far2 (g':=w.heap.size+3) (i:=0) (j:=1) (by simp) (.bool false) (.string (nstr r))
 replace Y4:=Y4.set2 (.bool false) (.string (nstr r))
 replace hB:=st2 hB (Nat.le_add_right w.heap.size 3) (.bool false) (.string (nstr r))
 go_wp2_with fail
 generalize ((((w1.setCell ⟨w.heap.size+2,0,none⟩ (.bool false)).setCell ⟨w.heap.size+2,1,none⟩ (.string (nstr q))).setCell ⟨w.heap.size+3,0,none⟩ (.bool false)).setCell ⟨w.heap.size+3,1,none⟩ (.string (nstr r)))=w2 at *
 clear p1 p2 p3 p4 q1 q2 q3 q4 r1 r2 r3 r4 s1 s2 s3 s4
 obtain⟨p1,p2,p3,p4⟩:=Y1.two
 obtain⟨q1,q2,q3,q4⟩:=Y2.two
 obtain⟨r1,r2,r3,r4⟩:=Y3.two
 obtain⟨s1,s2,s3,s4⟩:=Y4.two
 go_region_with
  (go_at_call 129;refine(cF.out w2.drew).mono ?_;rintro e wz ⟨rfl,hb'⟩;have hz:=undrew hb';clear hb';obtain⟨u1,u2,u3,u4⟩:=(Y3.later hz).two;obtain⟨v1,v2,v3,v4⟩:=(Y4.later hz).two)
 all_goals
  go_wp2
  exact bodyPost_ret (v:=.tuple #[.agg #[.bool (neg ((q:Int))),.string (mag ((q:Int)))],.agg #[.bool false,.string (nstr r)],.bool true]) (by simp[results,Tryz.results154,go_sem,(((Y3.later hz).set2 (.bool (neg ((q:Int)))) (.string (mag ((q:Int))))).far2 (g':=w.heap.size+3) (i:=0) (j:=1) (by simp) (.bool false) (.string (nstr r))).cel,(((Y4.later hz).far2 (g':=w.heap.size+2) (i:=0) (j:=1) (by simp) (.bool (neg ((q:Int)))) (.string (mag ((q:Int))))).set2 (.bool false) (.string (nstr r))).cel]) rfl ⟨by simp only[neg_nat,mag_nat],st2 (st2 (nxt hB hz) (Nat.le_add_right _ 2) _ _) (Nat.le_add_right _ 3) _ _⟩
set_option maxHeartbeats 4000000 in
theorem wDiv_ft0(s t:ByteArray)(q r:Nat)(w:World)(hs:s.size≤536870912)(ht:t.size≤536870912)(hv:0<sval t)(hq:q=sval s / sval t)(hr0:r=sval s % sval t):
  Calls Tryz.prog 154 #[.agg #[.bool false,.string s],.agg #[.bool true,.string t]] w fun e w'=>e=.returned (.tuple #[.agg #[.bool (neg (-((q:Int)))),.string (mag (-((q:Int))))],.agg #[.bool (neg ((r:Int))),.string (mag ((r:Int)))],.bool true])∧Below w.heap.size w w':=by
 have hqs:(nstr q).size≤536870912:=by
  rw[← mag_nat,mag_size,hq];exact Nat.le_trans (bsz_natAbs_le (y:=ival false (sval s)) (by rw[ival_natAbs,Int.natAbs_natCast];exact Nat.div_le_self _ _)) (Nat.le_trans (bsz_ival _ _) hs)
 have cN:=Lib.hid (fun W=>wNeg_any (nstr q) false W)
 rw[sval_nstr,ival_false]at cN
 have cF:=Lib.hid (fun W=>wForm_any (mag (-((q:Int)))) (neg (-((q:Int)))) W)
 rw[ival_mk]at cF
 have cD:=Lib.hid (fun W=>nDiv_any s t W (by omega) (by omega))
 simp only[if_neg (Nat.ne_of_gt hv),← hq,← hr0]at cD
 clear hv hqs hq hr0
 go_enter Tryz.func154,Tryz.ntmps154
 go_wp2_with fail
 have Y1:=(((Bx.new w 30 #[.bool false,.string s]).alloc (.cells #[.bool true,.string t] 30)).alloc (.cells #[.bool false,.string ⟨#[]⟩] 30)).alloc (.cells #[.bool false,.string ⟨#[]⟩] 30)
 have Y2:=((Bx.at1 w (.cells #[.bool false,.string s] 30) 30 #[.bool true,.string t]).alloc (.cells #[.bool false,.string ⟨#[]⟩] 30)).alloc (.cells #[.bool false,.string ⟨#[]⟩] 30)
 have Y3:=(Bx.at2 w (.cells #[.bool false,.string s] 30) (.cells #[.bool true,.string t] 30) 30 #[.bool false,.string ⟨#[]⟩]).alloc (.cells #[.bool false,.string ⟨#[]⟩] 30)
 have Y4:=Bx.at3 w (.cells #[.bool false,.string s] 30) (.cells #[.bool true,.string t] 30) (.cells #[.bool false,.string ⟨#[]⟩] 30) 30 #[.bool false,.string ⟨#[]⟩]
 have hB:=b4 w (.cells #[.bool false,.string s] 30) (.cells #[.bool true,.string t] 30) (.cells #[.bool false,.string ⟨#[]⟩] 30) (.cells #[.bool false,.string ⟨#[]⟩] 30)
 generalize (((w.alloc (.cells #[.bool false,.string s] 30)).alloc (.cells #[.bool true,.string t] 30)).alloc (.cells #[.bool false,.string ⟨#[]⟩] 30)).alloc (.cells #[.bool false,.string ⟨#[]⟩] 30)=w0 at *
 have hl0:=Y1.lt
 have hl1:=Y2.lt
 have hl2:=Y3.lt
 have hl3:=Y4.lt
 refine(cD.out _).mono ?_
 rintro e w1 ⟨rfl,hb⟩
 replace Y1:=Y1.later hb
 replace Y2:=Y2.later hb
 replace Y3:=Y3.later hb
 replace Y4:=Y4.later hb
 replace hB:=nxt hB hb
 clear hb
 obtain⟨p1,p2,p3,p4⟩:=Y1.two
 obtain⟨q1,q2,q3,q4⟩:=Y2.two
 obtain⟨r1,r2,r3,r4⟩:=Y3.two
 obtain⟨s1,s2,s3,s4⟩:=Y4.two
 replace Y1:=Y1.far2 (g':=w.heap.size+2) (i:=0) (j:=1) (by simp) (.bool false) (.string (nstr q))
 replace Y2:=Y2.far2 (g':=w.heap.size+2) (i:=0) (j:=1) (by simp) (.bool false) (.string (nstr q))
 replace Y3:=Y3.set2 (.bool false) (.string (nstr q))
 replace Y4:=Y4.far2 (g':=w.heap.size+2) (i:=0) (j:=1) (by simp) (.bool false) (.string (nstr q))
 replace hB:=st2 hB (Nat.le_add_right w.heap.size 2) (.bool false) (.string (nstr q))
 replace Y1:=Y1.far2 (g':=w.heap.size+3) (i:=0) (j:=1) (by simp) (.bool false) (.string (nstr r))
 replace Y2:=Y2.far2 (g':=w.heap.size+3) (i:=0) (j:=1) (by simp) (.bool false) (.string (nstr r))
 replace Y3:=Y3.far2 (g':=w.heap.size+3) (i:=0) (j:=1) (by simp) (.bool false) (.string (nstr r))
 replace Y4:=Y4.set2 (.bool false) (.string (nstr r))
 replace hB:=st2 hB (Nat.le_add_right w.heap.size 3) (.bool false) (.string (nstr r))
 go_wp2_with fail
 generalize ((((w1.setCell ⟨w.heap.size+2,0,none⟩ (.bool false)).setCell ⟨w.heap.size+2,1,none⟩ (.string (nstr q))).setCell ⟨w.heap.size+3,0,none⟩ (.bool false)).setCell ⟨w.heap.size+3,1,none⟩ (.string (nstr r)))=w2 at *
 clear p1 p2 p3 p4 q1 q2 q3 q4 r1 r2 r3 r4 s1 s2 s3 s4
 obtain⟨p1,p2,p3,p4⟩:=Y1.two
 obtain⟨q1,q2,q3,q4⟩:=Y2.two
 obtain⟨r1,r2,r3,r4⟩:=Y3.two
 obtain⟨s1,s2,s3,s4⟩:=Y4.two
 refine(cN.out _).mono ?_
 rintro e w5 ⟨rfl,hb⟩
 replace Y1:=Y1.later hb
 replace Y2:=Y2.later hb
 replace Y3:=Y3.later hb
 replace Y4:=Y4.later hb
 replace hB:=nxt hB hb
 clear hb
 clear p1 p2 p3 p4 q1 q2 q3 q4 r1 r2 r3 r4 s1 s2 s3 s4
 obtain⟨p1,p2,p3,p4⟩:=Y1.two
 obtain⟨q1,q2,q3,q4⟩:=Y2.two
 obtain⟨r1,r2,r3,r4⟩:=Y3.two
 obtain⟨s1,s2,s3,s4⟩:=Y4.two
 replace Y1:=Y1.far2 (g':=w.heap.size+2) (i:=0) (j:=1) (by simp) (.bool (neg (-((q:Int))))) (.string (mag (-((q:Int)))))
 replace Y2:=Y2.far2 (g':=w.heap.size+2) (i:=0) (j:=1) (by simp) (.bool (neg (-((q:Int))))) (.string (mag (-((q:Int)))))
 replace Y3:=Y3.set2 (.bool (neg (-((q:Int))))) (.string (mag (-((q:Int)))))
 replace Y4:=Y4.far2 (g':=w.heap.size+2) (i:=0) (j:=1) (by simp) (.bool (neg (-((q:Int))))) (.string (mag (-((q:Int)))))
 replace hB:=st2 hB (Nat.le_add_right w.heap.size 2) (.bool (neg (-((q:Int))))) (.string (mag (-((q:Int)))))
 go_wp2_with fail
 generalize (w5.setCell ⟨w.heap.size+2,0,none⟩ (.bool (neg (-((q:Int)))))).setCell ⟨w.heap.size+2,1,none⟩ (.string (mag (-((q:Int)))))=w6 at *
 clear p1 p2 p3 p4 q1 q2 q3 q4 r1 r2 r3 r4 s1 s2 s3 s4
 obtain⟨p1,p2,p3,p4⟩:=Y1.two
 obtain⟨q1,q2,q3,q4⟩:=Y2.two
 obtain⟨r1,r2,r3,r4⟩:=Y3.two
 obtain⟨s1,s2,s3,s4⟩:=Y4.two
 go_region_with
  (go_at_call 129;refine(cF.out w6.drew).mono ?_;rintro e wz ⟨rfl,hb'⟩;have hz:=undrew hb';clear hb';obtain⟨u1,u2,u3,u4⟩:=(Y3.later hz).two;obtain⟨v1,v2,v3,v4⟩:=(Y4.later hz).two)
 all_goals
  go_wp2
  exact bodyPost_ret (v:=.tuple #[.agg #[.bool (neg (-((q:Int)))),.string (mag (-((q:Int))))],.agg #[.bool false,.string (nstr r)],.bool true]) (by simp[results,Tryz.results154,go_sem,(((Y3.later hz).set2 (.bool (neg (-((q:Int))))) (.string (mag (-((q:Int)))))).far2 (g':=w.heap.size+3) (i:=0) (j:=1) (by simp) (.bool false) (.string (nstr r))).cel,(((Y4.later hz).far2 (g':=w.heap.size+2) (i:=0) (j:=1) (by simp) (.bool (neg (-((q:Int))))) (.string (mag (-((q:Int)))))).set2 (.bool false) (.string (nstr r))).cel]) rfl ⟨by simp only[neg_nat,mag_nat],st2 (st2 (nxt hB hz) (Nat.le_add_right _ 2) _ _) (Nat.le_add_right _ 3) _ _⟩
set_option maxHeartbeats 4000000 in
theorem wDiv_tt0(s t:ByteArray)(q r:Nat)(w:World)(hs:s.size≤536870912)(ht:t.size≤536870912)(hv:0<sval t)(hq:q=sval s / sval t)(hr0:r=sval s % sval t)(hr:r=0):
  Calls Tryz.prog 154 #[.agg #[.bool true,.string s],.agg #[.bool true,.string t]] w fun e w'=>e=.returned (.tuple #[.agg #[.bool (neg ((q:Int))),.string (mag ((q:Int)))],.agg #[.bool (neg ((r:Int))),.string (mag ((r:Int)))],.bool true])∧Below w.heap.size w w':=by
 have hqs:(nstr q).size≤536870912:=by
  rw[← mag_nat,mag_size,hq];exact Nat.le_trans (bsz_natAbs_le (y:=ival false (sval s)) (by rw[ival_natAbs,Int.natAbs_natCast];exact Nat.div_le_self _ _)) (Nat.le_trans (bsz_ival _ _) hs)
 have he:(nstr r).toList=[]:=nstr_empty.2 hr
 clear hr
 have cF:=Lib.hid (fun W=>wForm_any (nstr q) false W)
 rw[sval_nstr,ival_false]at cF
 have cD:=Lib.hid (fun W=>nDiv_any s t W (by omega) (by omega))
 simp only[if_neg (Nat.ne_of_gt hv),← hq,← hr0]at cD
 clear hv hqs hq hr0
 go_enter Tryz.func154,Tryz.ntmps154
 go_wp2_with fail
 have Y1:=(((Bx.new w 30 #[.bool true,.string s]).alloc (.cells #[.bool true,.string t] 30)).alloc (.cells #[.bool false,.string ⟨#[]⟩] 30)).alloc (.cells #[.bool false,.string ⟨#[]⟩] 30)
 have Y2:=((Bx.at1 w (.cells #[.bool true,.string s] 30) 30 #[.bool true,.string t]).alloc (.cells #[.bool false,.string ⟨#[]⟩] 30)).alloc (.cells #[.bool false,.string ⟨#[]⟩] 30)
 have Y3:=(Bx.at2 w (.cells #[.bool true,.string s] 30) (.cells #[.bool true,.string t] 30) 30 #[.bool false,.string ⟨#[]⟩]).alloc (.cells #[.bool false,.string ⟨#[]⟩] 30)
 have Y4:=Bx.at3 w (.cells #[.bool true,.string s] 30) (.cells #[.bool true,.string t] 30) (.cells #[.bool false,.string ⟨#[]⟩] 30) 30 #[.bool false,.string ⟨#[]⟩]
 have hB:=b4 w (.cells #[.bool true,.string s] 30) (.cells #[.bool true,.string t] 30) (.cells #[.bool false,.string ⟨#[]⟩] 30) (.cells #[.bool false,.string ⟨#[]⟩] 30)
 generalize (((w.alloc (.cells #[.bool true,.string s] 30)).alloc (.cells #[.bool true,.string t] 30)).alloc (.cells #[.bool false,.string ⟨#[]⟩] 30)).alloc (.cells #[.bool false,.string ⟨#[]⟩] 30)=w0 at *
 have hl0:=Y1.lt
 have hl1:=Y2.lt
 have hl2:=Y3.lt
 have hl3:=Y4.lt
 refine(cD.out _).mono ?_
 rintro e w1 ⟨rfl,hb⟩
 replace Y1:=Y1.later hb
 replace Y2:=Y2.later hb
 replace Y3:=Y3.later hb
 replace Y4:=Y4.later hb
 replace hB:=nxt hB hb
 clear hb
 obtain⟨p1,p2,p3,p4⟩:=Y1.two
 obtain⟨q1,q2,q3,q4⟩:=Y2.two
 obtain⟨r1,r2,r3,r4⟩:=Y3.two
 obtain⟨s1,s2,s3,s4⟩:=Y4.two
 replace Y1:=Y1.far2 (g':=w.heap.size+2) (i:=0) (j:=1) (by simp) (.bool false) (.string (nstr q))
 replace Y2:=Y2.far2 (g':=w.heap.size+2) (i:=0) (j:=1) (by simp) (.bool false) (.string (nstr q))
 replace Y3:=Y3.set2 (.bool false) (.string (nstr q))
 replace Y4:=Y4.far2 (g':=w.heap.size+2) (i:=0) (j:=1) (by simp) (.bool false) (.string (nstr q))
 replace hB:=st2 hB (Nat.le_add_right w.heap.size 2) (.bool false) (.string (nstr q))
 replace Y1:=Y1.far2 (g':=w.heap.size+3) (i:=0) (j:=1) (by simp) (.bool false) (.string (nstr r))
 replace Y2:=Y2.far2 (g':=w.heap.size+3) (i:=0) (j:=1) (by simp) (.bool false) (.string (nstr r))
 replace Y3:=Y3.far2 (g':=w.heap.size+3) (i:=0) (j:=1) (by simp) (.bool false) (.string (nstr r))
 replace Y4:=Y4.set2 (.bool false) (.string (nstr r))
 replace hB:=st2 hB (Nat.le_add_right w.heap.size 3) (.bool false) (.string (nstr r))
 go_wp2_with fail
 generalize ((((w1.setCell ⟨w.heap.size+2,0,none⟩ (.bool false)).setCell ⟨w.heap.size+2,1,none⟩ (.string (nstr q))).setCell ⟨w.heap.size+3,0,none⟩ (.bool false)).setCell ⟨w.heap.size+3,1,none⟩ (.string (nstr r)))=w2 at *
 clear p1 p2 p3 p4 q1 q2 q3 q4 r1 r2 r3 r4 s1 s2 s3 s4
 obtain⟨p1,p2,p3,p4⟩:=Y1.two
 obtain⟨q1,q2,q3,q4⟩:=Y2.two
 obtain⟨r1,r2,r3,r4⟩:=Y3.two
 obtain⟨s1,s2,s3,s4⟩:=Y4.two
 go_region_with
  (go_at_call 129;refine(cF.out w2.drew).mono ?_;rintro e wz ⟨rfl,hb'⟩;have hz:=undrew hb';clear hb';obtain⟨u1,u2,u3,u4⟩:=(Y3.later hz).two;obtain⟨v1,v2,v3,v4⟩:=(Y4.later hz).two)
 all_goals
  go_wp2
  exact bodyPost_ret (v:=.tuple #[.agg #[.bool (neg ((q:Int))),.string (mag ((q:Int)))],.agg #[.bool false,.string (nstr r)],.bool true]) (by simp[results,Tryz.results154,go_sem,(((Y3.later hz).set2 (.bool (neg ((q:Int)))) (.string (mag ((q:Int))))).far2 (g':=w.heap.size+3) (i:=0) (j:=1) (by simp) (.bool false) (.string (nstr r))).cel,(((Y4.later hz).far2 (g':=w.heap.size+2) (i:=0) (j:=1) (by simp) (.bool (neg ((q:Int)))) (.string (mag ((q:Int))))).set2 (.bool false) (.string (nstr r))).cel]) rfl ⟨by simp only[neg_nat,mag_nat],st2 (st2 (nxt hB hz) (Nat.le_add_right _ 2) _ _) (Nat.le_add_right _ 3) _ _⟩
set_option maxHeartbeats 4000000 in
theorem wDiv_tf0(s t:ByteArray)(q r:Nat)(w:World)(hs:s.size≤536870912)(ht:t.size≤536870912)(hv:0<sval t)(hq:q=sval s / sval t)(hr0:r=sval s % sval t)(hr:r=0):
  Calls Tryz.prog 154 #[.agg #[.bool true,.string s],.agg #[.bool false,.string t]] w fun e w'=>e=.returned (.tuple #[.agg #[.bool (neg (-((q:Int)))),.string (mag (-((q:Int))))],.agg #[.bool (neg ((r:Int))),.string (mag ((r:Int)))],.bool true])∧Below w.heap.size w w':=by
 have hqs:(nstr q).size≤536870912:=by
  rw[← mag_nat,mag_size,hq];exact Nat.le_trans (bsz_natAbs_le (y:=ival false (sval s)) (by rw[ival_natAbs,Int.natAbs_natCast];exact Nat.div_le_self _ _)) (Nat.le_trans (bsz_ival _ _) hs)
 have he:(nstr r).toList=[]:=nstr_empty.2 hr
 clear hr
 have cN:=Lib.hid (fun W=>wNeg_any (nstr q) false W)
 rw[sval_nstr,ival_false]at cN
 have cF:=Lib.hid (fun W=>wForm_any (mag (-((q:Int)))) (neg (-((q:Int)))) W)
 rw[ival_mk]at cF
 have cD:=Lib.hid (fun W=>nDiv_any s t W (by omega) (by omega))
 simp only[if_neg (Nat.ne_of_gt hv),← hq,← hr0]at cD
 clear hv hqs hq hr0
 go_enter Tryz.func154,Tryz.ntmps154
 go_wp2_with fail
 have Y1:=(((Bx.new w 30 #[.bool true,.string s]).alloc (.cells #[.bool false,.string t] 30)).alloc (.cells #[.bool false,.string ⟨#[]⟩] 30)).alloc (.cells #[.bool false,.string ⟨#[]⟩] 30)
 have Y2:=((Bx.at1 w (.cells #[.bool true,.string s] 30) 30 #[.bool false,.string t]).alloc (.cells #[.bool false,.string ⟨#[]⟩] 30)).alloc (.cells #[.bool false,.string ⟨#[]⟩] 30)
 have Y3:=(Bx.at2 w (.cells #[.bool true,.string s] 30) (.cells #[.bool false,.string t] 30) 30 #[.bool false,.string ⟨#[]⟩]).alloc (.cells #[.bool false,.string ⟨#[]⟩] 30)
 have Y4:=Bx.at3 w (.cells #[.bool true,.string s] 30) (.cells #[.bool false,.string t] 30) (.cells #[.bool false,.string ⟨#[]⟩] 30) 30 #[.bool false,.string ⟨#[]⟩]
 have hB:=b4 w (.cells #[.bool true,.string s] 30) (.cells #[.bool false,.string t] 30) (.cells #[.bool false,.string ⟨#[]⟩] 30) (.cells #[.bool false,.string ⟨#[]⟩] 30)
 generalize (((w.alloc (.cells #[.bool true,.string s] 30)).alloc (.cells #[.bool false,.string t] 30)).alloc (.cells #[.bool false,.string ⟨#[]⟩] 30)).alloc (.cells #[.bool false,.string ⟨#[]⟩] 30)=w0 at *
 have hl0:=Y1.lt
 have hl1:=Y2.lt
 have hl2:=Y3.lt
 have hl3:=Y4.lt
 refine(cD.out _).mono ?_
 rintro e w1 ⟨rfl,hb⟩
 replace Y1:=Y1.later hb
 replace Y2:=Y2.later hb
 replace Y3:=Y3.later hb
 replace Y4:=Y4.later hb
 replace hB:=nxt hB hb
 clear hb
 obtain⟨p1,p2,p3,p4⟩:=Y1.two
 obtain⟨q1,q2,q3,q4⟩:=Y2.two
 obtain⟨r1,r2,r3,r4⟩:=Y3.two
 obtain⟨s1,s2,s3,s4⟩:=Y4.two
 replace Y1:=Y1.far2 (g':=w.heap.size+2) (i:=0) (j:=1) (by simp) (.bool false) (.string (nstr q))
 replace Y2:=Y2.far2 (g':=w.heap.size+2) (i:=0) (j:=1) (by simp) (.bool false) (.string (nstr q))
 replace Y3:=Y3.set2 (.bool false) (.string (nstr q))
 replace Y4:=Y4.far2 (g':=w.heap.size+2) (i:=0) (j:=1) (by simp) (.bool false) (.string (nstr q))
 replace hB:=st2 hB (Nat.le_add_right w.heap.size 2) (.bool false) (.string (nstr q))
 replace Y1:=Y1.far2 (g':=w.heap.size+3) (i:=0) (j:=1) (by simp) (.bool false) (.string (nstr r))
 replace Y2:=Y2.far2 (g':=w.heap.size+3) (i:=0) (j:=1) (by simp) (.bool false) (.string (nstr r))
 replace Y3:=Y3.far2 (g':=w.heap.size+3) (i:=0) (j:=1) (by simp) (.bool false) (.string (nstr r))
 replace Y4:=Y4.set2 (.bool false) (.string (nstr r))
 replace hB:=st2 hB (Nat.le_add_right w.heap.size 3) (.bool false) (.string (nstr r))
 go_wp2_with fail
 generalize ((((w1.setCell ⟨w.heap.size+2,0,none⟩ (.bool false)).setCell ⟨w.heap.size+2,1,none⟩ (.string (nstr q))).setCell ⟨w.heap.size+3,0,none⟩ (.bool false)).setCell ⟨w.heap.size+3,1,none⟩ (.string (nstr r)))=w2 at *
 clear p1 p2 p3 p4 q1 q2 q3 q4 r1 r2 r3 r4 s1 s2 s3 s4
 obtain⟨p1,p2,p3,p4⟩:=Y1.two
 obtain⟨q1,q2,q3,q4⟩:=Y2.two
 obtain⟨r1,r2,r3,r4⟩:=Y3.two
 obtain⟨s1,s2,s3,s4⟩:=Y4.two
 refine(cN.out _).mono ?_
 rintro e w5 ⟨rfl,hb⟩
 replace Y1:=Y1.later hb
 replace Y2:=Y2.later hb
 replace Y3:=Y3.later hb
 replace Y4:=Y4.later hb
 replace hB:=nxt hB hb
 clear hb
 clear p1 p2 p3 p4 q1 q2 q3 q4 r1 r2 r3 r4 s1 s2 s3 s4
 obtain⟨p1,p2,p3,p4⟩:=Y1.two
 obtain⟨q1,q2,q3,q4⟩:=Y2.two
 obtain⟨r1,r2,r3,r4⟩:=Y3.two
 obtain⟨s1,s2,s3,s4⟩:=Y4.two
 replace Y1:=Y1.far2 (g':=w.heap.size+2) (i:=0) (j:=1) (by simp) (.bool (neg (-((q:Int))))) (.string (mag (-((q:Int)))))
 replace Y2:=Y2.far2 (g':=w.heap.size+2) (i:=0) (j:=1) (by simp) (.bool (neg (-((q:Int))))) (.string (mag (-((q:Int)))))
 replace Y3:=Y3.set2 (.bool (neg (-((q:Int))))) (.string (mag (-((q:Int)))))
 replace Y4:=Y4.far2 (g':=w.heap.size+2) (i:=0) (j:=1) (by simp) (.bool (neg (-((q:Int))))) (.string (mag (-((q:Int)))))
 replace hB:=st2 hB (Nat.le_add_right w.heap.size 2) (.bool (neg (-((q:Int))))) (.string (mag (-((q:Int)))))
 go_wp2_with fail
 generalize (w5.setCell ⟨w.heap.size+2,0,none⟩ (.bool (neg (-((q:Int)))))).setCell ⟨w.heap.size+2,1,none⟩ (.string (mag (-((q:Int)))))=w6 at *
 clear p1 p2 p3 p4 q1 q2 q3 q4 r1 r2 r3 r4 s1 s2 s3 s4
 obtain⟨p1,p2,p3,p4⟩:=Y1.two
 obtain⟨q1,q2,q3,q4⟩:=Y2.two
 obtain⟨r1,r2,r3,r4⟩:=Y3.two
 obtain⟨s1,s2,s3,s4⟩:=Y4.two
 go_region_with
  (go_at_call 129;refine(cF.out w6.drew).mono ?_;rintro e wz ⟨rfl,hb'⟩;have hz:=undrew hb';clear hb';obtain⟨u1,u2,u3,u4⟩:=(Y3.later hz).two;obtain⟨v1,v2,v3,v4⟩:=(Y4.later hz).two)
 all_goals
  go_wp2
  exact bodyPost_ret (v:=.tuple #[.agg #[.bool (neg (-((q:Int)))),.string (mag (-((q:Int))))],.agg #[.bool false,.string (nstr r)],.bool true]) (by simp[results,Tryz.results154,go_sem,(((Y3.later hz).set2 (.bool (neg (-((q:Int))))) (.string (mag (-((q:Int)))))).far2 (g':=w.heap.size+3) (i:=0) (j:=1) (by simp) (.bool false) (.string (nstr r))).cel,(((Y4.later hz).far2 (g':=w.heap.size+2) (i:=0) (j:=1) (by simp) (.bool (neg (-((q:Int))))) (.string (mag (-((q:Int)))))).set2 (.bool false) (.string (nstr r))).cel]) rfl ⟨by simp only[neg_nat,mag_nat],st2 (st2 (nxt hB hz) (Nat.le_add_right _ 2) _ _) (Nat.le_add_right _ 3) _ _⟩
set_option maxHeartbeats 4000000 in
theorem wDiv_tt1(s t:ByteArray)(q r:Nat)(w:World)(hs:s.size≤536870912)(ht:t.size≤536870912)(hv:0<sval t)(hq:q=sval s / sval t)(hr0:r=sval s % sval t)(hr:r≠0):
  Calls Tryz.prog 154 #[.agg #[.bool true,.string s],.agg #[.bool true,.string t]] w fun e w'=>e=.returned (.tuple #[.agg #[.bool (neg ((q:Int)+1)),.string (mag ((q:Int)+1))],.agg #[.bool (neg ((sval t:Int)-(r:Int))),.string (mag ((sval t:Int)-(r:Int)))],.bool true])∧Below w.heap.size w w':=by
 have hqs:(nstr q).size≤536870912:=by
  rw[← mag_nat,mag_size,hq];exact Nat.le_trans (bsz_natAbs_le (y:=ival false (sval s)) (by rw[ival_natAbs,Int.natAbs_natCast];exact Nat.div_le_self _ _)) (Nat.le_trans (bsz_ival _ _) hs)
 have he:(nstr r).toList.isEmpty=false:=by
  rw[List.isEmpty_eq_false_iff];exact fun h=>hr (nstr_empty.1 h)
 have hrs:(nstr r).size≤536870912:=by
  rw[← mag_nat,mag_size,hr0];exact Nat.le_trans (bsz_natAbs_le (y:=ival false (sval t)) (by rw[ival_natAbs,Int.natAbs_natCast];exact Nat.le_of_lt (Nat.mod_lt _ hv))) (Nat.le_trans (bsz_ival _ _) ht)
 have cO:=Lib.hid (fun W=>wOf_any 1 W (by decide) (by decide))
 have cA:=Lib.hid (fun W=>wAdd2_any (nstr q) (mag 1) false (neg 1) W hqs (by decide))
 rw[sval_nstr,ival_mk,ival_false]at cA
 have cS:=Lib.hid (fun W=>wSub_any t (nstr r) false false W ht hrs)
 rw[sval_nstr,ival_false,ival_false]at cS
 clear hr hrs
 have cF:=Lib.hid (fun W=>wForm_any (mag ((q:Int)+1)) (neg ((q:Int)+1)) W)
 rw[ival_mk]at cF
 have cD:=Lib.hid (fun W=>nDiv_any s t W (by omega) (by omega))
 simp only[if_neg (Nat.ne_of_gt hv),← hq,← hr0]at cD
 clear hv hqs hq hr0
 go_enter Tryz.func154,Tryz.ntmps154
 go_wp2_with fail
 have Y1:=(((Bx.new w 30 #[.bool true,.string s]).alloc (.cells #[.bool true,.string t] 30)).alloc (.cells #[.bool false,.string ⟨#[]⟩] 30)).alloc (.cells #[.bool false,.string ⟨#[]⟩] 30)
 have Y2:=((Bx.at1 w (.cells #[.bool true,.string s] 30) 30 #[.bool true,.string t]).alloc (.cells #[.bool false,.string ⟨#[]⟩] 30)).alloc (.cells #[.bool false,.string ⟨#[]⟩] 30)
 have Y3:=(Bx.at2 w (.cells #[.bool true,.string s] 30) (.cells #[.bool true,.string t] 30) 30 #[.bool false,.string ⟨#[]⟩]).alloc (.cells #[.bool false,.string ⟨#[]⟩] 30)
 have Y4:=Bx.at3 w (.cells #[.bool true,.string s] 30) (.cells #[.bool true,.string t] 30) (.cells #[.bool false,.string ⟨#[]⟩] 30) 30 #[.bool false,.string ⟨#[]⟩]
 have hB:=b4 w (.cells #[.bool true,.string s] 30) (.cells #[.bool true,.string t] 30) (.cells #[.bool false,.string ⟨#[]⟩] 30) (.cells #[.bool false,.string ⟨#[]⟩] 30)
 generalize (((w.alloc (.cells #[.bool true,.string s] 30)).alloc (.cells #[.bool true,.string t] 30)).alloc (.cells #[.bool false,.string ⟨#[]⟩] 30)).alloc (.cells #[.bool false,.string ⟨#[]⟩] 30)=w0 at *
 have hl0:=Y1.lt
 have hl1:=Y2.lt
 have hl2:=Y3.lt
 have hl3:=Y4.lt
 refine(cD.out _).mono ?_
 rintro e w1 ⟨rfl,hb⟩
 replace Y1:=Y1.later hb
 replace Y2:=Y2.later hb
 replace Y3:=Y3.later hb
 replace Y4:=Y4.later hb
 replace hB:=nxt hB hb
 clear hb
 obtain⟨p1,p2,p3,p4⟩:=Y1.two
 obtain⟨q1,q2,q3,q4⟩:=Y2.two
 obtain⟨r1,r2,r3,r4⟩:=Y3.two
 obtain⟨s1,s2,s3,s4⟩:=Y4.two
 replace Y1:=Y1.far2 (g':=w.heap.size+2) (i:=0) (j:=1) (by simp) (.bool false) (.string (nstr q))
 replace Y2:=Y2.far2 (g':=w.heap.size+2) (i:=0) (j:=1) (by simp) (.bool false) (.string (nstr q))
 replace Y3:=Y3.set2 (.bool false) (.string (nstr q))
 replace Y4:=Y4.far2 (g':=w.heap.size+2) (i:=0) (j:=1) (by simp) (.bool false) (.string (nstr q))
 replace hB:=st2 hB (Nat.le_add_right w.heap.size 2) (.bool false) (.string (nstr q))
 replace Y1:=Y1.far2 (g':=w.heap.size+3) (i:=0) (j:=1) (by simp) (.bool false) (.string (nstr r))
 replace Y2:=Y2.far2 (g':=w.heap.size+3) (i:=0) (j:=1) (by simp) (.bool false) (.string (nstr r))
 replace Y3:=Y3.far2 (g':=w.heap.size+3) (i:=0) (j:=1) (by simp) (.bool false) (.string (nstr r))
 replace Y4:=Y4.set2 (.bool false) (.string (nstr r))
 replace hB:=st2 hB (Nat.le_add_right w.heap.size 3) (.bool false) (.string (nstr r))
 go_upto_region 6 with(fail)
 generalize ((((w1.setCell ⟨w.heap.size+2,0,none⟩ (.bool false)).setCell ⟨w.heap.size+2,1,none⟩ (.string (nstr q))).setCell ⟨w.heap.size+3,0,none⟩ (.bool false)).setCell ⟨w.heap.size+3,1,none⟩ (.string (nstr r)))=w2 at *
 clear p1 p2 p3 p4 q1 q2 q3 q4 r1 r2 r3 r4 s1 s2 s3 s4
 obtain⟨p1,p2,p3,p4⟩:=Y1.two
 obtain⟨q1,q2,q3,q4⟩:=Y2.two
 obtain⟨r1,r2,r3,r4⟩:=Y3.two
 obtain⟨s1,s2,s3,s4⟩:=Y4.two
 go_region_with
  (first
   | (go_at_call 148;refine(cO.out w2.drew).mono ?_;rintro e wn ⟨rfl,hb'⟩;have hb:=undrew hb';clear hb';obtain⟨u1,u2,u3,u4⟩:=(Y3.later hb).two)
   | (go_at_call 159;refine(cA.out wn).mono ?_;rintro e wm ⟨rfl,hb2⟩;obtain⟨v1,v2,v3,v4⟩:=((Y3.later hb).later hb2).two))
 all_goals
  replace Y1:=Y1.later hb
  replace Y2:=Y2.later hb
  replace Y3:=Y3.later hb
  replace Y4:=Y4.later hb
  replace hB:=nxt hB hb
  clear hb
  replace Y1:=Y1.later hb2
  replace Y2:=Y2.later hb2
  replace Y3:=Y3.later hb2
  replace Y4:=Y4.later hb2
  replace hB:=nxt hB hb2
  clear hb2
  clear p1 p2 p3 p4 q1 q2 q3 q4 r1 r2 r3 r4 s1 s2 s3 s4
  clear u1 u2 u3 u4 v1 v2 v3 v4
  obtain⟨p1,p2,p3,p4⟩:=Y1.two
  obtain⟨q1,q2,q3,q4⟩:=Y2.two
  obtain⟨r1,r2,r3,r4⟩:=Y3.two
  obtain⟨s1,s2,s3,s4⟩:=Y4.two
  replace Y1:=Y1.far2 (g':=w.heap.size+2) (i:=0) (j:=1) (by simp) (.bool (neg ((q:Int)+1))) (.string (mag ((q:Int)+1)))
  replace Y2:=Y2.far2 (g':=w.heap.size+2) (i:=0) (j:=1) (by simp) (.bool (neg ((q:Int)+1))) (.string (mag ((q:Int)+1)))
  replace Y3:=Y3.set2 (.bool (neg ((q:Int)+1))) (.string (mag ((q:Int)+1)))
  replace Y4:=Y4.far2 (g':=w.heap.size+2) (i:=0) (j:=1) (by simp) (.bool (neg ((q:Int)+1))) (.string (mag ((q:Int)+1)))
  replace hB:=st2 hB (Nat.le_add_right w.heap.size 2) (.bool (neg ((q:Int)+1))) (.string (mag ((q:Int)+1)))
  go_wp2_with fail
  generalize (wm.setCell ⟨w.heap.size+2,0,none⟩ (.bool (neg ((q:Int)+1)))).setCell ⟨w.heap.size+2,1,none⟩ (.string (mag ((q:Int)+1)))=w3 at *
  clear p1 p2 p3 p4 q1 q2 q3 q4 r1 r2 r3 r4 s1 s2 s3 s4
  obtain⟨p1,p2,p3,p4⟩:=Y1.two
  obtain⟨q1,q2,q3,q4⟩:=Y2.two
  obtain⟨r1,r2,r3,r4⟩:=Y3.two
  obtain⟨s1,s2,s3,s4⟩:=Y4.two
  go_wp2_with fail
  refine(cS.out _).mono ?_
  rintro e w4 ⟨rfl,hb⟩
  replace Y1:=Y1.later hb
  replace Y2:=Y2.later hb
  replace Y3:=Y3.later hb
  replace Y4:=Y4.later hb
  replace hB:=nxt hB hb
  clear hb
  clear p1 p2 p3 p4 q1 q2 q3 q4 r1 r2 r3 r4 s1 s2 s3 s4
  obtain⟨p1,p2,p3,p4⟩:=Y1.two
  obtain⟨q1,q2,q3,q4⟩:=Y2.two
  obtain⟨r1,r2,r3,r4⟩:=Y3.two
  obtain⟨s1,s2,s3,s4⟩:=Y4.two
  replace Y1:=Y1.far2 (g':=w.heap.size+3) (i:=0) (j:=1) (by simp) (.bool (neg ((sval t:Int)-(r:Int)))) (.string (mag ((sval t:Int)-(r:Int))))
  replace Y2:=Y2.far2 (g':=w.heap.size+3) (i:=0) (j:=1) (by simp) (.bool (neg ((sval t:Int)-(r:Int)))) (.string (mag ((sval t:Int)-(r:Int))))
  replace Y3:=Y3.far2 (g':=w.heap.size+3) (i:=0) (j:=1) (by simp) (.bool (neg ((sval t:Int)-(r:Int)))) (.string (mag ((sval t:Int)-(r:Int))))
  replace Y4:=Y4.set2 (.bool (neg ((sval t:Int)-(r:Int)))) (.string (mag ((sval t:Int)-(r:Int))))
  replace hB:=st2 hB (Nat.le_add_right w.heap.size 3) (.bool (neg ((sval t:Int)-(r:Int)))) (.string (mag ((sval t:Int)-(r:Int))))
  go_wp2_with fail
  generalize (w4.setCell ⟨w.heap.size+3,0,none⟩ (.bool (neg ((sval t:Int)-(r:Int))))).setCell ⟨w.heap.size+3,1,none⟩ (.string (mag ((sval t:Int)-(r:Int))))=w6 at *
  clear p1 p2 p3 p4 q1 q2 q3 q4 r1 r2 r3 r4 s1 s2 s3 s4
  obtain⟨p1,p2,p3,p4⟩:=Y1.two
  obtain⟨q1,q2,q3,q4⟩:=Y2.two
  obtain⟨r1,r2,r3,r4⟩:=Y3.two
  obtain⟨s1,s2,s3,s4⟩:=Y4.two
  go_region_with
   (go_at_call 129;refine(cF.out w6.drew).mono ?_;rintro e wz ⟨rfl,hb'⟩;have hz:=undrew hb';clear hb';obtain⟨u1,u2,u3,u4⟩:=(Y3.later hz).two;obtain⟨v1,v2,v3,v4⟩:=(Y4.later hz).two)
  all_goals
   go_wp2
   exact bodyPost_ret (v:=.tuple #[.agg #[.bool (neg ((q:Int)+1)),.string (mag ((q:Int)+1))],.agg #[.bool (neg ((sval t:Int)-(r:Int))),.string (mag ((sval t:Int)-(r:Int)))],.bool true]) (by simp[results,Tryz.results154,go_sem,(((Y3.later hz).set2 (.bool (neg ((q:Int)+1))) (.string (mag ((q:Int)+1)))).far2 (g':=w.heap.size+3) (i:=0) (j:=1) (by simp) (.bool (neg ((sval t:Int)-(r:Int)))) (.string (mag ((sval t:Int)-(r:Int))))).cel,(((Y4.later hz).far2 (g':=w.heap.size+2) (i:=0) (j:=1) (by simp) (.bool (neg ((q:Int)+1))) (.string (mag ((q:Int)+1)))).set2 (.bool (neg ((sval t:Int)-(r:Int)))) (.string (mag ((sval t:Int)-(r:Int))))).cel]) rfl ⟨rfl,st2 (st2 (nxt hB hz) (Nat.le_add_right _ 2) _ _) (Nat.le_add_right _ 3) _ _⟩
set_option maxHeartbeats 4000000 in
theorem wDiv_tf1(s t:ByteArray)(q r:Nat)(w:World)(hs:s.size≤536870912)(ht:t.size≤536870912)(hv:0<sval t)(hq:q=sval s / sval t)(hr0:r=sval s % sval t)(hr:r≠0):
  Calls Tryz.prog 154 #[.agg #[.bool true,.string s],.agg #[.bool false,.string t]] w fun e w'=>e=.returned (.tuple #[.agg #[.bool (neg (-((q:Int)+1))),.string (mag (-((q:Int)+1)))],.agg #[.bool (neg ((sval t:Int)-(r:Int))),.string (mag ((sval t:Int)-(r:Int)))],.bool true])∧Below w.heap.size w w':=by
 have hqs:(nstr q).size≤536870912:=by
  rw[← mag_nat,mag_size,hq];exact Nat.le_trans (bsz_natAbs_le (y:=ival false (sval s)) (by rw[ival_natAbs,Int.natAbs_natCast];exact Nat.div_le_self _ _)) (Nat.le_trans (bsz_ival _ _) hs)
 have he:(nstr r).toList.isEmpty=false:=by
  rw[List.isEmpty_eq_false_iff];exact fun h=>hr (nstr_empty.1 h)
 have hrs:(nstr r).size≤536870912:=by
  rw[← mag_nat,mag_size,hr0];exact Nat.le_trans (bsz_natAbs_le (y:=ival false (sval t)) (by rw[ival_natAbs,Int.natAbs_natCast];exact Nat.le_of_lt (Nat.mod_lt _ hv))) (Nat.le_trans (bsz_ival _ _) ht)
 have cO:=Lib.hid (fun W=>wOf_any 1 W (by decide) (by decide))
 have cA:=Lib.hid (fun W=>wAdd2_any (nstr q) (mag 1) false (neg 1) W hqs (by decide))
 rw[sval_nstr,ival_mk,ival_false]at cA
 have cS:=Lib.hid (fun W=>wSub_any t (nstr r) false false W ht hrs)
 rw[sval_nstr,ival_false,ival_false]at cS
 clear hr hrs
 have cN:=Lib.hid (fun W=>wNeg_any (mag ((q:Int)+1)) (neg ((q:Int)+1)) W)
 rw[ival_mk]at cN
 have cF:=Lib.hid (fun W=>wForm_any (mag (-((q:Int)+1))) (neg (-((q:Int)+1))) W)
 rw[ival_mk]at cF
 have cD:=Lib.hid (fun W=>nDiv_any s t W (by omega) (by omega))
 simp only[if_neg (Nat.ne_of_gt hv),← hq,← hr0]at cD
 clear hv hqs hq hr0
 go_enter Tryz.func154,Tryz.ntmps154
 go_wp2_with fail
 have Y1:=(((Bx.new w 30 #[.bool true,.string s]).alloc (.cells #[.bool false,.string t] 30)).alloc (.cells #[.bool false,.string ⟨#[]⟩] 30)).alloc (.cells #[.bool false,.string ⟨#[]⟩] 30)
 have Y2:=((Bx.at1 w (.cells #[.bool true,.string s] 30) 30 #[.bool false,.string t]).alloc (.cells #[.bool false,.string ⟨#[]⟩] 30)).alloc (.cells #[.bool false,.string ⟨#[]⟩] 30)
 have Y3:=(Bx.at2 w (.cells #[.bool true,.string s] 30) (.cells #[.bool false,.string t] 30) 30 #[.bool false,.string ⟨#[]⟩]).alloc (.cells #[.bool false,.string ⟨#[]⟩] 30)
 have Y4:=Bx.at3 w (.cells #[.bool true,.string s] 30) (.cells #[.bool false,.string t] 30) (.cells #[.bool false,.string ⟨#[]⟩] 30) 30 #[.bool false,.string ⟨#[]⟩]
 have hB:=b4 w (.cells #[.bool true,.string s] 30) (.cells #[.bool false,.string t] 30) (.cells #[.bool false,.string ⟨#[]⟩] 30) (.cells #[.bool false,.string ⟨#[]⟩] 30)
 generalize (((w.alloc (.cells #[.bool true,.string s] 30)).alloc (.cells #[.bool false,.string t] 30)).alloc (.cells #[.bool false,.string ⟨#[]⟩] 30)).alloc (.cells #[.bool false,.string ⟨#[]⟩] 30)=w0 at *
 have hl0:=Y1.lt
 have hl1:=Y2.lt
 have hl2:=Y3.lt
 have hl3:=Y4.lt
 refine(cD.out _).mono ?_
 rintro e w1 ⟨rfl,hb⟩
 replace Y1:=Y1.later hb
 replace Y2:=Y2.later hb
 replace Y3:=Y3.later hb
 replace Y4:=Y4.later hb
 replace hB:=nxt hB hb
 clear hb
 obtain⟨p1,p2,p3,p4⟩:=Y1.two
 obtain⟨q1,q2,q3,q4⟩:=Y2.two
 obtain⟨r1,r2,r3,r4⟩:=Y3.two
 obtain⟨s1,s2,s3,s4⟩:=Y4.two
 replace Y1:=Y1.far2 (g':=w.heap.size+2) (i:=0) (j:=1) (by simp) (.bool false) (.string (nstr q))
 replace Y2:=Y2.far2 (g':=w.heap.size+2) (i:=0) (j:=1) (by simp) (.bool false) (.string (nstr q))
 replace Y3:=Y3.set2 (.bool false) (.string (nstr q))
 replace Y4:=Y4.far2 (g':=w.heap.size+2) (i:=0) (j:=1) (by simp) (.bool false) (.string (nstr q))
 replace hB:=st2 hB (Nat.le_add_right w.heap.size 2) (.bool false) (.string (nstr q))
 replace Y1:=Y1.far2 (g':=w.heap.size+3) (i:=0) (j:=1) (by simp) (.bool false) (.string (nstr r))
 replace Y2:=Y2.far2 (g':=w.heap.size+3) (i:=0) (j:=1) (by simp) (.bool false) (.string (nstr r))
 replace Y3:=Y3.far2 (g':=w.heap.size+3) (i:=0) (j:=1) (by simp) (.bool false) (.string (nstr r))
 replace Y4:=Y4.set2 (.bool false) (.string (nstr r))
 replace hB:=st2 hB (Nat.le_add_right w.heap.size 3) (.bool false) (.string (nstr r))
 go_upto_region 6 with(fail)
 generalize ((((w1.setCell ⟨w.heap.size+2,0,none⟩ (.bool false)).setCell ⟨w.heap.size+2,1,none⟩ (.string (nstr q))).setCell ⟨w.heap.size+3,0,none⟩ (.bool false)).setCell ⟨w.heap.size+3,1,none⟩ (.string (nstr r)))=w2 at *
 clear p1 p2 p3 p4 q1 q2 q3 q4 r1 r2 r3 r4 s1 s2 s3 s4
 obtain⟨p1,p2,p3,p4⟩:=Y1.two
 obtain⟨q1,q2,q3,q4⟩:=Y2.two
 obtain⟨r1,r2,r3,r4⟩:=Y3.two
 obtain⟨s1,s2,s3,s4⟩:=Y4.two
 go_region_with
  (first
   | (go_at_call 148;refine(cO.out w2.drew).mono ?_;rintro e wn ⟨rfl,hb'⟩;have hb:=undrew hb';clear hb';obtain⟨u1,u2,u3,u4⟩:=(Y3.later hb).two)
   | (go_at_call 159;refine(cA.out wn).mono ?_;rintro e wm ⟨rfl,hb2⟩;obtain⟨v1,v2,v3,v4⟩:=((Y3.later hb).later hb2).two))
 all_goals
  replace Y1:=Y1.later hb
  replace Y2:=Y2.later hb
  replace Y3:=Y3.later hb
  replace Y4:=Y4.later hb
  replace hB:=nxt hB hb
  clear hb
  replace Y1:=Y1.later hb2
  replace Y2:=Y2.later hb2
  replace Y3:=Y3.later hb2
  replace Y4:=Y4.later hb2
  replace hB:=nxt hB hb2
  clear hb2
  clear p1 p2 p3 p4 q1 q2 q3 q4 r1 r2 r3 r4 s1 s2 s3 s4
  clear u1 u2 u3 u4 v1 v2 v3 v4
  obtain⟨p1,p2,p3,p4⟩:=Y1.two
  obtain⟨q1,q2,q3,q4⟩:=Y2.two
  obtain⟨r1,r2,r3,r4⟩:=Y3.two
  obtain⟨s1,s2,s3,s4⟩:=Y4.two
  replace Y1:=Y1.far2 (g':=w.heap.size+2) (i:=0) (j:=1) (by simp) (.bool (neg ((q:Int)+1))) (.string (mag ((q:Int)+1)))
  replace Y2:=Y2.far2 (g':=w.heap.size+2) (i:=0) (j:=1) (by simp) (.bool (neg ((q:Int)+1))) (.string (mag ((q:Int)+1)))
  replace Y3:=Y3.set2 (.bool (neg ((q:Int)+1))) (.string (mag ((q:Int)+1)))
  replace Y4:=Y4.far2 (g':=w.heap.size+2) (i:=0) (j:=1) (by simp) (.bool (neg ((q:Int)+1))) (.string (mag ((q:Int)+1)))
  replace hB:=st2 hB (Nat.le_add_right w.heap.size 2) (.bool (neg ((q:Int)+1))) (.string (mag ((q:Int)+1)))
  go_wp2_with fail
  generalize (wm.setCell ⟨w.heap.size+2,0,none⟩ (.bool (neg ((q:Int)+1)))).setCell ⟨w.heap.size+2,1,none⟩ (.string (mag ((q:Int)+1)))=w3 at *
  clear p1 p2 p3 p4 q1 q2 q3 q4 r1 r2 r3 r4 s1 s2 s3 s4
  obtain⟨p1,p2,p3,p4⟩:=Y1.two
  obtain⟨q1,q2,q3,q4⟩:=Y2.two
  obtain⟨r1,r2,r3,r4⟩:=Y3.two
  obtain⟨s1,s2,s3,s4⟩:=Y4.two
  go_wp2_with fail
  refine(cS.out _).mono ?_
  rintro e w4 ⟨rfl,hb⟩
  replace Y1:=Y1.later hb
  replace Y2:=Y2.later hb
  replace Y3:=Y3.later hb
  replace Y4:=Y4.later hb
  replace hB:=nxt hB hb
  clear hb
  clear p1 p2 p3 p4 q1 q2 q3 q4 r1 r2 r3 r4 s1 s2 s3 s4
  obtain⟨p1,p2,p3,p4⟩:=Y1.two
  obtain⟨q1,q2,q3,q4⟩:=Y2.two
  obtain⟨r1,r2,r3,r4⟩:=Y3.two
  obtain⟨s1,s2,s3,s4⟩:=Y4.two
  replace Y1:=Y1.far2 (g':=w.heap.size+3) (i:=0) (j:=1) (by simp) (.bool (neg ((sval t:Int)-(r:Int)))) (.string (mag ((sval t:Int)-(r:Int))))
  replace Y2:=Y2.far2 (g':=w.heap.size+3) (i:=0) (j:=1) (by simp) (.bool (neg ((sval t:Int)-(r:Int)))) (.string (mag ((sval t:Int)-(r:Int))))
  replace Y3:=Y3.far2 (g':=w.heap.size+3) (i:=0) (j:=1) (by simp) (.bool (neg ((sval t:Int)-(r:Int)))) (.string (mag ((sval t:Int)-(r:Int))))
  replace Y4:=Y4.set2 (.bool (neg ((sval t:Int)-(r:Int)))) (.string (mag ((sval t:Int)-(r:Int))))
  replace hB:=st2 hB (Nat.le_add_right w.heap.size 3) (.bool (neg ((sval t:Int)-(r:Int)))) (.string (mag ((sval t:Int)-(r:Int))))
  go_wp2_with fail
  refine(cN.out _).mono ?_
  rintro e w5 ⟨rfl,hb⟩
  replace Y1:=Y1.later hb
  replace Y2:=Y2.later hb
  replace Y3:=Y3.later hb
  replace Y4:=Y4.later hb
  replace hB:=nxt hB hb
  clear hb
  clear p1 p2 p3 p4 q1 q2 q3 q4 r1 r2 r3 r4 s1 s2 s3 s4
  obtain⟨p1,p2,p3,p4⟩:=Y1.two
  obtain⟨q1,q2,q3,q4⟩:=Y2.two
  obtain⟨r1,r2,r3,r4⟩:=Y3.two
  obtain⟨s1,s2,s3,s4⟩:=Y4.two
  replace Y1:=Y1.far2 (g':=w.heap.size+2) (i:=0) (j:=1) (by simp) (.bool (neg (-((q:Int)+1)))) (.string (mag (-((q:Int)+1))))
  replace Y2:=Y2.far2 (g':=w.heap.size+2) (i:=0) (j:=1) (by simp) (.bool (neg (-((q:Int)+1)))) (.string (mag (-((q:Int)+1))))
  replace Y3:=Y3.set2 (.bool (neg (-((q:Int)+1)))) (.string (mag (-((q:Int)+1))))
  replace Y4:=Y4.far2 (g':=w.heap.size+2) (i:=0) (j:=1) (by simp) (.bool (neg (-((q:Int)+1)))) (.string (mag (-((q:Int)+1))))
  replace hB:=st2 hB (Nat.le_add_right w.heap.size 2) (.bool (neg (-((q:Int)+1)))) (.string (mag (-((q:Int)+1))))
  go_wp2_with fail
  generalize (w5.setCell ⟨w.heap.size+2,0,none⟩ (.bool (neg (-((q:Int)+1))))).setCell ⟨w.heap.size+2,1,none⟩ (.string (mag (-((q:Int)+1))))=w6 at *
  clear p1 p2 p3 p4 q1 q2 q3 q4 r1 r2 r3 r4 s1 s2 s3 s4
  obtain⟨p1,p2,p3,p4⟩:=Y1.two
  obtain⟨q1,q2,q3,q4⟩:=Y2.two
  obtain⟨r1,r2,r3,r4⟩:=Y3.two
  obtain⟨s1,s2,s3,s4⟩:=Y4.two
  go_region_with
   (go_at_call 129;refine(cF.out w6.drew).mono ?_;rintro e wz ⟨rfl,hb'⟩;have hz:=undrew hb';clear hb';obtain⟨u1,u2,u3,u4⟩:=(Y3.later hz).two;obtain⟨v1,v2,v3,v4⟩:=(Y4.later hz).two)
  all_goals
   go_wp2
   exact bodyPost_ret (v:=.tuple #[.agg #[.bool (neg (-((q:Int)+1))),.string (mag (-((q:Int)+1)))],.agg #[.bool (neg ((sval t:Int)-(r:Int))),.string (mag ((sval t:Int)-(r:Int)))],.bool true]) (by simp[results,Tryz.results154,go_sem,(((Y3.later hz).set2 (.bool (neg (-((q:Int)+1)))) (.string (mag (-((q:Int)+1))))).far2 (g':=w.heap.size+3) (i:=0) (j:=1) (by simp) (.bool (neg ((sval t:Int)-(r:Int)))) (.string (mag ((sval t:Int)-(r:Int))))).cel,(((Y4.later hz).far2 (g':=w.heap.size+2) (i:=0) (j:=1) (by simp) (.bool (neg (-((q:Int)+1)))) (.string (mag (-((q:Int)+1))))).set2 (.bool (neg ((sval t:Int)-(r:Int)))) (.string (mag ((sval t:Int)-(r:Int))))).cel]) rfl ⟨rfl,st2 (st2 (nxt hB hz) (Nat.le_add_right _ 2) _ _) (Nat.le_add_right _ 3) _ _⟩
theorem wDiv_any(s t:ByteArray)(b b':Bool)(w:World)(hs:s.size≤536870912)(ht:t.size≤536870912):
  Calls Tryz.prog 154 #[.agg #[.bool b,.string s],.agg #[.bool b',.string t]] w fun e w'=>e=.returned (if sval t=0 then .tuple #[.agg #[.bool false,.string ⟨#[]⟩],.agg #[.bool false,.string ⟨#[]⟩],.bool false]else .tuple #[.agg #[.bool (neg (ival b (sval s) / ival b' (sval t))),.string (mag (ival b (sval s) / ival b' (sval t)))],.agg #[.bool (neg (ival b (sval s) % ival b' (sval t))),.string (mag (ival b (sval s) % ival b' (sval t)))],.bool true])∧Below w.heap.size w w':=by
 by_cases h0:sval t=0
 ·rw[if_pos h0];exact wDiv_zero s t b b' w hs ht h0
 ·rw[if_neg h0]
  have hv:0<sval t:=by omega
  obtain⟨e1,e2⟩:=div_signs b b' (sval s) (sval t) hv
  have hlt:=Nat.mod_lt (sval s) hv
  rw[e1,e2]
  clear e1 e2
  cases b
  ·rw[if_neg (by simp),if_neg (by simp)]
   cases b'
   ·exact wDiv_ff0 s t _ _ w hs ht hv rfl rfl
   ·exact wDiv_ft0 s t _ _ w hs ht hv rfl rfl
  ·by_cases hr:sval s % sval t=0
   ·rw[if_neg (by simp[hr]),if_neg (by simp[hr])]
    cases b'
    ·exact wDiv_tf0 s t _ _ w hs ht hv rfl rfl hr
    ·exact wDiv_tt0 s t _ _ w hs ht hv rfl rfl hr
   ·rw[if_pos ⟨rfl,hr⟩,if_pos ⟨rfl,hr⟩]
    have e3:((sval t-sval s % sval t:Nat):Int)=(sval t:Int)-((sval s % sval t:Nat):Int):=by omega
    have e4:((sval s / sval t+1:Nat):Int)=((sval s / sval t:Nat):Int)+1:=Int.natCast_succ _
    rw[e3]
    cases b'
    ·have e5:ival (true != false) (sval s / sval t+1)=-(((sval s / sval t:Nat):Int)+1):=by rw[← e4];rfl
     rw[e5]
     exact wDiv_tf1 s t _ _ w hs ht hv rfl rfl hr
    ·have e5:ival (true != true) (sval s / sval t+1)=((sval s / sval t:Nat):Int)+1:=by rw[← e4];rfl
     rw[e5]
     exact wDiv_tt1 s t _ _ w hs ht hv rfl rfl hr
