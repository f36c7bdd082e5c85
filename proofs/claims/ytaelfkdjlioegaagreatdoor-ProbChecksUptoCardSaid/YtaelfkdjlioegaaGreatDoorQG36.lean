/- The walks and plain laws beneath the statements. -/
import Derived.Test.YtaelfkdjlioegaaGreatDoorQG24
import Derived.RegionTactic
namespace Go.Proofs.YtaelfkdjlioegaaGreatDoor
open Tryz
set_option maxHeartbeats 4000000
set_option maxRecDepth 100000
open Go.RowKit
theorem RE(v:Nat): neg (v:Int)=false:=Lk (by omega)
theorem AW(v:Nat): Qh (v:Int)=Qx v:=by unfold Qh;rw[Tw]
theorem Ev(v:Nat): Qb false v=(v:Int):=rfl
theorem RW(s t:ByteArray)(q r:Nat)(b:Bool)(w:World)(hs:s.size≤536870912)(ht:t.size≤536870912)(hv:0<Qa t)(hq:q=Qa s / Qa t)(hr0:r=Qa s % Qa t)(hr:r=0):
  Calls prog 154 #[.agg #[.bool b,.string s],.agg #[.bool b,.string t]] w fun e w'=>e=.returned (.tuple #[.agg #[.bool (neg ((q:Int))),.string (Qh ((q:Int)))],.agg #[.bool (neg ((r:Int))),.string (Qh ((r:Int)))],.bool true])∧Below w.heap.size w w':=by
 have hqs:(Qx q).size≤536870912:=by
  rw[← AW,QM,hq];exact L8 (X9 (y:=Qb false (Qa s)) (by rw[Q0,Tw];exact Rl _ _)) (L8 (XJ _ _) hs)
 have he:(Qx r).toList=[]:=nstr_empty.2 hr
 clear hr
 have cF:=Lib.hid (fun W=>BB (Qx q) false W)
 rw[XB,Ev]at cF
 have cD:=Lib.hid (fun W=>Mw s t W (by omega) (by omega))
 simp only[if_neg (Nat.ne_of_gt hv),← hq,← hr0]at cD
 clear hv hqs hq hr0
 obtain⟨V,hV⟩:∃V:Value,V=.bool b:=⟨_,rfl⟩
 rw[← hV]
 replace hV:=Lib.hid hV
 go_enter func154,ntmps154
 go_wp2_with fail
 have Y1:=(((Bx.new w 30 #[V,.string s]).alloc (.cells #[V,.string t] 30)).alloc (.cells #[.bool false,.string ⟨#[]⟩] 30)).alloc (.cells #[.bool false,.string ⟨#[]⟩] 30)
 have Y2:=((Bx.at1 w (.cells #[V,.string s] 30) 30 #[V,.string t]).alloc (.cells #[.bool false,.string ⟨#[]⟩] 30)).alloc (.cells #[.bool false,.string ⟨#[]⟩] 30)
 have Y3:=(Bx.at2 w (.cells #[V,.string s] 30) (.cells #[V,.string t] 30) 30 #[.bool false,.string ⟨#[]⟩]).alloc (.cells #[.bool false,.string ⟨#[]⟩] 30)
 have Y4:=Bx.at3 w (.cells #[V,.string s] 30) (.cells #[V,.string t] 30) (.cells #[.bool false,.string ⟨#[]⟩] 30) 30 #[.bool false,.string ⟨#[]⟩]
 have hB:=b4 w (.cells #[V,.string s] 30) (.cells #[V,.string t] 30) (.cells #[.bool false,.string ⟨#[]⟩] 30) (.cells #[.bool false,.string ⟨#[]⟩] 30)
 generalize (((w.alloc (.cells #[V,.string s] 30)).alloc (.cells #[V,.string t] 30)).alloc (.cells #[.bool false,.string ⟨#[]⟩] 30)).alloc (.cells #[.bool false,.string ⟨#[]⟩] 30)=w0 at *
 have hl0:=Y1.lt
 have hl1:=Y2.lt
 have hl2:=Y3.lt
 have hl3:=Y4.lt
 refine(cD.out _).mono ?_
 rintro e w1 ⟨rfl,hb⟩
 replace Y1:=Y1.later hb
 replace Y2:=Y2.later hb
 replace Y3:=Y3.later hb
 replace Y4:=Y4.later hb
 replace hB:=nxt hB hb
 clear hb
 obtain⟨p1,p2,p3,p4⟩:=Y1.two
 obtain⟨q1,q2,q3,q4⟩:=Y2.two
 obtain⟨r1,r2,r3,r4⟩:=Y3.two
 obtain⟨s1,s2,s3,s4⟩:=Y4.two
 replace Y1:=Y1.far2 (g':=w.heap.size+2) (i:=0) (j:=1) (by simp) (.bool false) (.string (Qx q))
 replace Y2:=Y2.far2 (g':=w.heap.size+2) (i:=0) (j:=1) (by simp) (.bool false) (.string (Qx q))
 replace Y3:=Y3.set2 (.bool false) (.string (Qx q))
 replace Y4:=Y4.far2 (g':=w.heap.size+2) (i:=0) (j:=1) (by simp) (.bool false) (.string (Qx q))
 replace hB:=Kq hB (Lf w.heap.size 2) (.bool false) (.string (Qx q))
 replace Y1:=Y1.far2 (g':=w.heap.size+3) (i:=0) (j:=1) (by simp) (.bool false) (.string (Qx r))
 replace Y2:=Y2.far2 (g':=w.heap.size+3) (i:=0) (j:=1) (by simp) (.bool false) (.string (Qx r))
 replace Y3:=Y3.far2 (g':=w.heap.size+3) (i:=0) (j:=1) (by simp) (.bool false) (.string (Qx r))
 replace Y4:=Y4.set2 (.bool false) (.string (Qx r))
 replace hB:=Kq hB (Lf w.heap.size 3) (.bool false) (.string (Qx r))
 have hV:=hV.out
 subst hV
 cases b
 all_goals
  go_wp2_with fail
  generalize ((((w1.setCell ⟨w.heap.size+2,0,none⟩ (.bool false)).setCell ⟨w.heap.size+2,1,none⟩ (.string (Qx q))).setCell ⟨w.heap.size+3,0,none⟩ (.bool false)).setCell ⟨w.heap.size+3,1,none⟩ (.string (Qx r)))=w2 at *
  clear p1 p2 p3 p4 q1 q2 q3 q4 r1 r2 r3 r4 s1 s2 s3 s4
  obtain⟨p1,p2,p3,p4⟩:=Y1.two
  obtain⟨q1,q2,q3,q4⟩:=Y2.two
  obtain⟨r1,r2,r3,r4⟩:=Y3.two
  obtain⟨s1,s2,s3,s4⟩:=Y4.two
  go_region_with
   (go_at_call 129;refine(cF.out w2.drew).mono ?_;rintro e wz ⟨rfl,hb'⟩;have hz:=KJ hb';clear hb';obtain⟨u1,u2,u3,u4⟩:=(Y3.later hz).two;obtain⟨v1,v2,v3,v4⟩:=(Y4.later hz).two)
  all_goals
   go_wp2
   exact bodyPost_ret (v:=.tuple #[.agg #[.bool (neg ((q:Int))),.string (Qh ((q:Int)))],.agg #[.bool false,.string (Qx r)],.bool true]) (by simp[results,results154,go_sem,(((Y3.later hz).set2 (.bool (neg ((q:Int)))) (.string (Qh ((q:Int))))).far2 (g':=w.heap.size+3) (i:=0) (j:=1) (by simp) (.bool false) (.string (Qx r))).cel,(((Y4.later hz).far2 (g':=w.heap.size+2) (i:=0) (j:=1) (by simp) (.bool (neg ((q:Int)))) (.string (Qh ((q:Int))))).set2 (.bool false) (.string (Qx r))).cel]) rfl ⟨by simp only[RE,AW],Kq (Kq (nxt hB hz) (Lf _ 2) _ _) (Lf _ 3) _ _⟩
theorem TG(s t:ByteArray)(q r:Nat)(b:Bool)(w:World)(hs:s.size≤536870912)(ht:t.size≤536870912)(hv:0<Qa t)(hq:q=Qa s / Qa t)(hr0:r=Qa s % Qa t)(hr:r=0):
  Calls prog 154 #[.agg #[.bool b,.string s],.agg #[.bool (!b),.string t]] w fun e w'=>e=.returned (.tuple #[.agg #[.bool (neg (-((q:Int)))),.string (Qh (-((q:Int))))],.agg #[.bool (neg ((r:Int))),.string (Qh ((r:Int)))],.bool true])∧Below w.heap.size w w':=by
 have hqs:(Qx q).size≤536870912:=by
  rw[← AW,QM,hq];exact L8 (X9 (y:=Qb false (Qa s)) (by rw[Q0,Tw];exact Rl _ _)) (L8 (XJ _ _) hs)
 have he:(Qx r).toList=[]:=nstr_empty.2 hr
 clear hr
 have cN:=Lib.hid (fun W=>Bh (Qx q) false W)
 rw[XB,Ev]at cN
 have cF:=Lib.hid (fun W=>BB (Qh (-((q:Int)))) (neg (-((q:Int)))) W)
 rw[QR]at cF
 have cD:=Lib.hid (fun W=>Mw s t W (by omega) (by omega))
 simp only[if_neg (Nat.ne_of_gt hv),← hq,← hr0]at cD
 clear hv hqs hq hr0
 obtain⟨V,hV⟩:∃V:Value,V=.bool b:=⟨_,rfl⟩
 obtain⟨V',hV'⟩:∃V:Value,V=.bool (!b):=⟨_,rfl⟩
 rw[← hV']
 rw[← hV]
 replace hV:=Lib.hid hV
 replace hV':=Lib.hid hV'
 go_enter func154,ntmps154
 go_wp2_with fail
 have Y1:=(((Bx.new w 30 #[V,.string s]).alloc (.cells #[V',.string t] 30)).alloc (.cells #[.bool false,.string ⟨#[]⟩] 30)).alloc (.cells #[.bool false,.string ⟨#[]⟩] 30)
 have Y2:=((Bx.at1 w (.cells #[V,.string s] 30) 30 #[V',.string t]).alloc (.cells #[.bool false,.string ⟨#[]⟩] 30)).alloc (.cells #[.bool false,.string ⟨#[]⟩] 30)
 have Y3:=(Bx.at2 w (.cells #[V,.string s] 30) (.cells #[V',.string t] 30) 30 #[.bool false,.string ⟨#[]⟩]).alloc (.cells #[.bool false,.string ⟨#[]⟩] 30)
 have Y4:=Bx.at3 w (.cells #[V,.string s] 30) (.cells #[V',.string t] 30) (.cells #[.bool false,.string ⟨#[]⟩] 30) 30 #[.bool false,.string ⟨#[]⟩]
 have hB:=b4 w (.cells #[V,.string s] 30) (.cells #[V',.string t] 30) (.cells #[.bool false,.string ⟨#[]⟩] 30) (.cells #[.bool false,.string ⟨#[]⟩] 30)
 generalize (((w.alloc (.cells #[V,.string s] 30)).alloc (.cells #[V',.string t] 30)).alloc (.cells #[.bool false,.string ⟨#[]⟩] 30)).alloc (.cells #[.bool false,.string ⟨#[]⟩] 30)=w0 at *
 have hl0:=Y1.lt
 have hl1:=Y2.lt
 have hl2:=Y3.lt
 have hl3:=Y4.lt
 refine(cD.out _).mono ?_
 rintro e w1 ⟨rfl,hb⟩
 replace Y1:=Y1.later hb
 replace Y2:=Y2.later hb
 replace Y3:=Y3.later hb
 replace Y4:=Y4.later hb
 replace hB:=nxt hB hb
 clear hb
 obtain⟨p1,p2,p3,p4⟩:=Y1.two
 obtain⟨q1,q2,q3,q4⟩:=Y2.two
 obtain⟨r1,r2,r3,r4⟩:=Y3.two
 obtain⟨s1,s2,s3,s4⟩:=Y4.two
 replace Y1:=Y1.far2 (g':=w.heap.size+2) (i:=0) (j:=1) (by simp) (.bool false) (.string (Qx q))
 replace Y2:=Y2.far2 (g':=w.heap.size+2) (i:=0) (j:=1) (by simp) (.bool false) (.string (Qx q))
 replace Y3:=Y3.set2 (.bool false) (.string (Qx q))
 replace Y4:=Y4.far2 (g':=w.heap.size+2) (i:=0) (j:=1) (by simp) (.bool false) (.string (Qx q))
 replace hB:=Kq hB (Lf w.heap.size 2) (.bool false) (.string (Qx q))
 replace Y1:=Y1.far2 (g':=w.heap.size+3) (i:=0) (j:=1) (by simp) (.bool false) (.string (Qx r))
 replace Y2:=Y2.far2 (g':=w.heap.size+3) (i:=0) (j:=1) (by simp) (.bool false) (.string (Qx r))
 replace Y3:=Y3.far2 (g':=w.heap.size+3) (i:=0) (j:=1) (by simp) (.bool false) (.string (Qx r))
 replace Y4:=Y4.set2 (.bool false) (.string (Qx r))
 replace hB:=Kq hB (Lf w.heap.size 3) (.bool false) (.string (Qx r))
 have hV:=hV.out
 have hV':=hV'.out
 subst hV'
 subst hV
 cases b
 all_goals
  go_wp2_with fail
  generalize ((((w1.setCell ⟨w.heap.size+2,0,none⟩ (.bool false)).setCell ⟨w.heap.size+2,1,none⟩ (.string (Qx q))).setCell ⟨w.heap.size+3,0,none⟩ (.bool false)).setCell ⟨w.heap.size+3,1,none⟩ (.string (Qx r)))=w2 at *
  clear p1 p2 p3 p4 q1 q2 q3 q4 r1 r2 r3 r4 s1 s2 s3 s4
  obtain⟨p1,p2,p3,p4⟩:=Y1.two
  obtain⟨q1,q2,q3,q4⟩:=Y2.two
  obtain⟨r1,r2,r3,r4⟩:=Y3.two
  obtain⟨s1,s2,s3,s4⟩:=Y4.two
  refine(cN.out _).mono ?_
  rintro e w5 ⟨rfl,hb⟩
  replace Y1:=Y1.later hb
  replace Y2:=Y2.later hb
  replace Y3:=Y3.later hb
  replace Y4:=Y4.later hb
  replace hB:=nxt hB hb
  clear hb
  clear p1 p2 p3 p4 q1 q2 q3 q4 r1 r2 r3 r4 s1 s2 s3 s4
  obtain⟨p1,p2,p3,p4⟩:=Y1.two
  obtain⟨q1,q2,q3,q4⟩:=Y2.two
  obtain⟨r1,r2,r3,r4⟩:=Y3.two
  obtain⟨s1,s2,s3,s4⟩:=Y4.two
  replace Y1:=Y1.far2 (g':=w.heap.size+2) (i:=0) (j:=1) (by simp) (.bool (neg (-((q:Int))))) (.string (Qh (-((q:Int)))))
  replace Y2:=Y2.far2 (g':=w.heap.size+2) (i:=0) (j:=1) (by simp) (.bool (neg (-((q:Int))))) (.string (Qh (-((q:Int)))))
  replace Y3:=Y3.set2 (.bool (neg (-((q:Int))))) (.string (Qh (-((q:Int)))))
  replace Y4:=Y4.far2 (g':=w.heap.size+2) (i:=0) (j:=1) (by simp) (.bool (neg (-((q:Int))))) (.string (Qh (-((q:Int)))))
  replace hB:=Kq hB (Lf w.heap.size 2) (.bool (neg (-((q:Int))))) (.string (Qh (-((q:Int)))))
  go_wp2_with fail
  generalize (w5.setCell ⟨w.heap.size+2,0,none⟩ (.bool (neg (-((q:Int)))))).setCell ⟨w.heap.size+2,1,none⟩ (.string (Qh (-((q:Int)))))=w6 at *
  clear p1 p2 p3 p4 q1 q2 q3 q4 r1 r2 r3 r4 s1 s2 s3 s4
  obtain⟨p1,p2,p3,p4⟩:=Y1.two
  obtain⟨q1,q2,q3,q4⟩:=Y2.two
  obtain⟨r1,r2,r3,r4⟩:=Y3.two
  obtain⟨s1,s2,s3,s4⟩:=Y4.two
  go_region_with
   (go_at_call 129;refine(cF.out w6.drew).mono ?_;rintro e wz ⟨rfl,hb'⟩;have hz:=KJ hb';clear hb';obtain⟨u1,u2,u3,u4⟩:=(Y3.later hz).two;obtain⟨v1,v2,v3,v4⟩:=(Y4.later hz).two)
  all_goals
   go_wp2
   exact bodyPost_ret (v:=.tuple #[.agg #[.bool (neg (-((q:Int)))),.string (Qh (-((q:Int))))],.agg #[.bool false,.string (Qx r)],.bool true]) (by simp[results,results154,go_sem,(((Y3.later hz).set2 (.bool (neg (-((q:Int))))) (.string (Qh (-((q:Int)))))).far2 (g':=w.heap.size+3) (i:=0) (j:=1) (by simp) (.bool false) (.string (Qx r))).cel,(((Y4.later hz).far2 (g':=w.heap.size+2) (i:=0) (j:=1) (by simp) (.bool (neg (-((q:Int))))) (.string (Qh (-((q:Int)))))).set2 (.bool false) (.string (Qx r))).cel]) rfl ⟨by simp only[RE,AW],Kq (Kq (nxt hB hz) (Lf _ 2) _ _) (Lf _ 3) _ _⟩
theorem iC{x y:Int}(W:World)(hx:Yj x≤536870912)(hy:Yj y≤536870912)(h0:y≠0)(hm:x % y=0):
  Calls prog 154 #[.agg #[.bool (neg x),.string (Qh x)],.agg #[.bool (neg y),.string (Qh y)]] W fun e w'=>e=.returned (.tuple #[.agg #[.bool (neg (x / y)),.string (Qh (x / y))],.agg #[.bool (neg (x % y)),.string (Qh (x % y))],.bool true])∧Below W.heap.size W w':=by
 have hv:0<Qa (Qh y):=by rw[Zr];omega
 have hr:Qa (Qh x) % Qa (Qh y)=0:=by
  rw[Zr,Zr]
  exact Nat.mod_eq_zero_of_dvd (Int.natAbs_dvd_natAbs.2 (Int.dvd_of_emod_eq_zero hm))
 obtain⟨e1,e2⟩:=Bz (neg x) (neg y) (Qa (Qh x)) (Qa (Qh y)) hv
 rw[if_neg (fun h=>h.2 hr)]at e1 e2
 rw[QR,QR]at e1 e2
 rw[e1,e2]
 have hs:(Qh x).size≤536870912:=by rw[QM];exact hx
 have ht:(Qh y).size≤536870912:=by rw[QM];exact hy
 by_cases h:neg x=neg y
 ·rw[← h,show(neg x != neg x)=false by cases neg x<;>rfl]
  exact RW (Qh x) (Qh y) _ _ (neg x) W hs ht hv rfl rfl hr
 ·have h2:neg y=!neg x:=by revert h;cases neg x<;>cases neg y<;>simp
  rw[h2,show(neg x != !neg x)=true by cases neg x<;>rfl,show ∀n:Nat,Qb true n=-(n:Int)from fun _=>rfl]
  exact TG (Qh x) (Qh y) _ _ (neg x) W hs ht hv rfl rfl hr
