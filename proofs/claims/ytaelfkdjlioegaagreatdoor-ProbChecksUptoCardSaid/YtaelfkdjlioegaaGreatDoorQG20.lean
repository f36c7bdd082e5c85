/- The walks and plain laws beneath the statements. -/
import Derived.Test.YtaelfkdjlioegaaGreatDoorQG19
import Derived.RegionTactic
namespace Go.Proofs.YtaelfkdjlioegaaGreatDoor
open Tryz
set_option maxHeartbeats 4000000
set_option maxRecDepth 100000
open Go.RowKit
theorem Na(s t:ByteArray)(q r:Nat)(b b':Bool)(w:World)(hs:s.size≤16777216)(ht:t.size≤16777216)(hv:0<Qa t)(hq:q=Qa s / Qa t)(hr0:r=Qa s % Qa t)(hsg:¬ ZB (Qb b r)<0):
  Calls prog 84 #[.agg #[.bool b,.string s],.agg #[.bool b',.string t]] w fun e w'=>e=.returned (.tuple #[.agg #[.bool (neg (Qb (!(b==b')) q)),.string (Qh (Qb (!(b==b')) q))],.agg #[.bool (neg (Qb b r)),.string (Qh (Qb b r))],.bool true])∧Below w.heap.size w w':=by
 have hqs:(Qx q).size≤16777216:=by rw[hq];exact L8 (JU (Rl _ _)) hs
 have hrs:(Qx r).size≤16777216:=by rw[hr0];exact L8 (JU (T6 (Ly _ hv))) ht
 have cD:=Lib.hid (fun W=>eJ s t W hs ht)
 simp only[if_neg (Nat.ne_of_gt hv),← hq,← hr0]at cD
 have cF:=Lib.hid (fun W=>YI (Qx q) (!(b==b')) W (by omega))
 have cG:=Lib.hid (fun W=>YI (Qx r) b W (by omega))
 rw[XB]at cF cG
 have hms:(Qh (Qb b r)).size≤16777216:=by rw[Zq];exact hrs
 have hmq:(Qh (Qb (!(b==b')) q)).size≤16777216:=by rw[Zq];exact hqs
 have cS:=Lib.hid (fun W=>Df (Qh (Qb b r)) (neg (Qb b r)) W (by omega))
 rw[QR]at cS
 clear hv hqs hq hr0 hrs hms hmq
 go_enter func84,ntmps84
 go_wp2_with fail
 have Y1:=(((Bx.new w 30 #[.bool b,.string s]).alloc (.cells #[.bool b',.string t] 30)).alloc (.cells #[.bool false,.string ⟨#[]⟩] 30)).alloc (.cells #[.bool false,.string ⟨#[]⟩] 30)
 have Y2:=((Bx.at1 w (.cells #[.bool b,.string s] 30) 30 #[.bool b',.string t]).alloc (.cells #[.bool false,.string ⟨#[]⟩] 30)).alloc (.cells #[.bool false,.string ⟨#[]⟩] 30)
 have Y3:=(Bx.at2 w (.cells #[.bool b,.string s] 30) (.cells #[.bool b',.string t] 30) 30 #[.bool false,.string ⟨#[]⟩]).alloc (.cells #[.bool false,.string ⟨#[]⟩] 30)
 have Y4:=Bx.at3 w (.cells #[.bool b,.string s] 30) (.cells #[.bool b',.string t] 30) (.cells #[.bool false,.string ⟨#[]⟩] 30) 30 #[.bool false,.string ⟨#[]⟩]
 have hB:=b4 w (.cells #[.bool b,.string s] 30) (.cells #[.bool b',.string t] 30) (.cells #[.bool false,.string ⟨#[]⟩] 30) (.cells #[.bool false,.string ⟨#[]⟩] 30)
 generalize (((w.alloc (.cells #[.bool b,.string s] 30)).alloc (.cells #[.bool b',.string t] 30)).alloc (.cells #[.bool false,.string ⟨#[]⟩] 30)).alloc (.cells #[.bool false,.string ⟨#[]⟩] 30)=w0 at *
 have hl0:=Y1.lt
 have hl1:=Y2.lt
 have hl2:=Y3.lt
 have hl3:=Y4.lt
 refine(cD.out _).mono ?_
 rintro e w1 ⟨rfl,hb⟩
 replace Y1:=Y1.later hb
 replace Y2:=Y2.later hb
 replace Y3:=Y3.later hb
 replace Y4:=Y4.later hb
 replace hB:=nxt hB hb
 clear hb
 obtain⟨p1,p2,p3,p4⟩:=Y1.two
 obtain⟨q1,q2,q3,q4⟩:=Y2.two
 obtain⟨r1,r2,r3,r4⟩:=Y3.two
 obtain⟨s1,s2,s3,s4⟩:=Y4.two
 go_wp2_with fail
 refine(cF.out _).mono ?_
 rintro e w2 ⟨rfl,hb⟩
 replace Y1:=Y1.later hb
 replace Y2:=Y2.later hb
 replace Y3:=Y3.later hb
 replace Y4:=Y4.later hb
 replace hB:=nxt hB hb
 clear hb
 clear p1 p2 p3 p4 q1 q2 q3 q4 r1 r2 r3 r4 s1 s2 s3 s4
 have hg5:w.heap.size+3<w2.heap.size:=Y4.lt
 have Z:=Bx.new w2 30 #[.bool (neg (Qb (!(b==b')) q)),.string (Qh (Qb (!(b==b')) q))]
 replace Y1:=Y1.alloc (.cells #[.bool (neg (Qb (!(b==b')) q)),.string (Qh (Qb (!(b==b')) q))] 30)
 replace Y2:=Y2.alloc (.cells #[.bool (neg (Qb (!(b==b')) q)),.string (Qh (Qb (!(b==b')) q))] 30)
 replace Y3:=Y3.alloc (.cells #[.bool (neg (Qb (!(b==b')) q)),.string (Qh (Qb (!(b==b')) q))] 30)
 replace Y4:=Y4.alloc (.cells #[.bool (neg (Qb (!(b==b')) q)),.string (Qh (Qb (!(b==b')) q))] 30)
 replace hB:=JJ hB (.cells #[.bool (neg (Qb (!(b==b')) q)),.string (Qh (Qb (!(b==b')) q))] 30)
 have Y5:=Z
 clear Z
 obtain⟨p1,p2,p3,p4⟩:=Y1.two
 obtain⟨q1,q2,q3,q4⟩:=Y2.two
 obtain⟨r1,r2,r3,r4⟩:=Y3.two
 obtain⟨s1,s2,s3,s4⟩:=Y4.two
 obtain⟨u1,u2,u3,u4⟩:=Y5.two
 go_wp2_with fail
 generalize w2.alloc (.cells #[.bool (neg (Qb (!(b==b')) q)),.string (Qh (Qb (!(b==b')) q))] 30)=w3 at *
 generalize w2.heap.size=g5 at *
 refine(cG.out _).mono ?_
 rintro e w4 ⟨rfl,hb⟩
 replace Y1:=Y1.later hb
 replace Y2:=Y2.later hb
 replace Y3:=Y3.later hb
 replace Y4:=Y4.later hb
 replace Y5:=Y5.later hb
 replace hB:=nxt hB hb
 clear hb
 clear p1 p2 p3 p4 q1 q2 q3 q4 r1 r2 r3 r4 s1 s2 s3 s4 u1 u2 u3 u4
 have hg6:g5<w4.heap.size:=Y5.lt
 have Z:=Bx.new w4 30 #[.bool (neg (Qb b r)),.string (Qh (Qb b r))]
 replace Y1:=Y1.alloc (.cells #[.bool (neg (Qb b r)),.string (Qh (Qb b r))] 30)
 replace Y2:=Y2.alloc (.cells #[.bool (neg (Qb b r)),.string (Qh (Qb b r))] 30)
 replace Y3:=Y3.alloc (.cells #[.bool (neg (Qb b r)),.string (Qh (Qb b r))] 30)
 replace Y4:=Y4.alloc (.cells #[.bool (neg (Qb b r)),.string (Qh (Qb b r))] 30)
 replace Y5:=Y5.alloc (.cells #[.bool (neg (Qb b r)),.string (Qh (Qb b r))] 30)
 replace hB:=JJ hB (.cells #[.bool (neg (Qb b r)),.string (Qh (Qb b r))] 30)
 have Y6:=Z
 clear Z
 obtain⟨p1,p2,p3,p4⟩:=Y1.two
 obtain⟨q1,q2,q3,q4⟩:=Y2.two
 obtain⟨r1,r2,r3,r4⟩:=Y3.two
 obtain⟨s1,s2,s3,s4⟩:=Y4.two
 obtain⟨u1,u2,u3,u4⟩:=Y5.two
 obtain⟨v1,v2,v3,v4⟩:=Y6.two
 go_wp2_with fail
 generalize w4.alloc (.cells #[.bool (neg (Qb b r)),.string (Qh (Qb b r))] 30)=w5 at *
 generalize w4.heap.size=g6 at *
 refine(cS.out _).mono ?_
 rintro e w6 ⟨rfl,hb⟩
 replace Y1:=Y1.later hb
 replace Y2:=Y2.later hb
 replace Y3:=Y3.later hb
 replace Y4:=Y4.later hb
 replace Y5:=Y5.later hb
 replace Y6:=Y6.later hb
 replace hB:=nxt hB hb
 clear hb
 clear p1 p2 p3 p4 q1 q2 q3 q4 r1 r2 r3 r4 s1 s2 s3 s4 u1 u2 u3 u4 v1 v2 v3 v4
 obtain⟨p1,p2,p3,p4⟩:=Y1.two
 obtain⟨q1,q2,q3,q4⟩:=Y2.two
 obtain⟨r1,r2,r3,r4⟩:=Y3.two
 obtain⟨s1,s2,s3,s4⟩:=Y4.two
 obtain⟨u1,u2,u3,u4⟩:=Y5.two
 obtain⟨v1,v2,v3,v4⟩:=Y6.two
 go_wp2_with fail
 go_region
 all_goals
  go_wp2
  exact bodyPost_ret (v:=.tuple #[.agg #[.bool (neg (Qb (!(b==b')) q)),.string (Qh (Qb (!(b==b')) q))],.agg #[.bool (neg (Qb b r)),.string (Qh (Qb b r))],.bool true]) (by simp[results,results84,go_sem,((Y3.set2 (.bool (neg (Qb (!(b==b')) q))) (.string (Qh (Qb (!(b==b')) q)))).far2 (g':=w.heap.size+3) (i:=0) (j:=1) (by simp) (.bool (neg (Qb b r))) (.string (Qh (Qb b r)))).cel,((Y4.far2 (g':=w.heap.size+2) (i:=0) (j:=1) (by simp) (.bool (neg (Qb (!(b==b')) q))) (.string (Qh (Qb (!(b==b')) q)))).set2 (.bool (neg (Qb b r))) (.string (Qh (Qb b r)))).cel]) rfl ⟨rfl,(Kq (Kq hB (Lf _ 2) _ _) (Lf _ 3) _ _).drew⟩
theorem OZ(z:Int)(w:World)(hs:(Qh z).size≤16777216)(he:z % 2=0):
  Calls prog 84 #[.agg #[.bool (neg z),.string (Qh z)],.agg #[.bool (neg 2),.string (Qh 2)]] w fun e w'=>e=.returned (.tuple #[.agg #[.bool (neg (z / 2)),.string (Qh (z / 2))],.agg #[.bool (neg (z % 2)),.string (Qh (z % 2))],.bool true])∧Below w.heap.size w w':=by
 have h2:Qa (Qh 2)=2:=by rw[Zr];rfl
 have hz:Qa (Qh z) % 2=0:=by rw[Zr];omega
 have c:=Na (Qh z) (Qh 2) (Qa (Qh z) / Qa (Qh 2)) (Qa (Qh z) % Qa (Qh 2)) (neg z) (neg 2) w hs (by decide) (by rw[h2];decide) rfl rfl (by rw[h2,hz,J1];decide)
 have e1:=Bz (neg z) (neg 2) (Qa (Qh z)) (Qa (Qh 2)) (by rw[h2];decide)
 rw[if_neg (fun h=>h.2 (by rw[h2,hz])),if_neg (fun h=>h.2 (by rw[h2,hz])),QR,QR]at e1
 rw[e1.1,e1.2,show(neg z != neg 2)=(!(neg z==neg 2))from rfl,show((Qa (Qh z) % Qa (Qh 2):Nat):Int)=Qb (neg z) (Qa (Qh z) % Qa (Qh 2))from by rw[h2,hz,J1];rfl]
 exact c
