/- The walks and plain laws beneath the statements. -/
import Derived.Test.YtaelfkdjlioegaaGreatDoorQG9
import Derived.Deep.RegionHeld3
namespace Go.Proofs.YtaelfkdjlioegaaGreatDoor
open Tryz
set_option maxHeartbeats 4000000
set_option maxRecDepth 100000
open Go.RowKit
theorem YG(s:ByteArray)(b:Bool)(w:World):
  Calls prog 145 #[.agg #[.string s,.bool b]] w fun e w'=>e=.returned (.agg #[.bool (neg (Qb b (Qa s))),.string (Qh (Qb b (Qa s)))])∧Below w.heap.size w w':=by
 have hn:=Mj b (Qa s)
 have hm:=Zq b (Qa s)
 have hT:=Lib.hid (fun W=>TL s W)
 generalize Qb b (Qa s)=z at *
 generalize Qa s=v at *
 have hemp:=nstr_empty (v:=v)
 generalize Qx v=t at *
 by_cases h0:v=0
 ·subst h0
  have he:t.toList=[]:=hemp.2 rfl
  cases b
  all_goals
   have HN:=Lib.hid hn
   have HM:=Lib.hid hm
   clear hn hm hemp
   go_enter func145,ntmps145
   go_wp2_with (go_at_call 169;refine(hT.out _).mono ?_;rintro e wn ⟨rfl,rfl⟩)
   exact bodyPost_ret (v:=.agg #[.bool false,.string t]) (by simp[results,results145,go_sem]) rfl ⟨by rw[HN.out,HM.out];rfl,b2 _ _ _⟩
 ·have he:t.toList.isEmpty=false:=by
   rw[List.isEmpty_eq_false_iff];exact fun h=>h0 (hemp.1 h)
  have hv:(v==0)=false:=by simpa using h0
  rw[hv]at hn
  cases b
  ·have HN:=Lib.hid hn
   have HM:=Lib.hid hm
   clear hn hm hemp hv h0
   go_enter func145,ntmps145
   go_wp2_with (go_at_call 169;refine(hT.out _).mono ?_;rintro e wn ⟨rfl,rfl⟩)
   exact bodyPost_ret (v:=.agg #[.bool false,.string t]) (by simp[results,results145,go_sem]) rfl ⟨by rw[HN.out,HM.out];rfl,b2 _ _ _⟩
  ·have HN:=Lib.hid hn
   have HM:=Lib.hid hm
   clear hn hm hemp hv h0
   go_enter func145,ntmps145
   go_wp2_with (go_at_call 169;refine(hT.out _).mono ?_;rintro e wn ⟨rfl,rfl⟩)
   exact bodyPost_ret (v:=.agg #[.bool true,.string t]) (by simp[results,results145,go_sem]) rfl ⟨by rw[HN.out,HM.out];rfl,b2 _ _ _⟩
theorem AF(s:ByteArray)(b:Bool)(w:World):
  Calls prog 158 #[.agg #[.bool b,.string s]] w fun e w'=>e=.returned (.agg #[.string s,.bool b])∧Below w.heap.size w w':=by
 go_enter func158,ntmps158
 go_wp2
 exact bodyPost_ret (v:=.agg #[.string s,.bool b]) (by simp[results,results158,go_sem]) rfl ⟨rfl,b2 _ _ _⟩
theorem Mm(s t:ByteArray)(w:World)(hs:s.size≤4294967296)(ht:t.size≤4294967296):
  Calls prog 186 #[.string s,.string t] w fun e w'=>e=.returned (.int .i64 (YM (Qa s) (Qa t)))∧Below w.heap.size w w':=by
 go_enter func186,ntmps186
 go_wp2_with (go_at_call 198;refine(dq s t _ hs ht).mono ?_;rintro e wn ⟨rfl,hb⟩)
 go_ret
 exact⟨rfl,hb⟩
theorem BB(s:ByteArray)(b:Bool)(w:World):
  Calls prog 129 #[.agg #[.bool b,.string s]] w fun e w'=>e=.returned (.agg #[.bool (neg (Qb b (Qa s))),.string (Qh (Qb b (Qa s)))])∧Below w.heap.size w w':=by
 go_enter func129,ntmps129
 go_wp2_with fail
 refine(AF s b _).mono ?_
 rintro e w1 ⟨rfl,hb⟩
 have R1:=(Bx.at1 w _ _ _).later hb
 have hB1:=nxt (b2 w _ _) hb
 go_wp2_with fail
 refine(YG s b _).mono ?_
 rintro e w2 ⟨rfl,hb2⟩
 have R2:=R1.later hb2
 have hB2:=nxt hB1 hb2
 obtain⟨r0,r1,r2,r3⟩:=R2.two
 clear hb hb2
 go_wp2
 exact bodyPost_ret (v:=.agg #[.bool (neg (Qb b (Qa s))),.string (Qh (Qb b (Qa s)))]) (by simp[results,results129,go_sem,(R2.set2 _ _).cel]) rfl ⟨rfl,Kq hB2 (Nat.le_succ _) _ _⟩
theorem aC(a b:ByteArray)(w:World)(t:TypeId)(ha:a.size≤1073741824)(hb:b.size≤1073741824):
  Calls prog 185 #[.slice (some ⟨w.heap.size,0,none⟩) 2 2] (w.alloc (.cells #[.string a,.string b] t)) fun e w'=>e=.returned (.string (Qx (Qa a+Qa b)))∧Below w.heap.size w w':=by
 have h:=(Cel.new w t #[.string a,.string b]).rd (o:=0) (n:=2) (by simp)
 have hr:Rd (w.alloc (.cells #[.string a,.string b] t)) (some ⟨w.heap.size,0,none⟩) 2 (fun j=>.string (if j=0 then a else b)):=h.congr fun j hj=>by
  have:j=0∨j=1:=by omega
  rcases this with rfl|rfl<;>rfl
 have hs:Zf (fun j=>Qa (if j=0 then a else b)) 2=Qa a+Qa b:=by simp[Zf]
 refine(WL _ 2 2 (fun j=>if j=0 then a else b) _ (by decide) (fun j=>by split<;>assumption) hr).mono fun e w' ⟨he,hb⟩=>⟨by rw[he,hs],nxt (b1 _ _) hb⟩
theorem RT(s t:ByteArray)(b:Bool)(w:World)(hs:s.size≤1073741824)(ht:t.size≤1073741824):
  Calls prog 176 #[.agg #[.string s,.bool b],.agg #[.string t,.bool b]] w fun e w'=>e=.returned (.agg #[.string (Qx (Qa s+Qa t)),.bool b])∧Below w.heap.size w w':=by
 go_enter func176,ntmps176
 go_wp2_with fail
 have X1:=((Bx.new w 179 #[.string s,.bool b]).alloc (.cells #[.string t,.bool b] 179)).alloc (.cells #[.string ⟨#[]⟩,.bool false] 179)
 have X2:=(Bx.at1 w (.cells #[.string s,.bool b] 179) 179 #[.string t,.bool b]).alloc (.cells #[.string ⟨#[]⟩,.bool false] 179)
 have X3:=Bx.at2 w (.cells #[.string s,.bool b] 179) (.cells #[.string t,.bool b] 179) 179 #[.string ⟨#[]⟩,.bool false]
 have hB:=b3 w (.cells #[.string s,.bool b] 179) (.cells #[.string t,.bool b] 179) (.cells #[.string ⟨#[]⟩,.bool false] 179)
 generalize ((w.alloc (.cells #[.string s,.bool b] 179)).alloc (.cells #[.string t,.bool b] 179)).alloc (.cells #[.string ⟨#[]⟩,.bool false] 179)=w0 at *
 have hl0:=X1.lt
 have hl1:=X2.lt
 have hl2:=X3.lt
 obtain⟨p1,p2,p3,p4⟩:=(X1).two
 obtain⟨q1,q2,q3,q4⟩:=(X2).two
 obtain⟨r1,r2,r3,r4⟩:=(X3).two
 go_region_held3 (fun w'=>w'.cell? ⟨w.heap.size,0,none⟩=some (.string s)∧w'.cell? ⟨w.heap.size,1,none⟩=some (.bool b)∧w'.cell? ⟨w.heap.size+1,0,none⟩=some (.string t)∧w'.cell? ⟨w.heap.size+1,1,none⟩=some (.bool b)) ((repeat' apply And.intro)<;>(first|assumption|exact L7 hb (by assumption)|exact Xh (L7 hb (by assumption)) (by omega) _ _|exact Xh (by assumption) (by omega) _ _|go_keep))
  (first|(go_at_call 185;refine(aC s t w0.drew _ hs ht).mono ?_;rintro e wn ⟨rfl,hb'⟩;have hb:=KJ hb';clear hb';obtain⟨s1,s2,s3,s4⟩:=(X3.later hb).two))
 go_wp2
 exact bodyPost_ret (v:=.agg #[.string (Qx (Qa s+Qa t)),.bool b]) (by simp[results,results176,go_sem,((X3.later hb).set2 _ _).cel]) rfl ⟨rfl,Kq (nxt hB hb) (Lf _ 2) _ _⟩
theorem gG(s t:ByteArray)(b b':Bool)(w:World)(hs:s.size≤1073741824)(ht:t.size≤1073741824)(hbb:(b==b')=false)(hst:Qa t≤Qa s):
  Calls prog 176 #[.agg #[.string s,.bool b],.agg #[.string t,.bool b']] w fun e w'=>e=.returned (.agg #[.string (Qx (Qa s-Qa t)),.bool b])∧Below w.heap.size w w':=by
 have c1:=Lib.hid (fun W=>Mm s t W (by omega) (by omega))
 have c2:=Lib.hid (fun W=>M7 s t W (by omega) (by omega))
 have h0:¬ YM (Qa s) (Qa t)<0:=fun h=>by have:=cmpI_lt.1 h;omega
 rw[if_neg (by omega)]at c2
 clear hst
 go_enter func176,ntmps176
 go_wp2_with fail
 have X1:=((Bx.new w 179 #[.string s,.bool b]).alloc (.cells #[.string t,.bool b'] 179)).alloc (.cells #[.string ⟨#[]⟩,.bool false] 179)
 have X2:=(Bx.at1 w (.cells #[.string s,.bool b] 179) 179 #[.string t,.bool b']).alloc (.cells #[.string ⟨#[]⟩,.bool false] 179)
 have X3:=Bx.at2 w (.cells #[.string s,.bool b] 179) (.cells #[.string t,.bool b'] 179) 179 #[.string ⟨#[]⟩,.bool false]
 have hB:=b3 w (.cells #[.string s,.bool b] 179) (.cells #[.string t,.bool b'] 179) (.cells #[.string ⟨#[]⟩,.bool false] 179)
 generalize ((w.alloc (.cells #[.string s,.bool b] 179)).alloc (.cells #[.string t,.bool b'] 179)).alloc (.cells #[.string ⟨#[]⟩,.bool false] 179)=w0 at *
 have hl0:=X1.lt
 have hl1:=X2.lt
 have hl2:=X3.lt
 obtain⟨p1,p2,p3,p4⟩:=(X1).two
 obtain⟨q1,q2,q3,q4⟩:=(X2).two
 obtain⟨r1,r2,r3,r4⟩:=(X3).two
 refine(c1.out _).mono ?_
 rintro e w1 ⟨rfl,hb⟩
 obtain⟨p'1,p'2,p'3,p'4⟩:=(X1.later hb).two
 obtain⟨q'1,q'2,q'3,q'4⟩:=(X2.later hb).two
 obtain⟨r'1,r'2,r'3,r'4⟩:=(X3.later hb).two
 clear p1 p2 p3 p4 q1 q2 q3 q4 r1 r2 r3 r4
 go_wp2_with fail
 refine(c2.out _).mono ?_
 rintro e w2 ⟨rfl,hb2⟩
 have Y1:=(X1.later hb).later hb2
 have Y3:=(X3.later hb).later hb2
 obtain⟨VS,py2,py3,py4⟩:=(Y1).two
 obtain⟨qy1,qy2,qy3,qy4⟩:=(Y3).two
 clear p'1 p'2 p'3 p'4 q'1 q'2 q'3 q'4 r'1 r'2 r'3 r'4
 go_wp2
 exact bodyPost_ret (v:=.agg #[.string (Qx (Qa s-Qa t)),.bool b]) (by simp[results,results176,go_sem,(Y3.set2 _ _).cel]) rfl ⟨rfl,Kq (nxt (nxt hB hb) hb2) (Lf _ 2) _ _⟩
theorem iz(s t:ByteArray)(b b':Bool)(w:World)(hs:s.size≤1073741824)(ht:t.size≤1073741824)(hbb:(b==b')=false)(hst:Qa s<Qa t):
  Calls prog 176 #[.agg #[.string s,.bool b],.agg #[.string t,.bool b']] w fun e w'=>e=.returned (.agg #[.string (Qx (Qa t-Qa s)),.bool b'])∧Below w.heap.size w w':=by
 have c1:=Lib.hid (fun W=>Mm s t W (by omega) (by omega))
 have c2:=Lib.hid (fun W=>M7 t s W (by omega) (by omega))
 have h0:YM (Qa s) (Qa t)<0:=cmpI_lt.2 hst
 rw[if_neg (by omega)]at c2
 clear hst
 go_enter func176,ntmps176
 go_wp2_with fail
 have X1:=((Bx.new w 179 #[.string s,.bool b]).alloc (.cells #[.string t,.bool b'] 179)).alloc (.cells #[.string ⟨#[]⟩,.bool false] 179)
 have X2:=(Bx.at1 w (.cells #[.string s,.bool b] 179) 179 #[.string t,.bool b']).alloc (.cells #[.string ⟨#[]⟩,.bool false] 179)
 have X3:=Bx.at2 w (.cells #[.string s,.bool b] 179) (.cells #[.string t,.bool b'] 179) 179 #[.string ⟨#[]⟩,.bool false]
 have hB:=b3 w (.cells #[.string s,.bool b] 179) (.cells #[.string t,.bool b'] 179) (.cells #[.string ⟨#[]⟩,.bool false] 179)
 generalize ((w.alloc (.cells #[.string s,.bool b] 179)).alloc (.cells #[.string t,.bool b'] 179)).alloc (.cells #[.string ⟨#[]⟩,.bool false] 179)=w0 at *
 have hl0:=X1.lt
 have hl1:=X2.lt
 have hl2:=X3.lt
 obtain⟨p1,p2,p3,p4⟩:=(X1).two
 obtain⟨q1,q2,q3,q4⟩:=(X2).two
 obtain⟨r1,r2,r3,r4⟩:=(X3).two
 refine(c1.out _).mono ?_
 rintro e w1 ⟨rfl,hb⟩
 obtain⟨p'1,p'2,p'3,p'4⟩:=(X1.later hb).two
 obtain⟨q'1,q'2,q'3,q'4⟩:=(X2.later hb).two
 obtain⟨r'1,r'2,r'3,r'4⟩:=(X3.later hb).two
 clear p1 p2 p3 p4 q1 q2 q3 q4 r1 r2 r3 r4
 go_wp2_with fail
 have Z1:=(X1.later hb).set2 (.string t) (.bool b')
 have Z1':=(Z1.far (p:=⟨w.heap.size+1,0,none⟩) (by simp) (.string s)).far (p:=⟨w.heap.size+1,1,none⟩) (by simp) (.bool b)
 have Z3:=((((X3.later hb).far (p:=⟨w.heap.size,0,none⟩) (by simp) (.string t)).far (p:=⟨w.heap.size,1,none⟩) (by simp) (.bool b')).far (p:=⟨w.heap.size+1,0,none⟩) (by simp) (.string s)).far (p:=⟨w.heap.size+1,1,none⟩) (by simp) (.bool b)
 have hB1:=Kq (Kq (nxt hB hb) (L3 _) (.string t) (.bool b')) (Lf w.heap.size 1) (.string s) (.bool b)
 refine(c2.out _).mono ?_
 rintro e w2 ⟨rfl,hb2⟩
 have Y1:=Z1'.later hb2
 have Y3:=Z3.later hb2
 obtain⟨VS,py2,py3,py4⟩:=(Y1).two
 obtain⟨qy1,qy2,qy3,qy4⟩:=(Y3).two
 clear p'1 p'2 p'3 p'4 q'1 q'2 q'3 q'4 r'1 r'2 r'3 r'4
 go_wp2
 exact bodyPost_ret (v:=.agg #[.string (Qx (Qa t-Qa s)),.bool b']) (by simp[results,results176,go_sem,(Y3.set2 _ _).cel]) rfl ⟨rfl,Kq (nxt hB1 hb2) (Lf _ 2) _ _⟩
theorem Mu(b b':Bool)(u v:Nat): (b=b'→Qb b u+Qb b' v=Qb b (u+v))∧((b==b')=false→v≤u→Qb b u+Qb b' v=Qb b (u-v))∧((b==b')=false→u<v→Qb b u+Qb b' v=Qb b' (v-u)):=by
 cases b<;>cases b'<;>simp[Qb]<;>omega
theorem UC(s t:ByteArray)(b b':Bool)(w:World)(hs:s.size≤1073741824)(ht:t.size≤1073741824):
  Calls prog 176 #[.agg #[.string s,.bool b],.agg #[.string t,.bool b']] w fun e w'=>∃c,e=.returned (.agg #[.string (Qh (Qb b (Qa s)+Qb b' (Qa t))),.bool c])∧Qb c (Qb b (Qa s)+Qb b' (Qa t)).natAbs=Qb b (Qa s)+Qb b' (Qa t)∧Below w.heap.size w w':=by
 obtain⟨h1,h2,h3⟩:=Mu b b' (Qa s) (Qa t)
 cases hbb:(b==b')
 ·rcases Ra (Qa s) (Qa t)with hst|hst
  ·rw[h3 hbb hst]
   exact(iz s t b b' w hs ht hbb hst).mono fun e w' ⟨he,hb⟩=>⟨b',by rw[he,Zq],by rw[Q0],hb⟩
  ·rw[h2 hbb hst]
   exact(gG s t b b' w hs ht hbb hst).mono fun e w' ⟨he,hb⟩=>⟨b,by rw[he,Zq],by rw[Q0],hb⟩
 ·have e:b=b':=by simpa using hbb
  subst e
  rw[h1 rfl]
  exact(RT s t b w hs ht).mono fun e w' ⟨he,hb⟩=>⟨b,by rw[he,Zq],by rw[Q0],hb⟩
theorem Uu(s t:ByteArray)(b b':Bool)(w:World)(hs:s.size≤1073741824)(ht:t.size≤1073741824):
  Calls prog 174 #[.agg #[.string s,.bool b],.agg #[.string t,.bool b']] w fun e w'=>e=.returned (.agg #[.string (Qx (Qa s*Qa t)),.bool (b != b')])∧Below w.heap.size w w':=by
 have c1:=Lib.hid (fun W=>bW s t W (by omega) (by omega))
 go_enter func174,ntmps174
 go_wp2_with fail
 have X1:=((Bx.new w 179 #[.string s,.bool b]).alloc (.cells #[.string t,.bool b'] 179)).alloc (.cells #[.string ⟨#[]⟩,.bool false] 179)
 have X2:=(Bx.at1 w (.cells #[.string s,.bool b] 179) 179 #[.string t,.bool b']).alloc (.cells #[.string ⟨#[]⟩,.bool false] 179)
 have X3:=Bx.at2 w (.cells #[.string s,.bool b] 179) (.cells #[.string t,.bool b'] 179) 179 #[.string ⟨#[]⟩,.bool false]
 have hB:=b3 w (.cells #[.string s,.bool b] 179) (.cells #[.string t,.bool b'] 179) (.cells #[.string ⟨#[]⟩,.bool false] 179)
 generalize ((w.alloc (.cells #[.string s,.bool b] 179)).alloc (.cells #[.string t,.bool b'] 179)).alloc (.cells #[.string ⟨#[]⟩,.bool false] 179)=w0 at *
 have hl0:=X1.lt
 have hl1:=X2.lt
 have hl2:=X3.lt
 obtain⟨p1,p2,p3,p4⟩:=(X1).two
 obtain⟨q1,q2,q3,q4⟩:=(X2).two
 obtain⟨r1,r2,r3,r4⟩:=(X3).two
 go_region_held3 (fun w'=>w'.cell? ⟨w.heap.size,0,none⟩=some (.string s)∧w'.cell? ⟨w.heap.size,1,none⟩=some (.bool b)∧w'.cell? ⟨w.heap.size+1,0,none⟩=some (.string t)∧w'.cell? ⟨w.heap.size+1,1,none⟩=some (.bool b')) ((repeat' apply And.intro)<;>(first|assumption|exact L7 hb (by assumption)|exact Xh (L7 hb (by assumption)) (by omega) _ _|exact Xh (by assumption) (by omega) _ _|go_keep))
  (first|(go_at_call 182;refine(c1.out w0.drew).mono ?_;rintro e wn ⟨rfl,hb'⟩;have hb:=KJ hb';clear hb';obtain⟨s1,s2,s3,s4⟩:=(X3.later hb).two))
 go_wp2
 exact bodyPost_ret (v:=.agg #[.string (Qx (Qa s*Qa t)),.bool (b != b')]) (by simp[results,results174,go_sem,((X3.later hb).set2 _ _).cel];cases b<;>cases b'<;>rfl) rfl ⟨rfl,Kq (nxt hB hb) (Lf _ 2) _ _⟩
theorem ak(b b':Bool)(u v:Nat): Qb b u*Qb b' v=Qb (b != b') (u*v):=by
 cases b<;>cases b'<;>simp only[Qb,bne_self_eq_false,Bool.false_eq_true,if_false,if_true,Ud,Int.mul_neg,T3,Tp,show(false != true)=true from rfl,show(true != false)=true from rfl]
theorem OM(s t:ByteArray)(b b':Bool)(w:World)(hs:s.size≤1073741824)(ht:t.size≤1073741824):
  Calls prog 174 #[.agg #[.string s,.bool b],.agg #[.string t,.bool b']] w fun e w'=>∃c,e=.returned (.agg #[.string (Qh (Qb b (Qa s)*Qb b' (Qa t))),.bool c])∧Qb c (Qb b (Qa s)*Qb b' (Qa t)).natAbs=Qb b (Qa s)*Qb b' (Qa t)∧Below w.heap.size w w':=by
 rw[ak]
 exact(Uu s t b b' w hs ht).mono fun e w' ⟨he,hb⟩=>⟨b != b',by rw[he,Zq],by rw[Q0],hb⟩
theorem Bh(s:ByteArray)(b:Bool)(w:World):
  Calls prog 155 #[.agg #[.bool b,.string s]] w fun e w'=>e=.returned (.agg #[.bool (neg (-Qb b (Qa s))),.string (Qh (-Qb b (Qa s)))])∧Below w.heap.size w w':=by
 rw[← Mo]
 go_enter func155,ntmps155
 go_wp2_with fail
 have X1:=(Bx.new w 30 #[.bool b,.string s]).alloc (.cells #[.bool false,.string ⟨#[]⟩] 30)
 have X2:=Bx.at1 w (.cells #[.bool b,.string s] 30) 30 #[.bool false,.string ⟨#[]⟩]
 have hB:=b2 w (.cells #[.bool b,.string s] 30) (.cells #[.bool false,.string ⟨#[]⟩] 30)
 generalize (w.alloc (.cells #[.bool b,.string s] 30)).alloc (.cells #[.bool false,.string ⟨#[]⟩] 30)=w0 at *
 have hl0:=X1.lt
 have hl1:=X2.lt
 refine(YG s (!b) _).mono ?_
 rintro e w1 ⟨rfl,hb⟩
 obtain⟨r1,r2,r3,r4⟩:=(X2.later hb).two
 go_wp2
 exact bodyPost_ret (v:=.agg #[.bool (neg (Qb (!b) (Qa s))),.string (Qh (Qb (!b) (Qa s)))]) (by simp[results,results155,go_sem,((X2.later hb).set2 _ _).cel]) rfl ⟨rfl,Kq (nxt hB hb) (Lf _ 1) _ _⟩
theorem fu(v:Nat)(w:World)(h0:0<v)(hv:v≤9223372036854775808):
  Calls prog 148 #[.int .i64 (-(v:Int))] w fun e w'=>e=.returned (.agg #[.bool (neg (-(v:Int))),.string (Qh (-(v:Int)))])∧Below w.heap.size w w':=by
 have hi:Qb true (Qa (Qx v))=-(v:Int):=by rw[XB];rfl
 have cm:=Lib.hid (fun W=>YG (Qx v) true W)
 rw[hi]at cm
 have hcv:IntKind.u64.wrap (-(v:Int))=18446744073709551616-(v:Int):=by rw[IntKind.wrap_u64];omega
 have hcn:IntKind.u64.wrap (-(18446744073709551616-(v:Int)))=(v:Int):=by rw[IntKind.wrap_u64];omega
 have co:=Lib.hid (fun W=>Pv v W (by rw[YW];omega))
 clear hi
 go_enter func148,ntmps148
 have X:=Bx.new w 30 #[.bool false,.string ⟨#[]⟩]
 go_wp2_with fail
 refine(co.out _).mono ?_
 rintro e w1 ⟨rfl,hb⟩
 have X1:=X.later hb
 have hB:=nxt (b1 w _) hb
 clear hb X
 go_wp2_with fail
 refine(cm.out _).mono ?_
 rintro e w2 ⟨rfl,hb2⟩
 have X2:=X1.later hb2
 have hB2:=nxt hB hb2
 clear hb2 X1
 obtain⟨r1,r2,r3,r4⟩:=X2.two
 go_wp2
 exact bodyPost_ret (v:=.agg #[.bool (neg (-(v:Int))),.string (Qh (-(v:Int)))]) (by simp[results,results148,go_sem,(X2.set2 _ _).cel]) rfl ⟨rfl,Kq hB2 (L3 _) _ _⟩
theorem iq(v:Nat)(w:World)(hv:v≤9223372036854775807):
  Calls prog 148 #[.int .i64 (v:Int)] w fun e w'=>e=.returned (.agg #[.bool (neg ((v:Int))),.string (Qh ((v:Int)))])∧Below w.heap.size w w':=by
 have hi:Qb false (Qa (Qx v))=(v:Int):=by rw[XB];rfl
 have cm:=Lib.hid (fun W=>YG (Qx v) false W)
 rw[hi]at cm
 have hcv:IntKind.u64.wrap (v:Int)=(v:Int):=by rw[IntKind.wrap_u64];omega
 have co:=Lib.hid (fun W=>Pv v W (by rw[YW];omega))
 clear hi
 go_enter func148,ntmps148
 have X:=Bx.new w 30 #[.bool false,.string ⟨#[]⟩]
 go_wp2_with fail
 refine(co.out _).mono ?_
 rintro e w1 ⟨rfl,hb⟩
 have X1:=X.later hb
 have hB:=nxt (b1 w _) hb
 clear hb X
 go_wp2_with fail
 refine(cm.out _).mono ?_
 rintro e w2 ⟨rfl,hb2⟩
 have X2:=X1.later hb2
 have hB2:=nxt hB hb2
 clear hb2 X1
 obtain⟨r1,r2,r3,r4⟩:=X2.two
 go_wp2
 exact bodyPost_ret (v:=.agg #[.bool (neg ((v:Int))),.string (Qh ((v:Int)))]) (by simp[results,results148,go_sem,(X2.set2 _ _).cel]) rfl ⟨rfl,Kq hB2 (L3 _) _ _⟩
theorem AX(n:Int)(w:World)(h1:-9223372036854775808≤n)(h2:n≤9223372036854775807):
  Calls prog 148 #[.int .i64 n] w fun e w'=>e=.returned (.agg #[.bool (neg n),.string (Qh n)])∧Below w.heap.size w w':=by
 by_cases h:n<0
 ·obtain⟨v,rfl⟩:∃v:Nat,n=-(v:Int):=⟨n.natAbs,by omega⟩
  exact fu v w (by omega) (by omega)
 ·obtain⟨v,rfl⟩:∃v:Nat,n=(v:Int):=⟨n.natAbs,by omega⟩
  exact iq v w (by omega)
theorem mag_empty{z:Int}: (Qh z).toList=[]↔z=0:=by
 unfold Qh;rw[nstr_empty];omega
theorem MM{z:Int}(h:z≠0): (Qh z).toList.isEmpty=false:=by
 rw[List.isEmpty_eq_false_iff];exact fun e=>h (mag_empty.1 e)
theorem KZ(s:ByteArray)(b:Bool)(w:World):
  Calls prog 103 #[.agg #[.bool b,.string s]] w fun e w'=>e=.returned (.int .i64 (ZB (Qb b (Qa s))))∧Below w.heap.size w w':=by
 have cf:=Lib.hid (fun W=>BB s b W)
 generalize Qb b (Qa s)=z at *
 rcases U0 z 0 with h|h|h
 ·have hn:neg z=true:=Rf h
  have HS:=Lib.hid (show ZB z=-1 by unfold ZB;rw[if_pos h])
  clear h
  go_enter func103,ntmps103
  go_wp2_with fail
  refine(cf.out _).mono ?_
  rintro e w1 ⟨rfl,hb⟩
  go_wp2
  go_ret
  exact⟨by rw[HS.out];rfl,JJ (nxt (b1 w _) hb) _⟩
 ·have hn:neg z=false:=Lk (by omega)
  have hm:(Qh z).toList=[]:=mag_empty.2 h
  have HS:=Lib.hid (show ZB z=0 from sgn_eq.2 h)
  clear h
  go_enter func103,ntmps103
  go_wp2_with fail
  refine(cf.out _).mono ?_
  rintro e w1 ⟨rfl,hb⟩
  go_wp2
  go_ret
  exact⟨by rw[HS.out];rfl,JJ (nxt (b1 w _) hb) _⟩
 ·have hn:neg z=false:=Lk (by omega)
  have hm:(Qh z).toList.isEmpty=false:=MM (by omega)
  have HS:=Lib.hid (show ZB z=1 by unfold ZB;rw[if_neg (by omega),if_neg (by omega)])
  clear h
  go_enter func103,ntmps103
  go_wp2_with fail
  refine(cf.out _).mono ?_
  rintro e w1 ⟨rfl,hb⟩
  go_wp2
  go_ret
  exact⟨by rw[HS.out];rfl,JJ (nxt (b1 w _) hb) _⟩
def mH(w:World)(A:Option Addr)(n:Nat)(bs:Nat→Bool)(ss:Nat→ByteArray): Prop :=
 0<n→∃b off,A=some ⟨b,off,none⟩∧∀j,j<n→w.cell? ⟨b,off+j*2,none⟩=some (.bool (bs j))∧w.cell? ⟨b,off+j*2+1,none⟩=some (.string (ss j))
theorem I0(A:Option Addr)(n c:Nat)(bs:Nat→Bool)(ss:Nat→ByteArray)(w:World)(hn:n≤268435456)(hs:∀j,(ss j).size≤536870912)(hr:mH w A n bs ss):
  Calls prog 159 #[.slice A n c] w fun e w'=>e=.returned (.agg #[.bool (neg (JD (fun j=>Qb (bs j) (Qa (ss j))) n)),.string (Qh (JD (fun j=>Qb (bs j) (Qa (ss j))) n))])∧Below w.heap.size w w':=by
 have HS:=Lib.hid hs
 have hb1:∀k,Yj (JD (fun j=>Qb (bs j) (Qa (ss j))) k)≤536870912+k:=fun k=>C1 (fun j=>L8 (XJ _ _) (hs j)) k
 have HB:=Lib.hid hb1
 clear hs hb1
 go_enter func159,ntmps159
 have X1:=(Bx.new w 30 #[.bool false,.string ⟨#[]⟩]).alloc (.cells #[.string ⟨#[]⟩,.bool false] 179)
 have X2:=Bx.at1 w (.cells #[.bool false,.string ⟨#[]⟩] 30) 179 #[.string ⟨#[]⟩,.bool false]
 have hB:=b2 w (.cells #[.bool false,.string ⟨#[]⟩] 30) (.cells #[.string ⟨#[]⟩,.bool false] 179)
 go_wp2_with fail
 generalize (w.alloc (.cells #[.bool false,.string ⟨#[]⟩] 30)).alloc (.cells #[.string ⟨#[]⟩,.bool false] 179)=w0 at *
 go_loopw [8] (fun i wr=>∃k:Nat,∃d:Bool,k≤n∧i=.int .i64 (k:Nat)∧Hid (Qb d (JD (fun j=>Qb (bs j) (Qa (ss j))) k).natAbs=JD (fun j=>Qb (bs j) (Qa (ss j))) k)∧Bx wr w.heap.size 30 #[.bool false,.string ⟨#[]⟩]∧Bx wr (w.heap.size+1) 179 #[.string (Qh (JD (fun j=>Qb (bs j) (Qa (ss j))) k)),.bool d]∧Below w.heap.size w wr) (fun i _=>n-(intOf i).toNat)
 case atStart=>exact⟨0,false,L9 _,rfl,rfl,X1,X2,hB⟩
 case round =>
  obtain⟨k,d,hk,rfl,hd,Y1,Y2,hB2⟩:=hrel
  obtain⟨p1,p2,p3,p4⟩:=Y1.two
  obtain⟨q1,q2,q3,q4⟩:=Y2.two
  by_cases hlt:k<n
  ·obtain⟨b,off,rfl,hc⟩:=hr (by omega)
   have g1:=L7 hB2 (hc k hlt).1
   have g2:=L7 hB2 (hc k hlt).2
   clear hc hr
   have hl2:w.heap.size+1<wr.heap.size:=Y2.lt
   have Z3:=Bx.new wr 30 #[.bool (bs k),.string (ss k)]
   have Z1:=Y1.alloc (.cells #[.bool (bs k),.string (ss k)] 30)
   have Z2:=Y2.alloc (.cells #[.bool (bs k),.string (ss k)] 30)
   have hB3:=JJ hB2 (.cells #[.bool (bs k),.string (ss k)] 30)
   have hsz:=HS.out k
   have hbz:=HB.out k
   have HD:=Lib.hid (show JD (fun j=>Qb (bs j) (Qa (ss j))) (k+1)=Qb d (Qa (Qh (JD (fun j=>Qb (bs j) (Qa (ss j))) k)))+Qb (bs k) (Qa (ss k))by
    rw[Zr,hd.out];rfl)
   have hms:(Qh (JD (fun j=>Qb (bs j) (Qa (ss j))) k)).size≤1073741824:=by rw[QM];omega
   have hsz2:(ss k).size≤1073741824:=by omega
   have cp:=Lib.hid (fun W=>UC (Qh (JD (fun j=>Qb (bs j) (Qa (ss j))) k)) (ss k) d (bs k) W hms hsz2)
   rw[← HD.out]at cp
   clear hsz hbz hms hsz2
   obtain⟨S1,hS1⟩:∃S1,S1=JD (fun j=>Qb (bs j) (Qa (ss j))) (k+1):=⟨_,rfl⟩
   rw[← hS1]at cp
   have H1:=Lib.hid hS1
   clear hS1
   go_wp2_with fail
   generalize wr.alloc (.cells #[.bool (bs k),.string (ss k)] 30)=w5 at *
   obtain⟨z1,z2,_,_⟩:=Z3.two
   clear p1 p2 p3 p4 q1 q2 q3 q4
   obtain⟨q1,q2,q3,q4⟩:=Z2.two
   have hl5:wr.heap.size<w5.heap.size:=Z3.lt
   go_region_with
    (first
     | (go_at_call 158;refine(AF (ss k) (bs k) w5.drew).mono ?_;rintro e wn ⟨rfl,hb'⟩;have hb:=KJ hb';clear hb';obtain⟨s1,s2,s3,s4⟩:=(Z2.later hb).two)
     | (go_at_call 176;refine(cp.out wn).mono ?_;rintro e wm ⟨d',rfl,hd',hb2⟩;have hd2:=Lib.hid hd';clear hd';obtain⟨t1,t2,t3,t4⟩:=((Z2.later hb).later hb2).two))
   all_goals
    go_wp2
    exact⟨⟨k+1,d',hlt,by go_num,by rw[← H1.out];exact hd2.out,(((Z1.later hb).later hb2).far (p:=⟨w.heap.size+1,0,none⟩) (by simp) _).far (p:=⟨w.heap.size+1,1,none⟩) (by simp) _,by rw[← H1.out];exact((Z2.later hb).later hb2).set2 _ _,Kq (nxt (nxt hB3 hb) hb2) (Lf _ 1) _ _⟩,by simp[intOf];omega⟩
  ·obtain rfl:k=n:=by omega
   have cm:=Lib.hid (fun W=>YG (Qh (JD (fun j=>Qb (bs j) (Qa (ss j))) k)) d W)
   rw[Zr,hd.out]at cm
   go_wp2_with fail
   refine(cm.out _).mono ?_
   rintro e w6 ⟨rfl,hb6⟩
   obtain⟨s1,s2,s3,s4⟩:=(Y1.later hb6).two
   go_wp2
   exact bodyPost_ret (v:=.agg #[.bool (neg (JD (fun j=>Qb (bs j) (Qa (ss j))) k)),.string (Qh (JD (fun j=>Qb (bs j) (Qa (ss j))) k))]) (by simp[results,results159,go_sem,((Y1.later hb6).set2 _ _).cel]) rfl ⟨rfl,Kq (nxt hB2 hb6) (L3 _) _ _⟩
theorem dH(A:Option Addr)(n c:Nat)(bs:Nat→Bool)(ss:Nat→ByteArray)(S:Nat)(w:World)(hn:n≤268435456)(hS:S≤1073741824)(hs:∀j,(ss j).size≤S)(hSn:S*n≤1073741823)(hr:mH w A n bs ss):
  Calls prog 153 #[.slice A n c] w fun e w'=>e=.returned (.agg #[.bool (neg (Jo (fun j=>Qb (bs j) (Qa (ss j))) n)),.string (Qh (Jo (fun j=>Qb (bs j) (Qa (ss j))) n))])∧Below w.heap.size w w':=by
 have HS:=Lib.hid hs
 have hb1:∀k,k≤n→Yj (Jo (fun j=>Qb (bs j) (Qa (ss j))) k)≤1073741824:=fun k hk=>by
  have h1:=E2 (f:=fun j=>Qb (bs j) (Qa (ss j))) (S:=S) (fun j=>L8 (XJ _ _) (hs j)) k
  have h2:S*k≤S*n:=Lt _ hk
  omega
 have HB:=Lib.hid hb1
 clear hs hb1 hSn
 have c1:=Lib.hid (fun W=>AX 1 W (by decide) (by decide))
 go_enter func153,ntmps153
 have X1:=Bx.new w 30 #[.bool false,.string ⟨#[]⟩]
 have hB:=b1 w (.cells #[.bool false,.string ⟨#[]⟩] 30)
 go_wp2_with fail
 refine(c1.out _).mono ?_
 rintro e w1 ⟨rfl,hb⟩
 replace X1:=X1.later hb
 replace hB:=nxt hB hb
 clear hb
 go_wp2_with fail
 refine(AF _ _ w1).mono ?_
 rintro e w2 ⟨rfl,hb⟩
 replace X1:=X1.later hb
 replace hB:=nxt hB hb
 clear hb
 have hg:w.heap.size<w2.heap.size:=X1.lt
 have X2:=Bx.new w2 179 #[.string (Qh 1),.bool (neg 1)]
 replace X1:=X1.alloc (.cells #[.string (Qh 1),.bool (neg 1)] 179)
 replace hB:=JJ hB (.cells #[.string (Qh 1),.bool (neg 1)] 179)
 go_wp2_with fail
 generalize w2.alloc (.cells #[.string (Qh 1),.bool (neg 1)] 179)=w0 at *
 generalize w2.heap.size=g at *
 go_loopw [10] (fun i wr=>∃k:Nat,∃d:Bool,k≤n∧i=.int .i64 (k:Nat)∧Hid (Qb d (Jo (fun j=>Qb (bs j) (Qa (ss j))) k).natAbs=Jo (fun j=>Qb (bs j) (Qa (ss j))) k)∧Bx wr w.heap.size 30 #[.bool false,.string ⟨#[]⟩]∧Bx wr g 179 #[.string (Qh (Jo (fun j=>Qb (bs j) (Qa (ss j))) k)),.bool d]∧Below w.heap.size w wr) (fun i _=>n-(intOf i).toNat)
 case atStart=>exact⟨0,neg 1,L9 _,rfl,(by show Qb (neg 1) (1:Int).natAbs=1;rfl),X1,X2,hB⟩
 case round =>
  obtain⟨k,d,hk,rfl,hd,Y1,Y2,hB2⟩:=hrel
  obtain⟨p1,p2,p3,p4⟩:=Y1.two
  obtain⟨q1,q2,q3,q4⟩:=Y2.two
  by_cases hlt:k<n
  ·obtain⟨b,off,rfl,hc⟩:=hr (by omega)
   have hB3:Below w.heap.size w wr:=hB2
   have g1:=L7 hB3 (hc k hlt).1
   have g2:=L7 hB3 (hc k hlt).2
   clear hc hr
   have hl2:g<wr.heap.size:=Y2.lt
   have Z3:=Bx.new wr 30 #[.bool (bs k),.string (ss k)]
   have Z1:=Y1.alloc (.cells #[.bool (bs k),.string (ss k)] 30)
   have Z2:=Y2.alloc (.cells #[.bool (bs k),.string (ss k)] 30)
   have hB3:=JJ hB2 (.cells #[.bool (bs k),.string (ss k)] 30)
   have hsz:=HS.out k
   have hbz:=HB.out k hk
   have HD:=Lib.hid (show Jo (fun j=>Qb (bs j) (Qa (ss j))) (k+1)=Qb d (Qa (Qh (Jo (fun j=>Qb (bs j) (Qa (ss j))) k)))*Qb (bs k) (Qa (ss k))by
    rw[Zr,hd.out];rfl)
   have hms:(Qh (Jo (fun j=>Qb (bs j) (Qa (ss j))) k)).size≤1073741824:=by rw[QM];exact hbz
   have hsz2:(ss k).size≤1073741824:=by omega
   have cp:=Lib.hid (fun W=>OM (Qh (Jo (fun j=>Qb (bs j) (Qa (ss j))) k)) (ss k) d (bs k) W hms hsz2)
   rw[← HD.out]at cp
   clear hsz hbz hms hsz2
   obtain⟨S1,hS1⟩:∃S1,S1=Jo (fun j=>Qb (bs j) (Qa (ss j))) (k+1):=⟨_,rfl⟩
   rw[← hS1]at cp
   have H1:=Lib.hid hS1
   clear hS1
   go_wp2_with fail
   generalize wr.alloc (.cells #[.bool (bs k),.string (ss k)] 30)=w5 at *
   obtain⟨z1,z2,_,_⟩:=Z3.two
   clear p1 p2 p3 p4 q1 q2 q3 q4
   obtain⟨q1,q2,q3,q4⟩:=Z2.two
   have hl5:wr.heap.size<w5.heap.size:=Z3.lt
   go_region_with
    (first
     | (go_at_call 158;refine(AF (ss k) (bs k) w5.drew).mono ?_;rintro e wn ⟨rfl,hb'⟩;have hb:=KJ hb';clear hb';obtain⟨s1,s2,s3,s4⟩:=(Z2.later hb).two)
     | (go_at_call 174;refine(cp.out wn).mono ?_;rintro e wm ⟨d',rfl,hd',hb2⟩;have hd2:=Lib.hid hd';clear hd';obtain⟨t1,t2,t3,t4⟩:=((Z2.later hb).later hb2).two))
   all_goals
    go_wp2
    exact⟨⟨k+1,d',hlt,by go_num,by rw[← H1.out];exact hd2.out,(((Z1.later hb).later hb2).far (p:=⟨g,0,none⟩) (Sk hg) _).far (p:=⟨g,1,none⟩) (Sk hg) _,by rw[← H1.out];exact((Z2.later hb).later hb2).set2 _ _,Kq (nxt (nxt hB3 hb) hb2) (T6 hg) _ _⟩,by simp[intOf];omega⟩
  ·obtain rfl:k=n:=by omega
   have cm:=Lib.hid (fun W=>YG (Qh (Jo (fun j=>Qb (bs j) (Qa (ss j))) k)) d W)
   rw[Zr,hd.out]at cm
   go_wp2_with fail
   refine(cm.out _).mono ?_
   rintro e w6 ⟨rfl,hb6⟩
   obtain⟨s1,s2,s3,s4⟩:=(Y1.later hb6).two
   go_wp2
   exact bodyPost_ret (v:=.agg #[.bool (neg (Jo (fun j=>Qb (bs j) (Qa (ss j))) k)),.string (Qh (Jo (fun j=>Qb (bs j) (Qa (ss j))) k))]) (by simp[results,results153,go_sem,((Y1.later hb6).set2 _ _).cel]) rfl ⟨rfl,Kq (nxt hB2 hb6) (L3 _) _ _⟩
theorem oR(w:World)(s t:ByteArray)(b b':Bool): mH (w.alloc (.cells #[.bool b,.string s,.bool b',.string t] 30)) (some ⟨w.heap.size,0,none⟩) 2 (fun j=>if j=0 then b else b') (fun j=>if j=0 then s else t):=fun _ =>
 ⟨w.heap.size,0,rfl,fun j hj=>by
  have h:=Bx.new w 30 #[.bool b,.string s,.bool b',.string t]
  have:j=0∨j=1:=by omega
  rcases this with rfl|rfl
  ·exact⟨h.cel 0,h.cel 1⟩
  ·exact⟨h.cel 2,h.cel 3⟩⟩
theorem Ui(s t:ByteArray)(b b':Bool)(w:World)(hs:s.size≤536870912)(ht:t.size≤536870912):
  Calls prog 159 #[.slice (some ⟨w.heap.size,0,none⟩) 2 2] (w.alloc (.cells #[.bool b,.string s,.bool b',.string t] 30)) fun e w'=>e=.returned (.agg #[.bool (neg (Qb b (Qa s)+Qb b' (Qa t))),.string (Qh (Qb b (Qa s)+Qb b' (Qa t)))])∧Below w.heap.size w w':=by
 have h:=I0 _ 2 2 _ _ (w.alloc (.cells #[.bool b,.string s,.bool b',.string t] 30)) (by decide) (fun j=>by split<;>assumption) (oR w s t b b')
 have e:JD (fun j=>Qb (if j=0 then b else b') (Qa (if j=0 then s else t))) 2=Qb b (Qa s)+Qb b' (Qa t):=by
  show(0+Qb b (Qa s))+Qb b' (Qa t)=_
  rw[Int.zero_add]
 rw[e]at h
 exact h.mono fun e w' ⟨he,hb⟩=>⟨he,nxt (b1 _ _) hb⟩
theorem El(s t:ByteArray)(b b':Bool)(w:World)(hs:s.size≤536870912)(ht:t.size≤536870912):
  Calls prog 131 #[.agg #[.bool b,.string s],.agg #[.bool b',.string t]] w fun e w'=>e=.returned (.agg #[.bool (neg (Qb b (Qa s)-Qb b' (Qa t))),.string (Qh (Qb b (Qa s)-Qb b' (Qa t)))])∧Below w.heap.size w w':=by
 have h2:(Qh (-Qb b' (Qa t))).size≤536870912:=by
  rw[QM,D6];exact L8 (XJ _ _) ht
 have cn:=Lib.hid (fun W=>Bh t b' W)
 have ca:=Lib.hid (fun W=>Ui s (Qh (-Qb b' (Qa t))) b (neg (-Qb b' (Qa t))) W hs h2)
 rw[QR,← Int.sub_eq_add_neg]at ca
 clear h2
 go_enter func131,ntmps131
 go_wp2_with fail
 have X1:=((Bx.new w 30 #[.bool b,.string s]).alloc (.cells #[.bool b',.string t] 30)).alloc (.cells #[.bool false,.string ⟨#[]⟩] 30)
 have X2:=(Bx.at1 w (.cells #[.bool b,.string s] 30) 30 #[.bool b',.string t]).alloc (.cells #[.bool false,.string ⟨#[]⟩] 30)
 have X3:=Bx.at2 w (.cells #[.bool b,.string s] 30) (.cells #[.bool b',.string t] 30) 30 #[.bool false,.string ⟨#[]⟩]
 have hB:=b3 w (.cells #[.bool b,.string s] 30) (.cells #[.bool b',.string t] 30) (.cells #[.bool false,.string ⟨#[]⟩] 30)
 generalize ((w.alloc (.cells #[.bool b,.string s] 30)).alloc (.cells #[.bool b',.string t] 30)).alloc (.cells #[.bool false,.string ⟨#[]⟩] 30)=w0 at *
 have hl0:=X1.lt
 have hl1:=X2.lt
 have hl2:=X3.lt
 obtain⟨p1,p2,p3,p4⟩:=(X1).two
 obtain⟨q1,q2,q3,q4⟩:=(X2).two
 obtain⟨r1,r2,r3,r4⟩:=(X3).two
 go_region_held3 (fun w'=>w'.cell? ⟨w.heap.size,0,none⟩=some (.bool b)∧w'.cell? ⟨w.heap.size,1,none⟩=some (.string s)∧w'.cell? ⟨w.heap.size+1,0,none⟩=some (.bool b')∧w'.cell? ⟨w.heap.size+1,1,none⟩=some (.string t)) (first|exact⟨p1,p2,q1,q2⟩|exact⟨L7 hb p1,L7 hb p2,L7 hb q1,L7 hb q2⟩|exact⟨L7 (b1 wn _) (L7 hb p1),L7 (b1 wn _) (L7 hb p2),L7 (b1 wn _) (L7 hb q1),L7 (b1 wn _) (L7 hb q2)⟩|exact⟨L7 hb2 (L7 hb p1),L7 hb2 (L7 hb p2),L7 hb2 (L7 hb q1),L7 hb2 (L7 hb q2)⟩|exact⟨Xh (L7 hb2 (L7 hb p1)) (by omega) _ _,Xh (L7 hb2 (L7 hb p2)) (by omega) _ _,Xh (L7 hb2 (L7 hb q1)) (by omega) _ _,Xh (L7 hb2 (L7 hb q2)) (by omega) _ _⟩)
  (first
   | (go_at_call 155;refine(cn.out w0.drew).mono ?_;rintro e wn ⟨rfl,hb'⟩;have hb:=KJ hb';clear hb')
   | (go_at_call 159;refine(ca.out wn).mono ?_;rintro e wm ⟨rfl,hb2⟩;obtain⟨t1,t2,t3,t4⟩:=((X3.later hb).later hb2).two))
 go_wp2
 exact bodyPost_ret (v:=.agg #[.bool (neg (Qb b (Qa s)-Qb b' (Qa t))),.string (Qh (Qb b (Qa s)-Qb b' (Qa t)))]) (by simp[results,results131,go_sem,(((X3.later hb).later hb2).set2 _ _).cel]) rfl ⟨rfl,Kq (nxt (nxt hB hb) hb2) (Lf _ 2) _ _⟩
theorem dt(s t:ByteArray)(b b':Bool)(w:World)(hs:s.size≤536870912)(ht:t.size≤536870912):
  Calls prog 105 #[.agg #[.bool b,.string s],.agg #[.bool b',.string t]] w fun e w'=>e=.returned (.int .i64 (ZB (Qb b (Qa s)-Qb b' (Qa t))))∧Below w.heap.size w w':=by
 have c1:=Lib.hid (fun W=>El s t b b' W hs ht)
 have c2:=Lib.hid (fun W=>KZ (Qh (Qb b (Qa s)-Qb b' (Qa t))) (neg (Qb b (Qa s)-Qb b' (Qa t))) W)
 rw[QR]at c2
 go_enter func105,ntmps105
 go_wp2_with fail
 refine(c1.out _).mono ?_
 rintro e w1 ⟨rfl,hb⟩
 have hB:=nxt (b2 w _ _) hb
 clear hb
 go_wp2_with fail
 refine(c2.out _).mono ?_
 rintro e w2 ⟨rfl,hb⟩
 go_wp2
 go_ret
 exact⟨rfl,nxt hB hb⟩
