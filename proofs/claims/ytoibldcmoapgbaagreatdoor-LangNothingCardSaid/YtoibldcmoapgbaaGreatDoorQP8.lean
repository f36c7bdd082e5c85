/- Laws beneath the statement. -/
import Derived.Test.YtoibldcmoapgbaaGreatDoorQP7
namespace Go.Proofs.YtoibldcmoapgbaaGreatDoor
open Tryz
set_option maxHeartbeats 4000000
set_option maxRecDepth 100000
open Go.RowKit
theorem Zy(s:ByteArray)(b:Bool)(w:World):
  b9 prog 162 #[.agg #[.string s,.bool b]] w (.agg #[.bool (neg (Qi b (Qa s))),.string (Qx (Qi b (Qa s)))]):=by
 have c:=jt b (Qa s);have d:=D1 b (Qa s);have j:=hV (λW=>M6 s W);generalize Qi b (Qa s)=z at *;generalize Qa s=v at *;have a:=Ip (v:=v);generalize QK v=t at *;by_cases f:v=0
 ·subst f;have m:t.toList=[]:=a.2 rfl;cases b;all_goals
   have g:=hV c;have i:=hV d;clear c d a;go_enter func162,ntmps162
   go_wp2_with (go_at_call 217;refine(j.out _).mono ?_;rintro e wn ⟨rfl,rfl⟩)
   exact bodyPost_ret (v:=.agg #[.bool false,.string t]) (by simp[results,results162,go_sem]) rfl ⟨by rw[g.out,i.out];rfl,b2 _ _ _⟩
 ·have m:t.toList.isEmpty=false:=by
   rw[List.isEmpty_eq_false_iff];exact λh=>f (a.1 h)
  have k:(v==0)=false:=y8 f;rw[k]at c;cases b
  ·have g:=hV c;have i:=hV d;clear c d a k f;go_enter func162,ntmps162
   go_wp2_with (go_at_call 217;refine(j.out _).mono ?_;rintro e wn ⟨rfl,rfl⟩)
   exact bodyPost_ret (v:=.agg #[.bool false,.string t]) (by simp[results,results162,go_sem]) rfl ⟨by rw[g.out,i.out];rfl,b2 _ _ _⟩
  ·have g:=hV c;have i:=hV d;clear c d a k f;go_enter func162,ntmps162
   go_wp2_with (go_at_call 217;refine(j.out _).mono ?_;rintro e wn ⟨rfl,rfl⟩)
   exact bodyPost_ret (v:=.agg #[.bool true,.string t]) (by simp[results,results162,go_sem]) rfl ⟨by rw[g.out,i.out];rfl,b2 _ _ _⟩
theorem FT(s:ByteArray)(b:Bool)(w:World):
  b9 prog 175 #[.agg #[.bool b,.string s]] w (.agg #[.string s,.bool b]):=by
 go_enter func175,ntmps175
 go_wp2
 exact bodyPost_ret (v:=.agg #[.string s,.bool b]) (by simp[results,results175,go_sem]) rfl ⟨rfl,b2 _ _ _⟩
theorem TV(s t:ByteArray)(w:World)(a:s.size<=4294967296)(b:t.size<=4294967296):
  b9 prog 244 #[.string s,.string t] w (.int .i64 (Kw (Qa s) (Qa t))):=by
 go_enter func244,ntmps244
 go_wp2_with (go_at_call 254;refine(j7 s t _ a b).mono ?_;rintro e wn ⟨rfl,d⟩)
 go_ret
 exact⟨rfl,d⟩
theorem Ny(s:ByteArray)(b:Bool)(w:World):
  b9 prog 128 #[.agg #[.bool b,.string s]] w (.agg #[.bool (neg (Qi b (Qa s))),.string (Qx (Qi b (Qa s)))]):=by
 go_enter func128,ntmps128
 go_wp2_with fail
 refine(FT s b _).mono ?_
 rintro e k ⟨rfl,c⟩;have j:=(Bx.at1 w _ _ _).later c;have d:=nxt (b2 w _ _) c;go_wp2_with fail
 refine(Zy s b _).mono ?_
 rintro e l ⟨rfl,a⟩;have g:=j.later a;have f:=nxt d a;obtain⟨m,r1,n,o⟩:=g.two;clear c a;go_wp2
 exact bodyPost_ret (v:=.agg #[.bool (neg (Qi b (Qa s))),.string (Qx (Qi b (Qa s)))]) (by simp[results,results128,go_sem,(g.set2 _ _).cel]) rfl ⟨rfl,Mh f (Nat.le_succ _) _ _⟩
theorem O8(a b:u4)(w:y9)(t:u6)(k:a.size<=1073741824)(c:b.size<=1073741824):
  Calls prog 243 #[.slice (some ⟨w.heap.size,0,none⟩) 2 2] (w.alloc (.cells #[.string a,.string b] t)) λe d=>e=.returned (.string (QK (Qa a+Qa b)))/\Below w.heap.size w d:=by
 have h:=(Cel.new w t #[.string a,.string b]).rd (o:=0) (n:=2) x6;have f:Rd (w.alloc (.cells #[.string a,.string b] t)) (some ⟨w.heap.size,0,none⟩) 2 (λj=>.string (if j=0 then a else b)):=h.congr λj l=>by
  have:j=0\/j=1:=x3;rcases this with rfl|rfl<;>rfl
 have g:Ve (λj=>Qa (if j=0 then a else b)) 2=Qa a+Qa b:=by simp[Ve]
 refine(j6 _ 2 2 (λj=>if j=0 then a else b) _ x4 (λj=>by split<;>assumption) f).mono λe d ⟨i,c⟩=>⟨by rw[i,g],nxt (b1 _ _) c⟩
theorem fJ(s t:ByteArray)(b:Bool)(w:World)(j:s.size<=1073741824)(k:t.size<=1073741824):
  b9 prog 221 #[.agg #[.string s,.bool b],.agg #[.string t,.bool b]] w (.agg #[.string (QK (Qa s+Qa t)),.bool b]):=by
 go_enter func221,ntmps221
 go_wp2_with fail
 have g:=((Bx.new w 237 #[.string s,.bool b]).alloc (.cells #[.string t,.bool b] 237)).alloc (.cells #[.string ⟨#[]⟩,.bool false] 237);have i:=(Bx.at1 w (.cells #[.string s,.bool b] 237) 237 #[.string t,.bool b]).alloc (.cells #[.string ⟨#[]⟩,.bool false] 237);have f:=Bx.at2 w (.cells #[.string s,.bool b] 237) (.cells #[.string t,.bool b] 237) 237 #[.string ⟨#[]⟩,.bool false];have l:=b3 w (.cells #[.string s,.bool b] 237) (.cells #[.string t,.bool b] 237) (.cells #[.string ⟨#[]⟩,.bool false] 237);generalize ((w.alloc (.cells #[.string s,.bool b] 237)).alloc (.cells #[.string t,.bool b] 237)).alloc (.cells #[.string ⟨#[]⟩,.bool false] 237)=m at *;have n:=g.lt;have o:=i.lt;have p:=f.lt;obtain⟨q,r,u,x⟩:=(g).two;obtain⟨q1,y,z,A⟩:=(i).two;obtain⟨r1,B,C,D⟩:=(f).two;go_region_held3 (λa=>a.cell? ⟨w.heap.size,0,none⟩=some (.string s)/\a.cell? ⟨w.heap.size,1,none⟩=some (.bool b)/\a.cell? ⟨w.heap.size+1,0,none⟩=some (.string t)/\a.cell? ⟨w.heap.size+1,1,none⟩=some (.bool b)) ((repeat' apply k0)<;>(first|assumption|exact Ld c (by assumption)|exact ZM (Ld c (by assumption)) x3 _ _|exact ZM (by assumption) x3 _ _|go_keep))
  (first|(go_at_call 243;refine(O8 s t m.drew _ j k).mono ?_;rintro e wn ⟨rfl,d⟩;have c:=EK d;clear d;obtain⟨s1,E,F,s4⟩:=(f.later c).two))
 go_wp2
 exact bodyPost_ret (v:=.agg #[.string (QK (Qa s+Qa t)),.bool b]) (by simp[results,results221,go_sem,((f.later c).set2 _ _).cel]) rfl ⟨rfl,Mh (nxt l c) (Rg _ 2) _ _⟩
theorem pK(s t:ByteArray)(b a:Bool)(w:World)(hs:s.size<=1073741824)(ht:t.size<=1073741824)(C:(b==a)=false)(i:Qa t<=Qa s):
  b9 prog 221 #[.agg #[.string s,.bool b],.agg #[.string t,.bool a]] w (.agg #[.string (QK (Qa s-Qa t)),.bool b]):=by
 have E:=hV (λW=>TV s t W x3 x3);have A:=hV (λW=>RA s t W x3 x3);have h0:¬ Kw (Qa s) (Qa t)<0:=λh=>y6 (cmpI_lt.1 h)
 rw[if_neg x3]at A;clear i;go_enter func221,ntmps221
 go_wp2_with fail
 have f:=((Bx.new w 237 #[.string s,.bool b]).alloc (.cells #[.string t,.bool a] 237)).alloc (.cells #[.string ⟨#[]⟩,.bool false] 237);have j:=(Bx.at1 w (.cells #[.string s,.bool b] 237) 237 #[.string t,.bool a]).alloc (.cells #[.string ⟨#[]⟩,.bool false] 237);have g:=Bx.at2 w (.cells #[.string s,.bool b] 237) (.cells #[.string t,.bool a] 237) 237 #[.string ⟨#[]⟩,.bool false];have F:=b3 w (.cells #[.string s,.bool b] 237) (.cells #[.string t,.bool a] 237) (.cells #[.string ⟨#[]⟩,.bool false] 237);generalize ((w.alloc (.cells #[.string s,.bool b] 237)).alloc (.cells #[.string t,.bool a] 237)).alloc (.cells #[.string ⟨#[]⟩,.bool false] 237)=w0 at *;have G:=f.lt;have H:=j.lt;have I:=g.lt;obtain⟨J,K,L,M⟩:=(f).two;obtain⟨q1,N,O,P⟩:=(j).two;obtain⟨r1,Q,R,S⟩:=(g).two;refine(E.out _).mono ?_
 rintro e w1 ⟨rfl,d⟩;obtain⟨k,l,m,n⟩:=(f.later d).two;obtain⟨o,p,q,r⟩:=(j.later d).two;obtain⟨u,x,y,z⟩:=(g.later d).two;clear J K L M q1 N O P r1 Q R S;go_wp2_with fail
 refine(A.out _).mono ?_
 rintro e w2 ⟨rfl,c⟩;have T:=(f.later d).later c;have B:=(g.later d).later c;obtain⟨U,V,X,Y⟩:=(T).two;obtain⟨Z,ad,ae,ag⟩:=(B).two;clear k l m n o p q r u x y z;go_wp2
 exact bodyPost_ret (v:=.agg #[.string (QK (Qa s-Qa t)),.bool b]) (by simp[results,results221,go_sem,(B.set2 _ _).cel]) rfl ⟨rfl,Mh (nxt (nxt F d) c) (Rg _ 2) _ _⟩
theorem pM(s t:ByteArray)(b a:Bool)(w:World)(hs:s.size<=1073741824)(ht:t.size<=1073741824)(F:(b==a)=false)(f:Qa s<Qa t):
  b9 prog 221 #[.agg #[.string s,.bool b],.agg #[.string t,.bool a]] w (.agg #[.string (QK (Qa t-Qa s)),.bool a]):=by
 have H:=hV (λW=>TV s t W x3 x3);have D:=hV (λW=>RA t s W x3 x3);have h0:Kw (Qa s) (Qa t)<0:=cmpI_lt.2 f;rw[if_neg x3]at D;clear f;go_enter func221,ntmps221
 go_wp2_with fail
 have g:=((Bx.new w 237 #[.string s,.bool b]).alloc (.cells #[.string t,.bool a] 237)).alloc (.cells #[.string ⟨#[]⟩,.bool false] 237);have j:=(Bx.at1 w (.cells #[.string s,.bool b] 237) 237 #[.string t,.bool a]).alloc (.cells #[.string ⟨#[]⟩,.bool false] 237);have i:=Bx.at2 w (.cells #[.string s,.bool b] 237) (.cells #[.string t,.bool a] 237) 237 #[.string ⟨#[]⟩,.bool false];have I:=b3 w (.cells #[.string s,.bool b] 237) (.cells #[.string t,.bool a] 237) (.cells #[.string ⟨#[]⟩,.bool false] 237);generalize ((w.alloc (.cells #[.string s,.bool b] 237)).alloc (.cells #[.string t,.bool a] 237)).alloc (.cells #[.string ⟨#[]⟩,.bool false] 237)=w0 at *;have J:=g.lt;have K:=j.lt;have L:=i.lt;obtain⟨M,N,O,P⟩:=(g).two;obtain⟨q1,Q,R,S⟩:=(j).two;obtain⟨r1,T,U,V⟩:=(i).two;refine(H.out _).mono ?_
 rintro e w1 ⟨rfl,d⟩;obtain⟨k,l,m,n⟩:=(g.later d).two;obtain⟨o,q,r,u⟩:=(j.later d).two;obtain⟨x,y,z,A⟩:=(i.later d).two;clear M N O P q1 Q R S r1 T U V;go_wp2_with fail
 have Z1:=(g.later d).set2 (.string t) (.bool a);have B:=(Z1.far (p:=⟨w.heap.size+1,0,none⟩) x6 (.string s)).far (p:=⟨w.heap.size+1,1,none⟩) x6 (.bool b);have X:=((((i.later d).far (p:=⟨w.heap.size,0,none⟩) x6 (.string t)).far (p:=⟨w.heap.size,1,none⟩) x6 (.bool a)).far (p:=⟨w.heap.size+1,0,none⟩) x6 (.string s)).far (p:=⟨w.heap.size+1,1,none⟩) x6 (.bool b);have C:=Mh (Mh (nxt I d) (L8 _) (.string t) (.bool a)) (Rg w.heap.size 1) (.string s) (.bool b);refine(D.out _).mono ?_
 rintro e w2 ⟨rfl,c⟩;have Y:=B.later c;have E:=X.later c;obtain⟨Z,ad,ae,ag⟩:=(Y).two;obtain⟨al,ao,aw,aB⟩:=(E).two;clear k l m n o q r u x y z A;go_wp2
 exact bodyPost_ret (v:=.agg #[.string (QK (Qa t-Qa s)),.bool a]) (by simp[results,results221,go_sem,(E.set2 _ _).cel]) rfl ⟨rfl,Mh (nxt C c) (Rg _ 2) _ _⟩
theorem jx(b a:Bool)(u v:Nat): (b=a->Qi b u+Qi a v=Qi b (u+v))/\((b==a)=false->v<=u->Qi b u+Qi a v=Qi b (u-v))/\((b==a)=false->u<v->Qi b u+Qi a v=Qi a (v-u)):=by
 cases b<;>cases a<;>simp[Qi]<;>omega
theorem gA(s t:u4)(b f:Bool)(w:y9)(j:s.size<=1073741824)(k:t.size<=1073741824):
  Calls prog 221 #[.agg #[.string s,.bool b],.agg #[.string t,.bool f]] w λe i=>∃c,e=.returned (.agg #[.string (Qx (Qi b (Qa s)+Qi f (Qa t))),.bool c])/\Qi c (Qi b (Qa s)+Qi f (Qa t)).natAbs=Qi b (Qa s)+Qi f (Qa t)/\Below w.heap.size w i:=by
 obtain⟨l,m,n⟩:=jx b f (Qa s) (Qa t);cases a:(b==f)
 ·rcases Lx (Qa s) (Qa t)with d|d
  ·rw[n a d];exact(pM s t b f w j k a d).mono λe i ⟨g,h⟩=>⟨f,by rw[g,D1],by rw[Xv],h⟩
  ·rw[m a d];exact(pK s t b f w j k a d).mono λe i ⟨g,h⟩=>⟨b,by rw[g,D1],by rw[Xv],h⟩
 ·have e:b=f:=y8 a;subst e;rw[l rfl];exact(fJ s t b w j k).mono λe i ⟨g,h⟩=>⟨b,by rw[g,D1],by rw[Xv],h⟩
theorem gq(s t:ByteArray)(b a:Bool)(w:World)(q:s.size<=1073741824)(r:t.size<=1073741824):
  b9 prog 220 #[.agg #[.string s,.bool b],.agg #[.string t,.bool a]] w (.agg #[.string (QK (Qa s*Qa t)),.bool (b != a)]):=by
 have k:=hV (λW=>P9 s t W x3 x3);go_enter func220,ntmps220
 go_wp2_with fail
 have i:=((Bx.new w 237 #[.string s,.bool b]).alloc (.cells #[.string t,.bool a] 237)).alloc (.cells #[.string ⟨#[]⟩,.bool false] 237);have j:=(Bx.at1 w (.cells #[.string s,.bool b] 237) 237 #[.string t,.bool a]).alloc (.cells #[.string ⟨#[]⟩,.bool false] 237);have g:=Bx.at2 w (.cells #[.string s,.bool b] 237) (.cells #[.string t,.bool a] 237) 237 #[.string ⟨#[]⟩,.bool false];have l:=b3 w (.cells #[.string s,.bool b] 237) (.cells #[.string t,.bool a] 237) (.cells #[.string ⟨#[]⟩,.bool false] 237);generalize ((w.alloc (.cells #[.string s,.bool b] 237)).alloc (.cells #[.string t,.bool a] 237)).alloc (.cells #[.string ⟨#[]⟩,.bool false] 237)=m at *;have n:=i.lt;have o:=j.lt;have p:=g.lt;obtain⟨u,x,y,z⟩:=(i).two;obtain⟨q1,A,B,C⟩:=(j).two;obtain⟨r1,D,E,F⟩:=(g).two;go_region_held3 (λc=>c.cell? ⟨w.heap.size,0,none⟩=some (.string s)/\c.cell? ⟨w.heap.size,1,none⟩=some (.bool b)/\c.cell? ⟨w.heap.size+1,0,none⟩=some (.string t)/\c.cell? ⟨w.heap.size+1,1,none⟩=some (.bool a)) ((repeat' apply k0)<;>(first|assumption|exact Ld d (by assumption)|exact ZM (Ld d (by assumption)) x3 _ _|exact ZM (by assumption) x3 _ _|go_keep))
  (first|(go_at_call 242;refine(k.out m.drew).mono ?_;rintro e wn ⟨rfl,f⟩;have d:=EK f;clear f;obtain⟨s1,G,H,s4⟩:=(g.later d).two))
 go_wp2
 exact bodyPost_ret (v:=.agg #[.string (QK (Qa s*Qa t)),.bool (b != a)]) (by simp[results,results220,go_sem,((g.later d).set2 _ _).cel];cases b<;>cases a<;>rfl) rfl ⟨rfl,Mh (nxt l d) (Rg _ 2) _ _⟩
theorem jv(b a:Bool)(u v:Nat): Qi b u*Qi a v=Qi (b != a) (u*v):=by
 cases b<;>cases a<;>simp only[Qi,bne_self_eq_false,Tp,if_false,if_true,Int.neg_mul,Int.mul_neg,Ts,Tx,show(false != true)=true from rfl,show(true != false)=true from rfl]
theorem aF(s t:u4)(b a:Bool)(w:y9)(f:s.size<=1073741824)(g:t.size<=1073741824):
  Calls prog 220 #[.agg #[.string s,.bool b],.agg #[.string t,.bool a]] w λe d=>∃c,e=.returned (.agg #[.string (Qx (Qi b (Qa s)*Qi a (Qa t))),.bool c])/\Qi c (Qi b (Qa s)*Qi a (Qa t)).natAbs=Qi b (Qa s)*Qi a (Qa t)/\Below w.heap.size w d:=by
 rw[jv];exact(gq s t b a w f g).mono λe d ⟨h,i⟩=>⟨b != a,by rw[h,D1],by rw[Xv],i⟩
theorem IU(s:ByteArray)(b:Bool)(w:World):
  b9 prog 172 #[.agg #[.bool b,.string s]] w (.agg #[.bool (neg (-Qi b (Qa s))),.string (Qx (-Qi b (Qa s)))]):=by
 rw[<- ju];go_enter func172,ntmps172
 go_wp2_with fail
 have f:=(Bx.new w 30 #[.bool b,.string s]).alloc (.cells #[.bool false,.string ⟨#[]⟩] 30);have a:=Bx.at1 w (.cells #[.bool b,.string s] 30) 30 #[.bool false,.string ⟨#[]⟩];have g:=b2 w (.cells #[.bool b,.string s] 30) (.cells #[.bool false,.string ⟨#[]⟩] 30);generalize (w.alloc (.cells #[.bool b,.string s] 30)).alloc (.cells #[.bool false,.string ⟨#[]⟩] 30)=k at *;have i:=f.lt;have j:=a.lt;refine(Zy s (!b) _).mono ?_
 rintro e l ⟨rfl,c⟩;obtain⟨r1,m,n,o⟩:=(a.later c).two;go_wp2
 exact bodyPost_ret (v:=.agg #[.bool (neg (Qi (!b) (Qa s))),.string (Qx (Qi (!b) (Qa s)))]) (by simp[results,results172,go_sem,((a.later c).set2 _ _).cel]) rfl ⟨rfl,Mh (nxt g c) (Rg _ 1) _ _⟩
theorem rH(v:Nat)(w:World)(m:0<v)(n:v<=9223372036854775808):
  b9 prog 165 #[.int .i64 (-(v:Int))] w (.agg #[.bool (neg (-(v:Int))),.string (Qx (-(v:Int)))]):=by
 have hi:Qi true (Qa (QK v))=-(v:Int):=by rw[Yl];rfl
 have d:=hV (λW=>Zy (QK v) true W);rw[hi]at d;have j:IntKind.u64.wrap (-(v:Int))=18446744073709551616-(v:Int):=by rw[o0];omega
 have k:IntKind.u64.wrap (-(18446744073709551616-(v:Int)))=(v:Int):=by rw[o0];omega
 have co:=hV (λW=>FB v W (by rw[ZW];omega));clear hi;go_enter func165,ntmps165
 have X:=Bx.new w 30 #[.bool false,.string ⟨#[]⟩];go_wp2_with fail
 refine(co.out _).mono ?_
 rintro e o ⟨rfl,b⟩;have f:=X.later b;have l:=nxt (b1 w _) b;clear b X;go_wp2_with fail
 refine(d.out _).mono ?_
 rintro e p ⟨rfl,a⟩;have g:=f.later a;have c:=nxt l a;clear a f;obtain⟨r1,q,r,s⟩:=g.two;go_wp2
 exact bodyPost_ret (v:=.agg #[.bool (neg (-(v:Int))),.string (Qx (-(v:Int)))]) (by simp[results,results165,go_sem,(g.set2 _ _).cel]) rfl ⟨rfl,Mh c (L8 _) _ _⟩
theorem rI(v:Nat)(w:World)(l:v<=9223372036854775807):
  b9 prog 165 #[.int .i64 (v:Int)] w (.agg #[.bool (neg ((v:Int))),.string (Qx ((v:Int)))]):=by
 have hi:Qi false (Qa (QK v))=(v:Int):=by rw[Yl];rfl
 have d:=hV (λW=>Zy (QK v) false W);rw[hi]at d;have j:IntKind.u64.wrap (v:Int)=(v:Int):=by rw[o0];omega
 have co:=hV (λW=>FB v W (by rw[ZW];omega));clear hi;go_enter func165,ntmps165
 have X:=Bx.new w 30 #[.bool false,.string ⟨#[]⟩];go_wp2_with fail
 refine(co.out _).mono ?_
 rintro e m ⟨rfl,b⟩;have f:=X.later b;have k:=nxt (b1 w _) b;clear b X;go_wp2_with fail
 refine(d.out _).mono ?_
 rintro e n ⟨rfl,a⟩;have g:=f.later a;have c:=nxt k a;clear a f;obtain⟨r1,o,p,q⟩:=g.two;go_wp2
 exact bodyPost_ret (v:=.agg #[.bool (neg ((v:Int))),.string (Qx ((v:Int)))]) (by simp[results,results165,go_sem,(g.set2 _ _).cel]) rfl ⟨rfl,Mh c (L8 _) _ _⟩
theorem Dv(n:Int)(w:y9)(b:-9223372036854775808<=n)(c:n<=9223372036854775807):
  b9 prog 165 #[.int .i64 n] w (.agg #[.bool (neg n),.string (Qx n)]):=by
 by_cases h:n<0
 ·obtain⟨v,rfl⟩:∃v:Nat,n=-(v:Int):=⟨n.natAbs,x3⟩
  exact rH v w x3 x3
 ·obtain⟨v,rfl⟩:∃v:Nat,n=(v:Int):=⟨n.natAbs,x3⟩
  exact rI v w x3
theorem mag_empty{z:Int}: (Qx z).toList=[]↔z=0:=by
 unfold Qx;rw[Ip];omega
theorem jY{z:Int}(h:z≠0): (Qx z).toList.isEmpty=false:=by
 rw[List.isEmpty_eq_false_iff];exact λe=>h (mag_empty.1 e)
theorem VD(s:ByteArray)(b:Bool)(w:World):
  b9 prog 97 #[.agg #[.bool b,.string s]] w (.int .i64 (JZ (Qi b (Qa s)))):=by
 have d:=hV (λW=>Ny s b W);generalize Qi b (Qa s)=z at *;rcases Ue z 0 with h|h|h
 ·have f:neg z=true:=Lz h;have a:=hV (show JZ z=-1 by unfold JZ;rw[if_pos h]);clear h;go_enter func97,ntmps97
  go_wp2_with fail
  refine(d.out _).mono ?_
  rintro e g ⟨rfl,c⟩;go_wp2
  go_ret
  exact⟨by rw[a.out];rfl,Vp (nxt (b1 w _) c) _⟩
 ·have f:neg z=false:=Lh x3;have j:(Qx z).toList=[]:=mag_empty.2 h;have a:=hV (show JZ z=0 from sgn_eq.2 h);clear h;go_enter func97,ntmps97
  go_wp2_with fail
  refine(d.out _).mono ?_
  rintro e g ⟨rfl,c⟩;go_wp2
  go_ret
  exact⟨by rw[a.out];rfl,Vp (nxt (b1 w _) c) _⟩
 ·have f:neg z=false:=Lh x3;have j:(Qx z).toList.isEmpty=false:=jY x3;have a:=hV (show JZ z=1 by unfold JZ;rw[if_neg x3,if_neg x3]);clear h;go_enter func97,ntmps97
  go_wp2_with fail
  refine(d.out _).mono ?_
  rintro e g ⟨rfl,c⟩;go_wp2
  go_ret
  exact⟨by rw[a.out];rfl,Vp (nxt (b1 w _) c) _⟩
def xh(w:y9)(A:u5)(n:Nat)(bs:Nat->Bool)(a:Nat->u4): Prop :=
 0<n->∃b off,A=some ⟨b,off,none⟩/\∀j,j<n->w.cell? ⟨b,off+j*2,none⟩=some (.bool (bs j))/\w.cell? ⟨b,off+j*2+1,none⟩=some (.string (a j))
theorem TQ(A:Option Addr)(n c:Nat)(bs:Nat->Bool)(a:Nat->ByteArray)(w:World)(hn:n<=268435456)(z:∀j,(a j).size<=536870912)(I:xh w A n bs a):
  b9 prog 176 #[.slice A n c] w (.agg #[.bool (neg (KY (λj=>Qi (bs j) (Qa (a j))) n)),.string (Qx (KY (λj=>Qi (bs j) (Qa (a j))) n))]):=by
 have S:=hV z;have r:∀k,Zq (KY (λj=>Qi (bs j) (Qa (a j))) k)<=536870912+k:=λk=>F3 (λj=>L9 (GD _ _) (z j)) k
 have T:=hV r;clear z r;go_enter func176,ntmps176
 have U:=(Bx.new w 30 #[.bool false,.string ⟨#[]⟩]).alloc (.cells #[.string ⟨#[]⟩,.bool false] 237);have V:=Bx.at1 w (.cells #[.bool false,.string ⟨#[]⟩] 30) 237 #[.string ⟨#[]⟩,.bool false];have X:=b2 w (.cells #[.bool false,.string ⟨#[]⟩] 30) (.cells #[.string ⟨#[]⟩,.bool false] 237);go_wp2_with fail
 generalize (w.alloc (.cells #[.bool false,.string ⟨#[]⟩] 30)).alloc (.cells #[.string ⟨#[]⟩,.bool false] 237)=w0 at *;go_loopw [8] (λi wr=>∃k:Nat,∃d:Bool,k<=n/\i=.int .i64 (k:Nat)/\Hid (Qi d (KY (λj=>Qi (bs j) (Qa (a j))) k).natAbs=KY (λj=>Qi (bs j) (Qa (a j))) k)/\Bx wr w.heap.size 30 #[.bool false,.string ⟨#[]⟩]/\Bx wr (w.heap.size+1) 237 #[.string (Qx (KY (λj=>Qi (bs j) (Qa (a j))) k)),.bool d]/\Below w.heap.size w wr) (λi _=>n-(intOf i).toNat)
 case atStart=>exact⟨0,false,La _,rfl,rfl,U,V,X⟩
 case round =>
  obtain⟨k,d,hk,rfl,hd,y,B,f⟩:=hrel;obtain⟨Y,Z,p3,p4⟩:=y.two;obtain⟨q1,J,K,L⟩:=B.two;by_cases m:k<n
  ·obtain⟨b,off,rfl,C⟩:=I x3;have g1:=Ld f (C k m).1;have g2:=Ld f (C k m).2;clear C I;have ad:w.heap.size+1<wr.heap.size:=B.lt;have M:=Bx.new wr 30 #[.bool (bs k),.string (a k)];have Z1:=y.alloc (.cells #[.bool (bs k),.string (a k)] 30);have Z2:=B.alloc (.cells #[.bool (bs k),.string (a k)] 30);have D:=Vp f (.cells #[.bool (bs k),.string (a k)] 30);have E:=S.out k;have F:=T.out k;have HD:=hV (show KY (λj=>Qi (bs j) (Qa (a j))) (k+1)=Qi d (Qa (Qx (KY (λj=>Qi (bs j) (Qa (a j))) k)))+Qi (bs k) (Qa (a k))by
    rw[KZ,hd.out];rfl)
   have s:(Qx (KY (λj=>Qi (bs j) (Qa (a j))) k)).size<=1073741824:=by rw[XF];omega
   have l:(a k).size<=1073741824:=x3;have G:=hV (λW=>gA (Qx (KY (λj=>Qi (bs j) (Qa (a j))) k)) (a k) d (bs k) W s l);rw[<- HD.out]at G;clear E F s l;obtain⟨N,o⟩:∃N,N=KY (λj=>Qi (bs j) (Qa (a j))) (k+1):=⟨_,rfl⟩
   rw[<- o]at G;have O:=hV o;clear o;go_wp2_with fail
   generalize wr.alloc (.cells #[.bool (bs k),.string (a k)] 30)=P at *;obtain⟨z1,z2,_,_⟩:=M.two;clear Y Z p3 p4 q1 J K L;obtain⟨q1,J,K,L⟩:=Z2.two;have ae:wr.heap.size<P.heap.size:=M.lt;go_region_with
    (first
     | (go_at_call 175;refine(FT (a k) (bs k) P.drew).mono ?_;rintro e wn ⟨rfl,t⟩;have u:=EK t;clear t;obtain⟨s1,s2,s3,s4⟩:=(Z2.later u).two)
     | (go_at_call 221;refine(G.out wn).mono ?_;rintro e wm ⟨d',rfl,x,g⟩;have H:=hV x;clear x;obtain⟨t1,t2,t3,t4⟩:=((Z2.later u).later g).two))
   all_goals
    go_wp2
    exact⟨⟨k+1,d',m,by go_num,by rw[<- O.out];exact H.out,(((Z1.later u).later g).far (p:=⟨w.heap.size+1,0,none⟩) x6 _).far (p:=⟨w.heap.size+1,1,none⟩) x6 _,by rw[<- O.out];exact((Z2.later u).later g).set2 _ _,Mh (nxt (nxt D u) g) (Rg _ 1) _ _⟩,by simp[intOf];omega⟩
  ·obtain rfl:k=n:=x3;have Q:=hV (λW=>Zy (Qx (KY (λj=>Qi (bs j) (Qa (a j))) k)) d W);rw[KZ,hd.out]at Q;go_wp2_with fail
   refine(Q.out _).mono ?_
   rintro e w6 ⟨rfl,q⟩;obtain⟨s1,s2,s3,s4⟩:=(y.later q).two;go_wp2
   exact bodyPost_ret (v:=.agg #[.bool (neg (KY (λj=>Qi (bs j) (Qa (a j))) k)),.string (Qx (KY (λj=>Qi (bs j) (Qa (a j))) k))]) (by simp[results,results176,go_sem,((y.later q).set2 _ _).cel]) rfl ⟨rfl,Mh (nxt f q) (L8 _) _ _⟩
theorem mT(A:Option Addr)(n c:Nat)(bs:Nat->Bool)(a:Nat->ByteArray)(S:Nat)(w:World)(hn:n<=268435456)(hS:S<=1073741824)(H:∀j,(a j).size<=S)(I:S*n<=1073741823)(Q:xh w A n bs a):
  b9 prog 170 #[.slice A n c] w (.agg #[.bool (neg (Kt (λj=>Qi (bs j) (Qa (a j))) n)),.string (Qx (Kt (λj=>Qi (bs j) (Qa (a j))) n))]):=by
 have HS:=hV H;have z:∀k,k<=n->Zq (Kt (λj=>Qi (bs j) (Qa (a j))) k)<=1073741824:=λk J=>by
  have h1:=Mr (f:=λj=>Qi (bs j) (Qa (a j))) (S:=S) (λj=>L9 (GD _ _) (H j)) k;have h2:S*k<=S*n:=R4 _ J;omega
 have HB:=hV z;clear H z I;have c1:=hV (λW=>Dv 1 W x4 x4);go_enter func170,ntmps170
 have q:=Bx.new w 30 #[.bool false,.string ⟨#[]⟩];have s:=b1 w (.cells #[.bool false,.string ⟨#[]⟩] 30);go_wp2_with fail
 refine(c1.out _).mono ?_
 rintro e w1 ⟨rfl,l⟩;replace q:=q.later l;replace s:=nxt s l;clear l;go_wp2_with fail
 refine(FT _ _ w1).mono ?_
 rintro e F ⟨rfl,l⟩;replace q:=q.later l;replace s:=nxt s l;clear l;have K:w.heap.size<F.heap.size:=q.lt;have X2:=Bx.new F 237 #[.string (Qx 1),.bool (neg 1)];replace q:=q.alloc (.cells #[.string (Qx 1),.bool (neg 1)] 237);replace s:=Vp s (.cells #[.string (Qx 1),.bool (neg 1)] 237);go_wp2_with fail
 generalize F.alloc (.cells #[.string (Qx 1),.bool (neg 1)] 237)=w0 at *;generalize F.heap.size=g at *;go_loopw [10] (λi wr=>∃k:Nat,∃d:Bool,k<=n/\i=.int .i64 (k:Nat)/\Hid (Qi d (Kt (λj=>Qi (bs j) (Qa (a j))) k).natAbs=Kt (λj=>Qi (bs j) (Qa (a j))) k)/\Bx wr w.heap.size 30 #[.bool false,.string ⟨#[]⟩]/\Bx wr g 237 #[.string (Qx (Kt (λj=>Qi (bs j) (Qa (a j))) k)),.bool d]/\Below w.heap.size w wr) (λi _=>n-(intOf i).toNat)
 case atStart=>exact⟨0,neg 1,La _,rfl,(by show Qi (neg 1) (1:Int).natAbs=1;rfl),q,X2,s⟩
 case round =>
  obtain⟨k,d,J,rfl,hd,G,L,t⟩:=hrel;obtain⟨p1,p2,p3,p4⟩:=G.two;obtain⟨q1,R,T,U⟩:=L.two;by_cases u:k<n
  ·obtain⟨b,off,rfl,M⟩:=Q x3;have m:Below w.heap.size w wr:=t;have g1:=Ld m (M k u).1;have g2:=Ld m (M k u).2;clear M Q;have ad:g<wr.heap.size:=L.lt;have V:=Bx.new wr 30 #[.bool (bs k),.string (a k)];have Z1:=G.alloc (.cells #[.bool (bs k),.string (a k)] 30);have Z2:=L.alloc (.cells #[.bool (bs k),.string (a k)] 30);have m:=Vp t (.cells #[.bool (bs k),.string (a k)] 30);have N:=HS.out k;have B:=HB.out k J;have HD:=hV (show Kt (λj=>Qi (bs j) (Qa (a j))) (k+1)=Qi d (Qa (Qx (Kt (λj=>Qi (bs j) (Qa (a j))) k)))*Qi (bs k) (Qa (a k))by
    rw[KZ,hd.out];rfl)
   have C:(Qx (Kt (λj=>Qi (bs j) (Qa (a j))) k)).size<=1073741824:=by rw[XF];exact B
   have r:(a k).size<=1073741824:=x3;have O:=hV (λW=>aF (Qx (Kt (λj=>Qi (bs j) (Qa (a j))) k)) (a k) d (bs k) W C r);rw[<- HD.out]at O;clear N B C r;obtain⟨X,x⟩:∃X,X=Kt (λj=>Qi (bs j) (Qa (a j))) (k+1):=⟨_,rfl⟩
   rw[<- x]at O;have Y:=hV x;clear x;go_wp2_with fail
   generalize wr.alloc (.cells #[.bool (bs k),.string (a k)] 30)=Z at *;obtain⟨z1,z2,_,_⟩:=V.two;clear p1 p2 p3 p4 q1 R T U;obtain⟨q1,R,T,U⟩:=Z2.two;have ae:wr.heap.size<Z.heap.size:=V.lt;go_region_with
    (first
     | (go_at_call 175;refine(FT (a k) (bs k) Z.drew).mono ?_;rintro e wn ⟨rfl,D⟩;have l:=EK D;clear D;obtain⟨s1,s2,s3,s4⟩:=(Z2.later l).two)
     | (go_at_call 220;refine(O.out wn).mono ?_;rintro e wm ⟨d',rfl,E,o⟩;have P:=hV E;clear E;obtain⟨t1,t2,t3,t4⟩:=((Z2.later l).later o).two))
   all_goals
    go_wp2
    exact⟨⟨k+1,d',u,by go_num,by rw[<- Y.out];exact P.out,(((Z1.later l).later o).far (p:=⟨g,0,none⟩) (Ry K) _).far (p:=⟨g,1,none⟩) (Ry K) _,by rw[<- Y.out];exact((Z2.later l).later o).set2 _ _,Mh (nxt (nxt m l) o) (Sf K) _ _⟩,by simp[intOf];omega⟩
  ·obtain rfl:k=n:=x3;have cm:=hV (λW=>Zy (Qx (Kt (λj=>Qi (bs j) (Qa (a j))) k)) d W);rw[KZ,hd.out]at cm;go_wp2_with fail
   refine(cm.out _).mono ?_
   rintro e w6 ⟨rfl,y⟩;obtain⟨s1,s2,s3,s4⟩:=(G.later y).two;go_wp2
   exact bodyPost_ret (v:=.agg #[.bool (neg (Kt (λj=>Qi (bs j) (Qa (a j))) k)),.string (Qx (Kt (λj=>Qi (bs j) (Qa (a j))) k))]) (by simp[results,results170,go_sem,((G.later y).set2 _ _).cel]) rfl ⟨rfl,Mh (nxt t y) (L8 _) _ _⟩
theorem QaJ(w:y9)(s t:u4)(b a:Bool): xh (w.alloc (.cells #[.bool b,.string s,.bool a,.string t] 30)) (some ⟨w.heap.size,0,none⟩) 2 (λj=>if j=0 then b else a) (λj=>if j=0 then s else t):=λ_ =>
 ⟨w.heap.size,0,rfl,λj c=>by
  have h:=Bx.new w 30 #[.bool b,.string s,.bool a,.string t];have:j=0\/j=1:=x3;rcases this with rfl|rfl
  ·exact⟨h.cel 0,h.cel 1⟩
  ·exact⟨h.cel 2,h.cel 3⟩⟩
theorem gz(s t:u4)(b a:Bool)(w:y9)(g:s.size<=536870912)(i:t.size<=536870912):
  Calls prog 176 #[.slice (some ⟨w.heap.size,0,none⟩) 2 2] (w.alloc (.cells #[.bool b,.string s,.bool a,.string t] 30)) λe c=>e=.returned (.agg #[.bool (neg (Qi b (Qa s)+Qi a (Qa t))),.string (Qx (Qi b (Qa s)+Qi a (Qa t)))])/\Below w.heap.size w c:=by
 have h:=TQ _ 2 2 _ _ (w.alloc (.cells #[.bool b,.string s,.bool a,.string t] 30)) x4 (λj=>by split<;>assumption) (QaJ w s t b a)
 have e:KY (λj=>Qi (if j=0 then b else a) (Qa (if j=0 then s else t))) 2=Qi b (Qa s)+Qi a (Qa t):=by
  show(0+Qi b (Qa s))+Qi a (Qa t)=_;rw[Int.zero_add]
 rw[e]at h;exact h.mono λe c ⟨d,f⟩=>⟨d,nxt (b1 _ _) f⟩
theorem IV(s t:ByteArray)(b d:Bool)(w:World)(q:s.size<=536870912)(r:t.size<=536870912):
  b9 prog 130 #[.agg #[.bool b,.string s],.agg #[.bool d,.string t]] w (.agg #[.bool (neg (Qi b (Qa s)-Qi d (Qa t))),.string (Qx (Qi b (Qa s)-Qi d (Qa t)))]):=by
 have m:(Qx (-Qi d (Qa t))).size<=536870912:=by
  rw[XF,Fp];exact L9 (GD _ _) r
 have u:=hV (λW=>IU t d W);have n:=hV (λW=>gz s (Qx (-Qi d (Qa t))) b (neg (-Qi d (Qa t))) W q m);rw[Xg,<- Int.sub_eq_add_neg]at n;clear m;go_enter func130,ntmps130
 go_wp2_with fail
 have o:=((Bx.new w 30 #[.bool b,.string s]).alloc (.cells #[.bool d,.string t] 30)).alloc (.cells #[.bool false,.string ⟨#[]⟩] 30);have p:=(Bx.at1 w (.cells #[.bool b,.string s] 30) 30 #[.bool d,.string t]).alloc (.cells #[.bool false,.string ⟨#[]⟩] 30);have l:=Bx.at2 w (.cells #[.bool b,.string s] 30) (.cells #[.bool d,.string t] 30) 30 #[.bool false,.string ⟨#[]⟩];have x:=b3 w (.cells #[.bool b,.string s] 30) (.cells #[.bool d,.string t] 30) (.cells #[.bool false,.string ⟨#[]⟩] 30);generalize ((w.alloc (.cells #[.bool b,.string s] 30)).alloc (.cells #[.bool d,.string t] 30)).alloc (.cells #[.bool false,.string ⟨#[]⟩] 30)=y at *;have z:=o.lt;have A:=p.lt;have B:=l.lt;obtain⟨g,i,C,D⟩:=(o).two;obtain⟨q1,j,E,F⟩:=(p).two;obtain⟨r1,G,H,I⟩:=(l).two;go_region_held3 (λf=>f.cell? ⟨w.heap.size,0,none⟩=some (.bool b)/\f.cell? ⟨w.heap.size,1,none⟩=some (.string s)/\f.cell? ⟨w.heap.size+1,0,none⟩=some (.bool d)/\f.cell? ⟨w.heap.size+1,1,none⟩=some (.string t)) (first|exact⟨g,i,q1,j⟩|exact⟨Ld c g,Ld c i,Ld c q1,Ld c j⟩|exact⟨Ld (b1 wn _) (Ld c g),Ld (b1 wn _) (Ld c i),Ld (b1 wn _) (Ld c q1),Ld (b1 wn _) (Ld c j)⟩|exact⟨Ld a (Ld c g),Ld a (Ld c i),Ld a (Ld c q1),Ld a (Ld c j)⟩|exact⟨ZM (Ld a (Ld c g)) x3 _ _,ZM (Ld a (Ld c i)) x3 _ _,ZM (Ld a (Ld c q1)) x3 _ _,ZM (Ld a (Ld c j)) x3 _ _⟩)
  (first
   | (go_at_call 172;refine(u.out y.drew).mono ?_;rintro e wn ⟨rfl,k⟩;have c:=EK k;clear k)
   | (go_at_call 176;refine(n.out wn).mono ?_;rintro e J ⟨rfl,a⟩;obtain⟨K,L,M,N⟩:=((l.later c).later a).two))
 go_wp2
 exact bodyPost_ret (v:=.agg #[.bool (neg (Qi b (Qa s)-Qi d (Qa t))),.string (Qx (Qi b (Qa s)-Qi d (Qa t)))]) (by simp[results,results130,go_sem,(((l.later c).later a).set2 _ _).cel]) rfl ⟨rfl,Mh (nxt (nxt x c) a) (Rg _ 2) _ _⟩
theorem TR(s t:ByteArray)(b a:Bool)(w:World)(f:s.size<=536870912)(g:t.size<=536870912):
  b9 prog 99 #[.agg #[.bool b,.string s],.agg #[.bool a,.string t]] w (.int .i64 (JZ (Qi b (Qa s)-Qi a (Qa t)))):=by
 have j:=hV (λW=>IV s t b a W f g);have d:=hV (λW=>VD (Qx (Qi b (Qa s)-Qi a (Qa t))) (neg (Qi b (Qa s)-Qi a (Qa t))) W);rw[Xg]at d;go_enter func99,ntmps99
 go_wp2_with fail
 refine(j.out _).mono ?_
 rintro e l ⟨rfl,c⟩;have k:=nxt (b2 w _ _) c;clear c;go_wp2_with fail
 refine(d.out _).mono ?_
 rintro e m ⟨rfl,c⟩;go_wp2
 go_ret
 exact⟨rfl,nxt k c⟩
