/- Laws beneath the statement. -/
import Derived.Test.YtoibldcmoapgbaaGreatDoorBP7
namespace Go.Proofs.YtoibldcmoapgbaaGreatDoor
set_option linter.defProp false
open Tryz
set_option maxHeartbeats 4000000
set_option maxRecDepth 100000
open Go.RowKit
def ZM(s:ByteArray)(b:Bool)(w:World):
  o4 prog 162 #[.agg #[.string s,.bool b]] w (.agg #[.bool (neg (Qe b (Qa s))),.string (QJ (Qe b (Qa s)))]):=by
 have c:=nB b (Qa s);have d:=B4 b (Qa s);have j:=x0f (λW=>OK s W);generalize Qe b (Qa s)=z at *;generalize Qa s=v at *;have a:=nstr_empty (v:=v);generalize QL v=t at *;by_cases f:v=0
 ·subst f;have m:t.toList=[]:=a.2 rfl;cases b;all_goals
   have g:=x0f c;have i:=x0f d;clear c d a;go_enter func162,ntmps162
   go_wp2_with (go_at_call 217;refine(j.out _).mono ?_;rintro e wn ⟨rfl,rfl⟩)
   exact bodyPost_ret (v:=.agg #[.bool false,.string t]) (by simp[results,results162,go_sem]) rfl ⟨by rw[g.out,i.out];rfl,b2 _ _ _⟩
 ·have m:t.toList.isEmpty=false:=by
   rw[U4];exact λh=>f (a.1 h)
  have k:(v==0)=false:=l3 f;rw[k]at c;cases b
  ·have g:=x0f c;have i:=x0f d;clear c d a k f;go_enter func162,ntmps162
   go_wp2_with (go_at_call 217;refine(j.out _).mono ?_;rintro e wn ⟨rfl,rfl⟩)
   exact bodyPost_ret (v:=.agg #[.bool false,.string t]) (by simp[results,results162,go_sem]) rfl ⟨by rw[g.out,i.out];rfl,b2 _ _ _⟩
  ·have g:=x0f c;have i:=x0f d;clear c d a k f;go_enter func162,ntmps162
   go_wp2_with (go_at_call 217;refine(j.out _).mono ?_;rintro e wn ⟨rfl,rfl⟩)
   exact bodyPost_ret (v:=.agg #[.bool true,.string t]) (by simp[results,results162,go_sem]) rfl ⟨by rw[g.out,i.out];rfl,b2 _ _ _⟩
def IH(s:ByteArray)(b:Bool)(w:World):
  o4 prog 175 #[.agg #[.bool b,.string s]] w (.agg #[.string s,.bool b]):=by
 go_enter func175,ntmps175
 go_wp2
 exact bodyPost_ret (v:=.agg #[.string s,.bool b]) (by simp[results,results175,go_sem]) rfl ⟨rfl,b2 _ _ _⟩
def aY(s t:ByteArray)(w:World)(a:s.size<=4294967296)(b:t.size<=4294967296):
  o4 prog 244 #[.string s,.string t] w (.int .i64 (Vg (Qa s) (Qa t))):=by
 go_enter func244,ntmps244
 go_wp2_with (go_at_call 254;refine(oA s t _ a b).mono ?_;rintro e wn ⟨rfl,d⟩)
 go_ret
 exact⟨rfl,d⟩
theorem Cl(s:ByteArray)(b:Bool)(w:World):
  o4 prog 128 #[.agg #[.bool b,.string s]] w (.agg #[.bool (neg (Qe b (Qa s))),.string (QJ (Qe b (Qa s)))]):=by
 go_enter func128,ntmps128
 go_wp2_with fail
 refine(IH s b _).mono ?_
 rintro e k ⟨rfl,c⟩;have j:=(Bx.at1 w _ _ _).later c;have d:=nxt (b2 w _ _) c;go_wp2_with fail
 refine(ZM s b _).mono ?_
 rintro e l ⟨rfl,a⟩;have g:=j.later a;have f:=nxt d a;let⟨m,r1,n,o⟩:=g.two;clear c a;go_wp2
 exact bodyPost_ret (v:=.agg #[.bool (neg (Qe b (Qa s))),.string (QJ (Qe b (Qa s)))]) (by simp[results,results128,go_sem,(g.set2 _ _).cel]) rfl ⟨rfl,aq f (Nat.le_succ _) _ _⟩
def TF(a b:m1)(w:m0)(t:o0)(k:a.size<=1073741824)(c:b.size<=1073741824):
  Calls prog 243 #[.slice (some ⟨w.heap.size,0,none⟩) 2 2] (w.alloc (.cells #[.string a,.string b] t)) λe d=>e=.returned (.string (QL (Qa a+Qa b)))/\Below w.heap.size w d:=by
 have h:=(Cel.new w t #[.string a,.string b]).rd (o:=0) (n:=2) x6;have f:Rd (w.alloc (.cells #[.string a,.string b] t)) (some ⟨w.heap.size,0,none⟩) 2 (λj=>.string (if j=0 then a else b)):=h.congr λj l=>by
  have:j=0\/j=1:=x3;rcases this with rfl|rfl<;>rfl
 have g:Gb (λj=>Qa (if j=0 then a else b)) 2=Qa a+Qa b:=by simp[Gb]
 refine(oz _ 2 2 (λj=>if j=0 then a else b) _ x4 (λj=>by split<;>assumption) f).mono λe d ⟨i,c⟩=>⟨by rw[i,g],nxt (b1 _ _) c⟩
def ko(s t:ByteArray)(b:Bool)(w:World)(j:s.size<=1073741824)(k:t.size<=1073741824):
  o4 prog 221 #[.agg #[.string s,.bool b],.agg #[.string t,.bool b]] w (.agg #[.string (QL (Qa s+Qa t)),.bool b]):=by
 go_enter func221,ntmps221
 go_wp2_with fail
 have g:=((Bx.new w 237 #[.string s,.bool b]).alloc (.cells #[.string t,.bool b] 237)).alloc (.cells #[.string ⟨#[]⟩,.bool false] 237);have i:=(Bx.at1 w (.cells #[.string s,.bool b] 237) 237 #[.string t,.bool b]).alloc (.cells #[.string ⟨#[]⟩,.bool false] 237);have f:=Bx.at2 w (.cells #[.string s,.bool b] 237) (.cells #[.string t,.bool b] 237) 237 #[.string ⟨#[]⟩,.bool false];have l:=b3 w (.cells #[.string s,.bool b] 237) (.cells #[.string t,.bool b] 237) (.cells #[.string ⟨#[]⟩,.bool false] 237);generalize ((w.alloc (.cells #[.string s,.bool b] 237)).alloc (.cells #[.string t,.bool b] 237)).alloc (.cells #[.string ⟨#[]⟩,.bool false] 237)=m at *;have n:=g.lt;have o:=i.lt;have p:=f.lt;let⟨q,r,u,x⟩:=(g).two;let⟨q1,y,z,A⟩:=(i).two;let⟨r1,B,C,D⟩:=(f).two;go_region_held3 (λa=>a.cell? ⟨w.heap.size,0,none⟩=some (.string s)/\a.cell? ⟨w.heap.size,1,none⟩=some (.bool b)/\a.cell? ⟨w.heap.size+1,0,none⟩=some (.string t)/\a.cell? ⟨w.heap.size+1,1,none⟩=some (.bool b)) ((repeat' apply p0)<;>(first|assumption|exact Lj c (by assumption)|exact Jb (Lj c (by assumption)) x3 _ _|exact Jb (by assumption) x3 _ _|go_keep))
  (first|(go_at_call 243;refine(TF s t m.drew _ j k).mono ?_;rintro e wn ⟨rfl,d⟩;have c:=F5 d;clear d;let⟨s1,E,F,s4⟩:=(f.later c).two))
 go_wp2
 exact bodyPost_ret (v:=.agg #[.string (QL (Qa s+Qa t)),.bool b]) (by simp[results,results221,go_sem,((f.later c).set2 _ _).cel]) rfl ⟨rfl,aq (nxt l c) (Rm _ 2) _ _⟩
def vw(s t:ByteArray)(b a:Bool)(w:World)(hs:s.size<=1073741824)(ht:t.size<=1073741824)(C:(b==a)=false)(i:Qa t<=Qa s):
  o4 prog 221 #[.agg #[.string s,.bool b],.agg #[.string t,.bool a]] w (.agg #[.string (QL (Qa s-Qa t)),.bool b]):=by
 have E:=x0f (λW=>aY s t W x3 x3);have A:=x0f (λW=>Wz s t W x3 x3);have h0:¬ Vg (Qa s) (Qa t)<0:=λh=>hA (cmpI_lt.1 h)
 rw[if_neg x3]at A;clear i;go_enter func221,ntmps221
 go_wp2_with fail
 have f:=((Bx.new w 237 #[.string s,.bool b]).alloc (.cells #[.string t,.bool a] 237)).alloc (.cells #[.string ⟨#[]⟩,.bool false] 237);have j:=(Bx.at1 w (.cells #[.string s,.bool b] 237) 237 #[.string t,.bool a]).alloc (.cells #[.string ⟨#[]⟩,.bool false] 237);have g:=Bx.at2 w (.cells #[.string s,.bool b] 237) (.cells #[.string t,.bool a] 237) 237 #[.string ⟨#[]⟩,.bool false];have F:=b3 w (.cells #[.string s,.bool b] 237) (.cells #[.string t,.bool a] 237) (.cells #[.string ⟨#[]⟩,.bool false] 237);generalize ((w.alloc (.cells #[.string s,.bool b] 237)).alloc (.cells #[.string t,.bool a] 237)).alloc (.cells #[.string ⟨#[]⟩,.bool false] 237)=w0 at *;have G:=f.lt;have H:=j.lt;have I:=g.lt;let⟨J,K,L,M⟩:=(f).two;let⟨q1,N,O,P⟩:=(j).two;let⟨r1,Q,R,S⟩:=(g).two;refine(E.out _).mono ?_
 rintro e w1 ⟨rfl,d⟩;let⟨k,l,m,n⟩:=(f.later d).two;let⟨o,p,q,r⟩:=(j.later d).two;let⟨u,x,y,z⟩:=(g.later d).two;clear J K L M q1 N O P r1 Q R S;go_wp2_with fail
 refine(A.out _).mono ?_
 rintro e w2 ⟨rfl,c⟩;have T:=(f.later d).later c;have B:=(g.later d).later c;let⟨U,V,X,Y⟩:=(T).two;let⟨Z,ad,ae,ag⟩:=(B).two;clear k l m n o p q r u x y z;go_wp2
 exact bodyPost_ret (v:=.agg #[.string (QL (Qa s-Qa t)),.bool b]) (by simp[results,results221,go_sem,(B.set2 _ _).cel]) rfl ⟨rfl,aq (nxt (nxt F d) c) (Rm _ 2) _ _⟩
def vx(s t:ByteArray)(b a:Bool)(w:World)(hs:s.size<=1073741824)(ht:t.size<=1073741824)(F:(b==a)=false)(f:Qa s<Qa t):
  o4 prog 221 #[.agg #[.string s,.bool b],.agg #[.string t,.bool a]] w (.agg #[.string (QL (Qa t-Qa s)),.bool a]):=by
 have H:=x0f (λW=>aY s t W x3 x3);have D:=x0f (λW=>Wz t s W x3 x3);have h0:Vg (Qa s) (Qa t)<0:=cmpI_lt.2 f;rw[if_neg x3]at D;clear f;go_enter func221,ntmps221
 go_wp2_with fail
 have g:=((Bx.new w 237 #[.string s,.bool b]).alloc (.cells #[.string t,.bool a] 237)).alloc (.cells #[.string ⟨#[]⟩,.bool false] 237);have j:=(Bx.at1 w (.cells #[.string s,.bool b] 237) 237 #[.string t,.bool a]).alloc (.cells #[.string ⟨#[]⟩,.bool false] 237);have i:=Bx.at2 w (.cells #[.string s,.bool b] 237) (.cells #[.string t,.bool a] 237) 237 #[.string ⟨#[]⟩,.bool false];have I:=b3 w (.cells #[.string s,.bool b] 237) (.cells #[.string t,.bool a] 237) (.cells #[.string ⟨#[]⟩,.bool false] 237);generalize ((w.alloc (.cells #[.string s,.bool b] 237)).alloc (.cells #[.string t,.bool a] 237)).alloc (.cells #[.string ⟨#[]⟩,.bool false] 237)=w0 at *;have J:=g.lt;have K:=j.lt;have L:=i.lt;let⟨M,N,O,P⟩:=(g).two;let⟨q1,Q,R,S⟩:=(j).two;let⟨r1,T,U,V⟩:=(i).two;refine(H.out _).mono ?_
 rintro e w1 ⟨rfl,d⟩;let⟨k,l,m,n⟩:=(g.later d).two;let⟨o,q,r,u⟩:=(j.later d).two;let⟨x,y,z,A⟩:=(i.later d).two;clear M N O P q1 Q R S r1 T U V;go_wp2_with fail
 have Z1:=(g.later d).set2 (.string t) (.bool a);have B:=(Z1.far (p:=⟨w.heap.size+1,0,none⟩) x6 (.string s)).far (p:=⟨w.heap.size+1,1,none⟩) x6 (.bool b);have X:=((((i.later d).far (p:=⟨w.heap.size,0,none⟩) x6 (.string t)).far (p:=⟨w.heap.size,1,none⟩) x6 (.bool a)).far (p:=⟨w.heap.size+1,0,none⟩) x6 (.string s)).far (p:=⟨w.heap.size+1,1,none⟩) x6 (.bool b);have C:=aq (aq (nxt I d) (L4 _) (.string t) (.bool a)) (Rm w.heap.size 1) (.string s) (.bool b);refine(D.out _).mono ?_
 rintro e w2 ⟨rfl,c⟩;have Y:=B.later c;have E:=X.later c;let⟨Z,ad,ae,ag⟩:=(Y).two;let⟨al,ao,aB,bd⟩:=(E).two;clear k l m n o q r u x y z A;go_wp2
 exact bodyPost_ret (v:=.agg #[.string (QL (Qa t-Qa s)),.bool a]) (by simp[results,results221,go_sem,(E.set2 _ _).cel]) rfl ⟨rfl,aq (nxt C c) (Rm _ 2) _ _⟩
def nG(b a:Bool)(u v:Nat):(b=a->Qe b u+Qe a v=Qe b (u+v))/\((b==a)=false->v<=u->Qe b u+Qe a v=Qe b (u-v))/\((b==a)=false->u<v->Qe b u+Qe a v=Qe a (v-u)):=by
 cases b<;>cases a<;>simp[Qe]<;>omega
def lf(s t:m1)(b f:Bool)(w:m0)(j:s.size<=1073741824)(k:t.size<=1073741824):
  Calls prog 221 #[.agg #[.string s,.bool b],.agg #[.string t,.bool f]] w λe i=>∃c,e=.returned (.agg #[.string (QJ (Qe b (Qa s)+Qe f (Qa t))),.bool c])/\Qe c (Qe b (Qa s)+Qe f (Qa t)).natAbs=Qe b (Qa s)+Qe f (Qa t)/\Below w.heap.size w i:=by
 let⟨l,m,n⟩:=nG b f (Qa s) (Qa t);cases a:(b==f)
 ·rcases R5 (Qa s) (Qa t)with d|d
  ·rw[n a d];exact(vx s t b f w j k a d).mono λe i ⟨g,h⟩=>⟨f,by rw[g,B4],by rw[Xd],h⟩
  ·rw[m a d];exact(vw s t b f w j k a d).mono λe i ⟨g,h⟩=>⟨b,by rw[g,B4],by rw[Xd],h⟩
 ·have e:b=f:=l3 a;subst e;rw[l rfl];exact(ko s t b w j k).mono λe i ⟨g,h⟩=>⟨b,by rw[g,B4],by rw[Xd],h⟩
def kU(s t:ByteArray)(b a:Bool)(w:World)(q:s.size<=1073741824)(r:t.size<=1073741824):
  o4 prog 220 #[.agg #[.string s,.bool b],.agg #[.string t,.bool a]] w (.agg #[.string (QL (Qa s*Qa t)),.bool (b != a)]):=by
 have k:=x0f (λW=>Wy s t W x3 x3);go_enter func220,ntmps220
 go_wp2_with fail
 have i:=((Bx.new w 237 #[.string s,.bool b]).alloc (.cells #[.string t,.bool a] 237)).alloc (.cells #[.string ⟨#[]⟩,.bool false] 237);have j:=(Bx.at1 w (.cells #[.string s,.bool b] 237) 237 #[.string t,.bool a]).alloc (.cells #[.string ⟨#[]⟩,.bool false] 237);have g:=Bx.at2 w (.cells #[.string s,.bool b] 237) (.cells #[.string t,.bool a] 237) 237 #[.string ⟨#[]⟩,.bool false];have l:=b3 w (.cells #[.string s,.bool b] 237) (.cells #[.string t,.bool a] 237) (.cells #[.string ⟨#[]⟩,.bool false] 237);generalize ((w.alloc (.cells #[.string s,.bool b] 237)).alloc (.cells #[.string t,.bool a] 237)).alloc (.cells #[.string ⟨#[]⟩,.bool false] 237)=m at *;have n:=i.lt;have o:=j.lt;have p:=g.lt;let⟨u,x,y,z⟩:=(i).two;let⟨q1,A,B,C⟩:=(j).two;let⟨r1,D,E,F⟩:=(g).two;go_region_held3 (λc=>c.cell? ⟨w.heap.size,0,none⟩=some (.string s)/\c.cell? ⟨w.heap.size,1,none⟩=some (.bool b)/\c.cell? ⟨w.heap.size+1,0,none⟩=some (.string t)/\c.cell? ⟨w.heap.size+1,1,none⟩=some (.bool a)) ((repeat' apply p0)<;>(first|assumption|exact Lj d (by assumption)|exact Jb (Lj d (by assumption)) x3 _ _|exact Jb (by assumption) x3 _ _|go_keep))
  (first|(go_at_call 242;refine(k.out m.drew).mono ?_;rintro e wn ⟨rfl,f⟩;have d:=F5 f;clear f;let⟨s1,G,H,s4⟩:=(g.later d).two))
 go_wp2
 exact bodyPost_ret (v:=.agg #[.string (QL (Qa s*Qa t)),.bool (b != a)]) (by simp[results,results220,go_sem,((g.later d).set2 _ _).cel];cases b<;>cases a<;>rfl) rfl ⟨rfl,aq (nxt l d) (Rm _ 2) _ _⟩
def nE(b a:Bool)(u v:Nat):Qe b u*Qe a v=Qe (b != a) (u*v):=by
 cases b<;>cases a<;>simp only[Qe,bne_self_eq_false,Tv,if_false,if_true,Int.neg_mul,Int.mul_neg,Ty,U6,show(false != true)=true from rfl,show(true != false)=true from rfl]
def eQ(s t:m1)(b a:Bool)(w:m0)(f:s.size<=1073741824)(g:t.size<=1073741824):
  Calls prog 220 #[.agg #[.string s,.bool b],.agg #[.string t,.bool a]] w λe d=>∃c,e=.returned (.agg #[.string (QJ (Qe b (Qa s)*Qe a (Qa t))),.bool c])/\Qe c (Qe b (Qa s)*Qe a (Qa t)).natAbs=Qe b (Qa s)*Qe a (Qa t)/\Below w.heap.size w d:=by
 rw[nE];exact(kU s t b a w f g).mono λe d ⟨h,i⟩=>⟨b != a,by rw[h,B4],by rw[Xd],i⟩
def E4(s:ByteArray)(b:Bool)(w:World):
  o4 prog 172 #[.agg #[.bool b,.string s]] w (.agg #[.bool (neg (-Qe b (Qa s))),.string (QJ (-Qe b (Qa s)))]):=by
 rw[<- nD];go_enter func172,ntmps172
 go_wp2_with fail
 have f:=(Bx.new w 30 #[.bool b,.string s]).alloc (.cells #[.bool false,.string ⟨#[]⟩] 30);have a:=Bx.at1 w (.cells #[.bool b,.string s] 30) 30 #[.bool false,.string ⟨#[]⟩];have g:=b2 w (.cells #[.bool b,.string s] 30) (.cells #[.bool false,.string ⟨#[]⟩] 30);generalize (w.alloc (.cells #[.bool b,.string s] 30)).alloc (.cells #[.bool false,.string ⟨#[]⟩] 30)=k at *;have i:=f.lt;have j:=a.lt;refine(ZM s (!b) _).mono ?_
 rintro e l ⟨rfl,c⟩;let⟨r1,m,n,o⟩:=(a.later c).two;go_wp2
 exact bodyPost_ret (v:=.agg #[.bool (neg (Qe (!b) (Qa s))),.string (QJ (Qe (!b) (Qa s)))]) (by simp[results,results172,go_sem,((a.later c).set2 _ _).cel]) rfl ⟨rfl,aq (nxt g c) (Rm _ 1) _ _⟩
def xD(v:Nat)(w:World)(m:0<v)(n:v<=9223372036854775808):
  o4 prog 165 #[.int .i64 (-(v:Int))] w (.agg #[.bool (neg (-(v:Int))),.string (QJ (-(v:Int)))]):=by
 have hi:Qe true (Qa (QL v))=-(v:Int):=by rw[XT];rfl
 have d:=x0f (λW=>ZM (QL v) true W);rw[hi]at d;have j:IntKind.u64.wrap (-(v:Int))=18446744073709551616-(v:Int):=by rw[b7];omega
 have k:IntKind.u64.wrap (-(18446744073709551616-(v:Int)))=(v:Int):=by rw[b7];omega
 have co:=x0f (λW=>Io v W (by rw[Jo];omega));clear hi;go_enter func165,ntmps165
 have X:=Bx.new w 30 #[.bool false,.string ⟨#[]⟩];go_wp2_with fail
 refine(co.out _).mono ?_
 rintro e o ⟨rfl,b⟩;have f:=X.later b;have l:=nxt (b1 w _) b;clear b X;go_wp2_with fail
 refine(d.out _).mono ?_
 rintro e p ⟨rfl,a⟩;have g:=f.later a;have c:=nxt l a;clear a f;let⟨r1,q,r,s⟩:=g.two;go_wp2
 exact bodyPost_ret (v:=.agg #[.bool (neg (-(v:Int))),.string (QJ (-(v:Int)))]) (by simp[results,results165,go_sem,(g.set2 _ _).cel]) rfl ⟨rfl,aq c (L4 _) _ _⟩
def xE(v:Nat)(w:World)(l:v<=9223372036854775807):
  o4 prog 165 #[.int .i64 (v:Int)] w (.agg #[.bool (neg ((v:Int))),.string (QJ ((v:Int)))]):=by
 have hi:Qe false (Qa (QL v))=(v:Int):=by rw[XT];rfl
 have d:=x0f (λW=>ZM (QL v) false W);rw[hi]at d;have j:IntKind.u64.wrap (v:Int)=(v:Int):=by rw[b7];omega
 have co:=x0f (λW=>Io v W (by rw[Jo];omega));clear hi;go_enter func165,ntmps165
 have X:=Bx.new w 30 #[.bool false,.string ⟨#[]⟩];go_wp2_with fail
 refine(co.out _).mono ?_
 rintro e m ⟨rfl,b⟩;have f:=X.later b;have k:=nxt (b1 w _) b;clear b X;go_wp2_with fail
 refine(d.out _).mono ?_
 rintro e n ⟨rfl,a⟩;have g:=f.later a;have c:=nxt k a;clear a f;let⟨r1,o,p,q⟩:=g.two;go_wp2
 exact bodyPost_ret (v:=.agg #[.bool (neg ((v:Int))),.string (QJ ((v:Int)))]) (by simp[results,results165,go_sem,(g.set2 _ _).cel]) rfl ⟨rfl,aq c (L4 _) _ _⟩
def Cm(n:Int)(w:m0)(b:-9223372036854775808<=n)(c:n<=9223372036854775807):
  o4 prog 165 #[.int .i64 n] w (.agg #[.bool (neg n),.string (QJ n)]):=by
 by_cases h:n<0
 ·obtain⟨v,rfl⟩:∃v:Nat,n=-(v:Int):=⟨n.natAbs,x3⟩
  exact xD v w x3 x3
 ·obtain⟨v,rfl⟩:∃v:Nat,n=(v:Int):=⟨n.natAbs,x3⟩
  exact xE v w x3
def mag_empty{z:Int}:(QJ z).toList=[]↔z=0:=by
 unfold QJ;rw[nstr_empty];omega
def oi{z:Int}(h:z≠0):(QJ z).toList.isEmpty=false:=by
 rw[U4];exact λe=>h (mag_empty.1 e)
def GI(s:ByteArray)(b:Bool)(w:World):
  o4 prog 97 #[.agg #[.bool b,.string s]] w (.int .i64 (JZ (Qe b (Qa s)))):=by
 have d:=x0f (λW=>Cl s b W);generalize Qe b (Qa s)=z at *;rcases Int.lt_trichotomy z 0 with h|h|h
 ·have f:neg z=true:=Lk h;have a:=x0f (show JZ z=-1 by unfold JZ;rw[if_pos h]);clear h;go_enter func97,ntmps97
  go_wp2_with fail
  refine(d.out _).mono ?_
  rintro e g ⟨rfl,c⟩;go_wp2
  go_ret
  exact⟨by rw[a.out];rfl,EI (nxt (b1 w _) c) _⟩
 ·have f:neg z=false:=Lc x3;have j:(QJ z).toList=[]:=mag_empty.2 h;have a:=x0f (show JZ z=0 from sgn_eq.2 h);clear h;go_enter func97,ntmps97
  go_wp2_with fail
  refine(d.out _).mono ?_
  rintro e g ⟨rfl,c⟩;go_wp2
  go_ret
  exact⟨by rw[a.out];rfl,EI (nxt (b1 w _) c) _⟩
 ·have f:neg z=false:=Lc x3;have j:(QJ z).toList.isEmpty=false:=oi x3;have a:=x0f (show JZ z=1 by unfold JZ;rw[if_neg x3,if_neg x3]);clear h;go_enter func97,ntmps97
  go_wp2_with fail
  refine(d.out _).mono ?_
  rintro e g ⟨rfl,c⟩;go_wp2
  go_ret
  exact⟨by rw[a.out];rfl,EI (nxt (b1 w _) c) _⟩
def RdI(w:m0)(A:m3)(n:Nat)(bs:Nat->Bool)(a:Nat->m1):Prop :=
 0<n->∃b off,A=some ⟨b,off,none⟩/\∀j,j<n->w.cell? ⟨b,off+j*2,none⟩=some (.bool (bs j))/\w.cell? ⟨b,off+j*2+1,none⟩=some (.string (a j))
def aT(A:Option Addr)(n c:Nat)(bs:Nat->Bool)(a:Nat->ByteArray)(w:World)(hn:n<=268435456)(z:∀j,(a j).size<=536870912)(I:RdI w A n bs a):
  o4 prog 176 #[.slice A n c] w (.agg #[.bool (neg (VL (λj=>Qe (bs j) (Qa (a j))) n)),.string (QJ (VL (λj=>Qe (bs j) (Qa (a j))) n))]):=by
 have S:=x0f z;have r:∀k,Zr (VL (λj=>Qe (bs j) (Qa (a j))) k)<=536870912+k:=λk=>IP (λj=>L6 (GN _ _) (z j)) k
 have T:=x0f r;clear z r;go_enter func176,ntmps176
 have U:=(Bx.new w 30 #[.bool false,.string ⟨#[]⟩]).alloc (.cells #[.string ⟨#[]⟩,.bool false] 237);have V:=Bx.at1 w (.cells #[.bool false,.string ⟨#[]⟩] 30) 237 #[.string ⟨#[]⟩,.bool false];have X:=b2 w (.cells #[.bool false,.string ⟨#[]⟩] 30) (.cells #[.string ⟨#[]⟩,.bool false] 237);go_wp2_with fail
 generalize (w.alloc (.cells #[.bool false,.string ⟨#[]⟩] 30)).alloc (.cells #[.string ⟨#[]⟩,.bool false] 237)=w0 at *;go_loopw [8] (λi wr=>∃k:Nat,∃d:Bool,k<=n/\i=.int .i64 (k:Nat)/\Hid (Qe d (VL (λj=>Qe (bs j) (Qa (a j))) k).natAbs=VL (λj=>Qe (bs j) (Qa (a j))) k)/\Bx wr w.heap.size 30 #[.bool false,.string ⟨#[]⟩]/\Bx wr (w.heap.size+1) 237 #[.string (QJ (VL (λj=>Qe (bs j) (Qa (a j))) k)),.bool d]/\Below w.heap.size w wr) (λi _=>n-(intOf i).toNat)
 case atStart=>exact⟨0,false,L7 _,rfl,rfl,U,V,X⟩
 case round =>
  obtain⟨k,d,hk,rfl,hd,y,B,f⟩:=hrel;let⟨Y,Z,p3,p4⟩:=y.two;let⟨q1,J,K,L⟩:=B.two;by_cases m:k<n
  ·obtain⟨b,off,rfl,C⟩:=I x3;have g1:=Lj f (C k m).1;have g2:=Lj f (C k m).2;clear C I;have ad:w.heap.size+1<wr.heap.size:=B.lt;have M:=Bx.new wr 30 #[.bool (bs k),.string (a k)];have Z1:=y.alloc (.cells #[.bool (bs k),.string (a k)] 30);have Z2:=B.alloc (.cells #[.bool (bs k),.string (a k)] 30);have D:=EI f (.cells #[.bool (bs k),.string (a k)] 30);have E:=S.out k;have F:=T.out k;have HD:=x0f (show VL (λj=>Qe (bs j) (Qa (a j))) (k+1)=Qe d (Qa (QJ (VL (λj=>Qe (bs j) (Qa (a j))) k)))+Qe (bs k) (Qa (a k))by
    rw[VM,hd.out];rfl)
   have s:(QJ (VL (λj=>Qe (bs j) (Qa (a j))) k)).size<=1073741824:=by rw[XU];omega
   have l:(a k).size<=1073741824:=x3;have G:=x0f (λW=>lf (QJ (VL (λj=>Qe (bs j) (Qa (a j))) k)) (a k) d (bs k) W s l);rw[<- HD.out]at G;clear E F s l;obtain⟨N,o⟩:∃N,N=VL (λj=>Qe (bs j) (Qa (a j))) (k+1):=⟨_,rfl⟩
   rw[<- o]at G;have O:=x0f o;clear o;go_wp2_with fail
   generalize wr.alloc (.cells #[.bool (bs k),.string (a k)] 30)=P at *;let⟨z1,z2,_,_⟩:=M.two;clear Y Z p3 p4 q1 J K L;let⟨q1,J,K,L⟩:=Z2.two;have ae:wr.heap.size<P.heap.size:=M.lt;go_region_with
    (first
     |(go_at_call 175;refine(IH (a k) (bs k) P.drew).mono ?_;rintro e wn ⟨rfl,t⟩;have u:=F5 t;clear t;let⟨s1,s2,s3,s4⟩:=(Z2.later u).two)
     |(go_at_call 221;refine(G.out wn).mono ?_;rintro e wm ⟨d',rfl,x,g⟩;have H:=x0f x;clear x;let⟨t1,t2,t3,t4⟩:=((Z2.later u).later g).two))
   all_goals
    go_wp2
    exact⟨⟨k+1,d',m,by go_num,by rw[<- O.out];exact H.out,(((Z1.later u).later g).far (p:=⟨w.heap.size+1,0,none⟩) x6 _).far (p:=⟨w.heap.size+1,1,none⟩) x6 _,by rw[<- O.out];exact((Z2.later u).later g).set2 _ _,aq (nxt (nxt D u) g) (Rm _ 1) _ _⟩,by simp[intOf];omega⟩
  ·obtain rfl:k=n:=x3;have Q:=x0f (λW=>ZM (QJ (VL (λj=>Qe (bs j) (Qa (a j))) k)) d W);rw[VM,hd.out]at Q;go_wp2_with fail
   refine(Q.out _).mono ?_
   rintro e w6 ⟨rfl,q⟩;let⟨s1,s2,s3,s4⟩:=(y.later q).two;go_wp2
   exact bodyPost_ret (v:=.agg #[.bool (neg (VL (λj=>Qe (bs j) (Qa (a j))) k)),.string (QJ (VL (λj=>Qe (bs j) (Qa (a j))) k))]) (by simp[results,results176,go_sem,((y.later q).set2 _ _).cel]) rfl ⟨rfl,aq (nxt f q) (L4 _) _ _⟩
def se(A:Option Addr)(n c:Nat)(bs:Nat->Bool)(a:Nat->ByteArray)(S:Nat)(w:World)(hn:n<=268435456)(hS:S<=1073741824)(H:∀j,(a j).size<=S)(I:S*n<=1073741823)(Q:RdI w A n bs a):
  o4 prog 170 #[.slice A n c] w (.agg #[.bool (neg (Vb (λj=>Qe (bs j) (Qa (a j))) n)),.string (QJ (Vb (λj=>Qe (bs j) (Qa (a j))) n))]):=by
 have HS:=x0f H;have z:∀k,k<=n->Zr (Vb (λj=>Qe (bs j) (Qa (a j))) k)<=1073741824:=λk J=>by
  have h1:=N8 (f:=λj=>Qe (bs j) (Qa (a j))) (S:=S) (λj=>L6 (GN _ _) (H j)) k;have h2:S*k<=S*n:=Rb _ J;omega
 have HB:=x0f z;clear H z I;have c1:=x0f (λW=>Cm 1 W x4 x4);go_enter func170,ntmps170
 have q:=Bx.new w 30 #[.bool false,.string ⟨#[]⟩];have s:=b1 w (.cells #[.bool false,.string ⟨#[]⟩] 30);go_wp2_with fail
 refine(c1.out _).mono ?_
 rintro e w1 ⟨rfl,l⟩;replace q:=q.later l;replace s:=nxt s l;clear l;go_wp2_with fail
 refine(IH _ _ w1).mono ?_
 rintro e F ⟨rfl,l⟩;replace q:=q.later l;replace s:=nxt s l;clear l;have K:w.heap.size<F.heap.size:=q.lt;have X2:=Bx.new F 237 #[.string (QJ 1),.bool (neg 1)];replace q:=q.alloc (.cells #[.string (QJ 1),.bool (neg 1)] 237);replace s:=EI s (.cells #[.string (QJ 1),.bool (neg 1)] 237);go_wp2_with fail
 generalize F.alloc (.cells #[.string (QJ 1),.bool (neg 1)] 237)=w0 at *;generalize F.heap.size=g at *;go_loopw [10] (λi wr=>∃k:Nat,∃d:Bool,k<=n/\i=.int .i64 (k:Nat)/\Hid (Qe d (Vb (λj=>Qe (bs j) (Qa (a j))) k).natAbs=Vb (λj=>Qe (bs j) (Qa (a j))) k)/\Bx wr w.heap.size 30 #[.bool false,.string ⟨#[]⟩]/\Bx wr g 237 #[.string (QJ (Vb (λj=>Qe (bs j) (Qa (a j))) k)),.bool d]/\Below w.heap.size w wr) (λi _=>n-(intOf i).toNat)
 case atStart=>exact⟨0,neg 1,L7 _,rfl,(by show Qe (neg 1) (1:Int).natAbs=1;rfl),q,X2,s⟩
 case round =>
  obtain⟨k,d,J,rfl,hd,G,L,t⟩:=hrel;let⟨p1,p2,p3,p4⟩:=G.two;let⟨q1,R,T,U⟩:=L.two;by_cases u:k<n
  ·obtain⟨b,off,rfl,M⟩:=Q x3;have m:Below w.heap.size w wr:=t;have g1:=Lj m (M k u).1;have g2:=Lj m (M k u).2;clear M Q;have ad:g<wr.heap.size:=L.lt;have V:=Bx.new wr 30 #[.bool (bs k),.string (a k)];have Z1:=G.alloc (.cells #[.bool (bs k),.string (a k)] 30);have Z2:=L.alloc (.cells #[.bool (bs k),.string (a k)] 30);have m:=EI t (.cells #[.bool (bs k),.string (a k)] 30);have N:=HS.out k;have B:=HB.out k J;have HD:=x0f (show Vb (λj=>Qe (bs j) (Qa (a j))) (k+1)=Qe d (Qa (QJ (Vb (λj=>Qe (bs j) (Qa (a j))) k)))*Qe (bs k) (Qa (a k))by
    rw[VM,hd.out];rfl)
   have C:(QJ (Vb (λj=>Qe (bs j) (Qa (a j))) k)).size<=1073741824:=by rw[XU];exact B
   have r:(a k).size<=1073741824:=x3;have O:=x0f (λW=>eQ (QJ (Vb (λj=>Qe (bs j) (Qa (a j))) k)) (a k) d (bs k) W C r);rw[<- HD.out]at O;clear N B C r;obtain⟨X,x⟩:∃X,X=Vb (λj=>Qe (bs j) (Qa (a j))) (k+1):=⟨_,rfl⟩
   rw[<- x]at O;have Y:=x0f x;clear x;go_wp2_with fail
   generalize wr.alloc (.cells #[.bool (bs k),.string (a k)] 30)=Z at *;let⟨z1,z2,_,_⟩:=V.two;clear p1 p2 p3 p4 q1 R T U;let⟨q1,R,T,U⟩:=Z2.two;have ae:wr.heap.size<Z.heap.size:=V.lt;go_region_with
    (first
     |(go_at_call 175;refine(IH (a k) (bs k) Z.drew).mono ?_;rintro e wn ⟨rfl,D⟩;have l:=F5 D;clear D;let⟨s1,s2,s3,s4⟩:=(Z2.later l).two)
     |(go_at_call 220;refine(O.out wn).mono ?_;rintro e wm ⟨d',rfl,E,o⟩;have P:=x0f E;clear E;let⟨t1,t2,t3,t4⟩:=((Z2.later l).later o).two))
   all_goals
    go_wp2
    exact⟨⟨k+1,d',u,by go_num,by rw[<- Y.out];exact P.out,(((Z1.later l).later o).far (p:=⟨g,0,none⟩) (Sc K) _).far (p:=⟨g,1,none⟩) (Sc K) _,by rw[<- Y.out];exact((Z2.later l).later o).set2 _ _,aq (nxt (nxt m l) o) (Sv K) _ _⟩,by simp[intOf];omega⟩
  ·obtain rfl:k=n:=x3;have cm:=x0f (λW=>ZM (QJ (Vb (λj=>Qe (bs j) (Qa (a j))) k)) d W);rw[VM,hd.out]at cm;go_wp2_with fail
   refine(cm.out _).mono ?_
   rintro e w6 ⟨rfl,y⟩;let⟨s1,s2,s3,s4⟩:=(G.later y).two;go_wp2
   exact bodyPost_ret (v:=.agg #[.bool (neg (Vb (λj=>Qe (bs j) (Qa (a j))) k)),.string (QJ (Vb (λj=>Qe (bs j) (Qa (a j))) k))]) (by simp[results,results170,go_sem,((G.later y).set2 _ _).cel]) rfl ⟨rfl,aq (nxt t y) (L4 _) _ _⟩
def QfG(w:m0)(s t:m1)(b a:Bool):RdI (w.alloc (.cells #[.bool b,.string s,.bool a,.string t] 30)) (some ⟨w.heap.size,0,none⟩) 2 (λj=>if j=0 then b else a) (λj=>if j=0 then s else t):=λ_ =>
 ⟨w.heap.size,0,rfl,λj c=>by
  have h:=Bx.new w 30 #[.bool b,.string s,.bool a,.string t];have:j=0\/j=1:=x3;rcases this with rfl|rfl
  all_goals simp⟩
def ld(s t:m1)(b a:Bool)(w:m0)(g:s.size<=536870912)(i:t.size<=536870912):
  Calls prog 176 #[.slice (some ⟨w.heap.size,0,none⟩) 2 2] (w.alloc (.cells #[.bool b,.string s,.bool a,.string t] 30)) λe c=>e=.returned (.agg #[.bool (neg (Qe b (Qa s)+Qe a (Qa t))),.string (QJ (Qe b (Qa s)+Qe a (Qa t)))])/\Below w.heap.size w c:=by
 have h:=aT _ 2 2 _ _ (w.alloc (.cells #[.bool b,.string s,.bool a,.string t] 30)) x4 (λj=>by split<;>assumption) (QfG w s t b a)
 have e:VL (λj=>Qe (if j=0 then b else a) (Qa (if j=0 then s else t))) 2=Qe b (Qa s)+Qe a (Qa t):=by
  show(0+Qe b (Qa s))+Qe a (Qa t)=_;omega
 rw[e]at h;exact h.mono λe c ⟨d,f⟩=>⟨d,nxt (b1 _ _) f⟩
def Nw(s t:ByteArray)(b d:Bool)(w:World)(q:s.size<=536870912)(r:t.size<=536870912):
  o4 prog 130 #[.agg #[.bool b,.string s],.agg #[.bool d,.string t]] w (.agg #[.bool (neg (Qe b (Qa s)-Qe d (Qa t))),.string (QJ (Qe b (Qa s)-Qe d (Qa t)))]):=by
 have m:(QJ (-Qe d (Qa t))).size<=536870912:=by
  rw[XU,H8];exact L6 (GN _ _) r
 have u:=x0f (λW=>E4 t d W);have n:=x0f (λW=>ld s (QJ (-Qe d (Qa t))) b (neg (-Qe d (Qa t))) W q m);rw[Xp,<- Int.sub_eq_add_neg]at n;clear m;go_enter func130,ntmps130
 go_wp2_with fail
 have o:=((Bx.new w 30 #[.bool b,.string s]).alloc (.cells #[.bool d,.string t] 30)).alloc (.cells #[.bool false,.string ⟨#[]⟩] 30);have p:=(Bx.at1 w (.cells #[.bool b,.string s] 30) 30 #[.bool d,.string t]).alloc (.cells #[.bool false,.string ⟨#[]⟩] 30);have l:=Bx.at2 w (.cells #[.bool b,.string s] 30) (.cells #[.bool d,.string t] 30) 30 #[.bool false,.string ⟨#[]⟩];have x:=b3 w (.cells #[.bool b,.string s] 30) (.cells #[.bool d,.string t] 30) (.cells #[.bool false,.string ⟨#[]⟩] 30);generalize ((w.alloc (.cells #[.bool b,.string s] 30)).alloc (.cells #[.bool d,.string t] 30)).alloc (.cells #[.bool false,.string ⟨#[]⟩] 30)=y at *;have z:=o.lt;have A:=p.lt;have B:=l.lt;let⟨g,i,C,D⟩:=(o).two;let⟨q1,j,E,F⟩:=(p).two;let⟨r1,G,H,I⟩:=(l).two;go_region_held3 (λf=>f.cell? ⟨w.heap.size,0,none⟩=some (.bool b)/\f.cell? ⟨w.heap.size,1,none⟩=some (.string s)/\f.cell? ⟨w.heap.size+1,0,none⟩=some (.bool d)/\f.cell? ⟨w.heap.size+1,1,none⟩=some (.string t)) (first|exact⟨g,i,q1,j⟩|exact⟨Lj c g,Lj c i,Lj c q1,Lj c j⟩|exact⟨Lj (b1 wn _) (Lj c g),Lj (b1 wn _) (Lj c i),Lj (b1 wn _) (Lj c q1),Lj (b1 wn _) (Lj c j)⟩|exact⟨Lj a (Lj c g),Lj a (Lj c i),Lj a (Lj c q1),Lj a (Lj c j)⟩|exact⟨Jb (Lj a (Lj c g)) x3 _ _,Jb (Lj a (Lj c i)) x3 _ _,Jb (Lj a (Lj c q1)) x3 _ _,Jb (Lj a (Lj c j)) x3 _ _⟩)
  (first
   |(go_at_call 172;refine(u.out y.drew).mono ?_;rintro e wn ⟨rfl,k⟩;have c:=F5 k;clear k)
   |(go_at_call 176;refine(n.out wn).mono ?_;rintro e J ⟨rfl,a⟩;let⟨K,L,M,N⟩:=((l.later c).later a).two))
 go_wp2
 exact bodyPost_ret (v:=.agg #[.bool (neg (Qe b (Qa s)-Qe d (Qa t))),.string (QJ (Qe b (Qa s)-Qe d (Qa t)))]) (by simp[results,results130,go_sem,(((l.later c).later a).set2 _ _).cel]) rfl ⟨rfl,aq (nxt (nxt x c) a) (Rm _ 2) _ _⟩
theorem aU(s t:ByteArray)(b a:Bool)(w:World)(f:s.size<=536870912)(g:t.size<=536870912):
  o4 prog 99 #[.agg #[.bool b,.string s],.agg #[.bool a,.string t]] w (.int .i64 (JZ (Qe b (Qa s)-Qe a (Qa t)))):=by
 have j:=x0f (λW=>Nw s t b a W f g);have d:=x0f (λW=>GI (QJ (Qe b (Qa s)-Qe a (Qa t))) (neg (Qe b (Qa s)-Qe a (Qa t))) W);rw[Xp]at d;go_enter func99,ntmps99
 go_wp2_with fail
 refine(j.out _).mono ?_
 rintro e l ⟨rfl,c⟩;have k:=nxt (b2 w _ _) c;clear c;go_wp2_with fail
 refine(d.out _).mono ?_
 rintro e m ⟨rfl,c⟩;go_wp2
 go_ret
 exact⟨rfl,nxt k c⟩
