/- Laws beneath the statement. -/
import Derived.Test.YtoibldcmoapgbaaGreatDoorBP4
namespace Go.Proofs.YtoibldcmoapgbaaGreatDoor
set_option linter.defProp false
open Tryz
set_option maxHeartbeats 4000000
set_option maxRecDepth 100000
open Go.RowKit
def gy(n:Int):max n 0=(n.toNat:Int):=x3
def MG{v n:Nat}(h:v<LB^n):nd 64 v<=n:=Xf (k:=64) x4 h
def qw(v m:Nat):v*2^m<LB^(nd 64 v+m / 64+1):=by
 refine L9 (Rt (YV v) (R6 _)) ?_
 rw[Yk,X9,X9,<- Lz];exact Lh x4 x3
def oC(s:ByteArray)(n:Int)(w:World)(q:s.size<=4294967296)(r:n<=68719476736):
  o4 prog 161 #[.string s,.int .i64 n] w (.string (QL (Qa s*2^n.toNat))):=by
 have b1:nd 64 (Qa s)<=1073741824:=hA (De s);have u:=gy n;have a:n.toNat<=68719476736:=x3;have d:=MG (qw (Qa s) n.toNat);have l:nd 64 (Qa s*2^n.toNat)<=4294967296:=x3;obtain⟨m,b⟩:∃m,m=n.toNat:=⟨_,rfl⟩
 rw[<- b]at u a l d ⊢;clear b r;go_enter func161,ntmps161
 go_wp2_with fail
 refine(KV s w q).mono ?_
 rintro e v ⟨g,N,rfl,B,o,C,x,D,y⟩;go_wp2_with fail
 refine(eN _ _ _ (Qa s) m v x3 x a (YV _) y).mono ?_
 rintro e E ⟨F,z,rfl,A,f,i,j⟩;have c:nd 64 (Qa s*2^m)<=z:=x3;clear j;go_wp2_with fail
 refine(Ch _ _ _ _ l c (Cel.rd0 i c)).mono ?_
 rintro e G ⟨rfl,k⟩;go_wp2
 go_ret
 have p:=QW o f o.size;exact⟨rfl,QW p k p.size⟩
def EE(s:ByteArray)(n:Int)(w:World)(p:s.size<=4294967296)(q:n<=9223372036854775807):
  o4 prog 163 #[.string s,.int .i64 n] w (.string (QL (Qa s / 2^n.toNat))):=by
 have b1:nd 64 (Qa s)<=1073741824:=hA (De s);have t:=gy n;have a:n.toNat<=9223372036854775807:=x3;obtain⟨m,c⟩:∃m,m=n.toNat:=⟨_,rfl⟩
 rw[<- c]at t a ⊢;clear c q;have C:nd 64 (Qa s / 2^m)<=nd 64 (Qa s):=AY x4 (Rn _ _);go_enter func163,ntmps163
 go_wp2_with fail
 refine(KV s w p).mono ?_
 rintro e l ⟨g,N,rfl,D,i,E,u,F,v⟩;by_cases d:m / 64<nd 64 (Qa s)
 ·have hd:=x0f (Of _ _ _ (Qa s) m l x3 u a d (YV _) v);clear d;go_wp2_with fail
  refine hd.out.mono ?_
  rintro e x ⟨G,H,rfl,y,j,k,z,f⟩;go_wp2_with fail
  refine(Ch _ _ _ _ x3 f (Cel.rd0 k f)).mono ?_
  rintro e A ⟨rfl,b⟩;go_wp2
  go_ret
  have o:=QW i j i.size;exact⟨rfl,QW o b o.size⟩
 ·have hd:=x0f (UR (some ⟨g,0,none⟩) _ N (Qa s) m l x3 a (Sx d));have B:=x0f (Ed (YV (Qa s)) (Sx d));clear d;go_wp2_with fail
  refine hd.out.mono ?_
  rintro e x ⟨rfl,rfl⟩;go_wp2_with fail
  refine(Ch none 0 0 _ x4 x4 Rd.nil_).mono ?_
  rintro e A ⟨rfl,b⟩;go_wp2
  go_ret
  exact⟨by rw[B.out];rfl,QW i b i.size⟩
def oz(A:Option Addr)(n c:Nat)(a:Nat->ByteArray)(w:World)(hn:n<=268435456)(F:∀j,(a j).size<=1073741824)(G:Rd w A n λj=>.string (a j)):
  o4 prog 243 #[.slice A n c] w (.string (QL (Gb (λj=>Qa (a j)) n))):=by
 have HS:=x0f F;have q:∀M k,M=134217728->nd 64 (Gb (λj=>Qa (a j)) k)<=M+k:=λM k H=>MG (az (M:=M) (λj=>by
  have U:=De (a j);have W:=F j;exact L9 (YV _) (Lh QF x3)) k)
 have HB:=x0f (show ∀k,nd 64 (Gb (λj=>Qa (a j)) k)<=134217728+k from λk=>q _ k rfl);clear q;clear F;go_enter func243,ntmps243
 go_wp2
 go_loopw [3,9] (λv i wr=>∃(k:Nat) (r:Option Addr) (s:Nat),k<=n/\i=.int .i64 k/\v=.slice r (nd 64 (Gb (λj=>Qa (a j)) k)) s/\nd 64 (Gb (λj=>Qa (a j)) k)<=s/\Below w.heap.size w wr/\Rd wr r (nd 64 (Gb (λj=>Qa (a j)) k)) (Q7 (Gb (λj=>Qa (a j)) k))) (λ_ i _=>n-(intOf i).toNat)
 case atStart=>exact⟨0,none,0,L7 _,rfl,rfl,L7 _,p5 _ _,Rd.nil_⟩
 case round =>
  obtain⟨k,r,s,hk,rfl,rfl,t,d,u⟩:=hrel;have ad:=HB.out k;have f:=YV (Gb (λj=>Qa (a j)) k);generalize X:Gb (λj=>Qa (a j)) k=V at *;have Y:=x0f X;have Z:=x0f f;clear X f;by_cases x:k<n
  ·obtain⟨b,off,rfl,y⟩:=G x3;have g1:wr.cell? ⟨b,off+k,none⟩=some (.string (a k)):=Lj d (y k x);have ae:=HS.out k;have ag:=De (a k);clear y;go_wp2_with fail
   refine(KV (a k) _ x3).mono ?_
   rintro e w1 ⟨g,N,rfl,hg,hb,hC,U,W,hr⟩;have I:=u.below hb;obtain⟨M,H⟩:∃M,M=max (nd 64 V) (nd 64 (Qa (a k)))+1:=⟨_,rfl⟩
   have cc:=x0f (CN r (nd 64 V) s V (max (nd 64 V:Int) (nd 64 (Qa (a k)):Int)+1) M w1 x3 t x3 x3 x3 Z.out I);have al:nd 64 V<=M:=x3;have J:M<=4294967296:=x3;have l:V+Qa (a k)<LB^M:=by
    have U:=Z.out;have W:=YV (Qa (a k));have h3:LB^nd 64 V<=LB^max (nd 64 V) (nd 64 (Qa (a k))):=Lh QF x3;have h4:LB^nd 64 (Qa (a k))<=LB^max (nd 64 V) (nd 64 (Qa (a k))):=Lh QF x3;rw[H,R8];have h5:LB^max (nd 64 V) (nd 64 (Qa (a k)))*2<=LB^max (nd 64 V) (nd 64 (Qa (a k)))*LB:=Rb _ x4;omega
   have z:=x0f l;clear H l;go_wp2_with fail
   refine cc.out.mono ?_
   rintro e w2 ⟨E,rfl,K,B,L⟩;have ao:=hC.lt;have O:Cel w2 E 206 M (CT 0 M (Q7 V) (Q7 V)):=L.congr λj _=>by
    have:=B5 0 M (Q7 V) j;simp only[Lm]at this;exact this.symm
   go_wp2_with fail
   refine(sK E 0 M M M _ N V (Qa (a k)) _ _ w2 J x3 O x3 (YV _) (hr.below B) (Off.some_ x3)).mono ?_
   rintro e w3 ⟨rfl,P,Q⟩;have C:Rd w3 (some ⟨E,0,none⟩) M (Q7 (V+Qa (a k))):=(Q.rd (o:=0) (n:=M) x3).congr λj hj=>FI hj
   go_wp2_with fail
   refine(KN _ M M (V+Qa (a k)) w3 x3 (L4 _) z.out C).mono ?_
   rintro e w4 ⟨rfl,rfl⟩;go_wp2
   have h6:nd 64 (V+Qa (a k))<=M:=MG z.out;have m:Gb (λj=>Qa (a j)) (k+1)=V+Qa (a k):=by show Gb _ k+_=_;rw[Y.out]
   have p:=QW d hb d.size;have D:=QW p B p.size;have R:=Zu D P D.size (L6 p.size K);exact⟨⟨k+1,some ⟨E,0,none⟩,M,x,by go_num,by rw[m],by rw[m];exact h6,R,by rw[m];exact C.of_le h6⟩,by simp[intOf];omega⟩
  ·obtain rfl:k=n:=x3;have S:=x0f (Ch r s V wr x3 t u);go_wp2_with fail
   refine S.out.mono ?_
   rintro e w5 ⟨rfl,T⟩;go_wp2
   go_ret
   exact⟨by rw[Y.out];rfl,QW d T d.size⟩
