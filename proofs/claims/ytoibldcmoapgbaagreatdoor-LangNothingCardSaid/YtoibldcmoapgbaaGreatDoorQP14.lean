/- Laws beneath the statement. -/
import Derived.Test.YtoibldcmoapgbaaGreatDoorQP12
import Derived.Test.YtoibldcmoapgbaaGreatDoorQP7
namespace Go.Proofs.YtoibldcmoapgbaaGreatDoor
open Tryz
set_option maxHeartbeats 4000000
set_option maxRecDepth 100000
open Go Go.RowKit
variable{w:World}{A:Option Addr}{ms:Nat->Nat}{F:Nat->Nat->List Value}
theorem ie(R:Option Addr)(m c:Nat)(g:Nat)(A:Option Addr)(n a:Nat)(w:World)(f:w.cell? ⟨g,0,none⟩=some (.slice A n a)):
  Calls prog 167 #[.slice R m c,.pointer (some ⟨g,0,none⟩)] w λe b=>e=.returned (.bool (decide (m≠n)))/\b=w:=by
 go_enter func167,ntmps167
 go_wp2
 go_ret
 refine⟨?_,rfl⟩;congr 2;by_cases h:m=n
 ·subst h;simp
 ·have d:¬(m:Int)=(n:Int):=x3;simp[h,d]
def RdL(w:y9)(A:u5)(n:Nat)(ms:Nat->Nat): Prop:=0<n->∃b off,A=some ⟨b,off,none⟩/\∀i,i<n->∃a ci,w.cell? ⟨b,off+i,none⟩=some (.slice a (ms i) ci)
theorem RdT.len{n k:Nat}(h:RdT w A n k ms F): RdL w A n ms:=λa=>by
 obtain⟨b,off,e,c⟩:=h a;exact⟨b,off,e,λi hi=>by obtain⟨d,ci,_,_,f,_⟩:=c i hi;exact⟨d,ci,f⟩⟩
theorem RdL.below{a:y9}{n:Nat}(h:RdL w A n ms)(c:Below w.heap.size w a): RdL a A n ms:=λd=>by
 obtain⟨b,off,e,f⟩:=h d;exact⟨b,off,e,λi g=>by obtain⟨j,ci,k⟩:=f i g;exact⟨j,ci,Ld c k⟩⟩
theorem jq(A:Option Addr)(n c:Nat)(ms:Nat->Nat)(g:Nat)(B:Option Addr)(N m:Nat)(a:Nat)(w:World)(E:n<=4611686018427387904)(F:a<=n)(o:∀j,j<a->ms j=N)(p:a<n->ms a≠N)(q:RdL w A n ms)(s:w.cell? ⟨g,0,none⟩=some (.slice B N m)):
  Calls prog 219 #[.slice A n c,.func (Fn.func 167) #[] #[.pointer (some ⟨g,0,none⟩)]] w λe t=>e=.returned (.int .i64 (if a<n then(a:Int)else -1))/\t=w:=by
 have u:=hV o;have v:=hV p;have x:=hV q;clear o p q;go_enter func219,ntmps219
 go_wp2_with fail
 go_loop [8] (λi=>∃k:Nat,k<=a/\i=.int .i64 (k:Nat)) (λi=>n-(intOf i).toNat)
 case atStart=>exact⟨0,La _,rfl⟩
 case round =>
  obtain⟨k,y,rfl⟩:=hrel;by_cases d:k<n
  ·obtain⟨b,off,rfl,r⟩:=x.out x3;obtain⟨z,ci,G⟩:=r k d;have l:=hV (ie z (ms k) ci g B N m w s);have f:(k:Int)<(n:Int):=x3;clear r;by_cases C:k=a
   ·subst C;rw[Lz (v.out d)]at l;go_wp2_with fail
    refine l.out.mono ?_
    rintro e D ⟨rfl,rfl⟩;go_wp2
    go_ret
    exact⟨rfl,rfl⟩
   ·rw[Lh (show ¬(ms k≠N)from λh=>h (u.out k x3))]at l;go_wp2_with fail
    refine l.out.mono ?_
    rintro e D ⟨rfl,rfl⟩;go_wp2
    exact⟨⟨k+1,x3,by go_num⟩,by simp[intOf];omega⟩
  ·obtain rfl:k=n:=x3;obtain rfl:k=a:=x3;have f:¬(k:Int)<(k:Int):=x3;go_wp2
   go_ret
   exact⟨rfl,rfl⟩
theorem im(A:Option Addr)(n c:Nat)(ms:Nat->Nat)(g:Nat)(B:Option Addr)(N f:Nat)(b:Nat)(w:World)(o:n<=4611686018427387904)(p:b<=n)(i:∀j,j<b->ms j=N)(k:b<n->ms b≠N)(l:RdL w A n ms)(m:w.cell? ⟨g,0,none⟩=some (.slice B N f)):
  Calls prog 166 #[.slice A n c,.func (Fn.func 167) #[] #[.pointer (some ⟨g,0,none⟩)]] w λe q=>e=.returned (.bool (decide (b<n)))/\q=w:=by
 have d:=hV (jq A n c ms g B N f b w o p i k l m);clear i k l m;go_enter func166,ntmps166
 by_cases a:b<n
 ·rw[if_pos a]at d;have s:(0:Int)<=(b:Int):=x3;go_wp2_with fail
  refine d.out.mono ?_
  rintro e r ⟨rfl,rfl⟩;go_wp2
  go_ret
  exact⟨by simp[a],rfl⟩
 ·rw[if_neg a]at d;go_wp2_with fail
  refine d.out.mono ?_
  rintro e r ⟨rfl,rfl⟩;go_wp2
  go_ret
  exact⟨by simp[a],rfl⟩
def z5(n:Nat)(ms:Nat->Nat): Prop:=n<=8/\∀j,j<n->ms j=n
theorem e8(n N:Nat)(ms:Nat->Nat): ∃d,d<=n/\(∀j,j<d->ms j=N)/\(d<n->ms d≠N):=by
 induction n with
 | zero=>exact⟨0,L8 _,λj f=>absurd f x3,λh=>absurd h x3⟩
 | succ n i =>
  obtain⟨d,a,b,c⟩:=i;by_cases h:d<n
  ·exact⟨d,x3,b,λ_=>c h⟩
  ·obtain rfl:d=n:=x3;by_cases g:ms d=N
   ·exact⟨d+1,L8 _,λj f=>by
     by_cases e:j=d
     ·subst e;exact g
     ·exact b j x3,λh=>absurd h x3⟩
   ·exact⟨d,x3,b,λ_=>g⟩
theorem WC(A:Option Addr)(n c:Nat)(ms:Nat->Nat)(w:World)(p:n<=4611686018427387904)(l:RdL w A n ms):
  Calls prog 124 #[.slice A n c] w λe q=>(z5 n ms->e=.returned (.int .i64 0))/\(¬ z5 n ms->e=.returned (.int .i64 1))/\Below w.heap.size w q:=by
 obtain⟨b,r,f,g⟩:=e8 n n ms;have i:=b1 w (.cells #[.slice A n c] 166);obtain⟨s,_⟩:=(Bx.new w 166 #[.slice A n c]).k1;have d:=hV (im A n c ms w.heap.size A n c b (w.alloc (.cells #[.slice A n c] 166)) p r f g (l.below (b1 w _)) s);have k:=hV (show z5 n ms↔n<=8/\¬ b<n from⟨λh=>⟨h.1,λm=>g m (h.2 b m)⟩,λh=>⟨h.1,λj v=>f j x3⟩⟩);clear f g l;go_enter func124,ntmps124
 by_cases o:n<=8
 ·have t:¬(8:Int)<(n:Int):=x3;by_cases a:b<n
  ·rw[Lz a]at d;go_wp2_with fail
   refine d.out.mono ?_
   rintro e u ⟨rfl,rfl⟩;go_wp2
   go_ret
   exact⟨λh=>absurd a (k.out.1 h).2,λ_=>rfl,i⟩
  ·rw[Lh a]at d;go_wp2_with fail
   refine d.out.mono ?_
   rintro e u ⟨rfl,rfl⟩;go_wp2
   go_ret
   exact⟨λ_=>rfl,λh=>absurd (k.out.2 ⟨o,a⟩) h,i⟩
 ·have t:(8:Int)<(n:Int):=x3;go_wp2_with fail
  go_ret
  exact⟨λh=>absurd (k.out.1 h).1 o,λ_=>rfl,i⟩
