/- Laws beneath the statement. -/
import Derived.Test.YtemkmhpfjefbmaaGreatDoorLP8
import Derived.Test.YtemkmhpfjefbmaaGreatDoorLP5
namespace Go.Proofs.YtemkmhpfjefbmaaGreatDoor
set_option linter.defProp false
open Tryz
set_option maxHeartbeats 4000000
set_option maxRecDepth 100000
open Go Go.RowKit
def lW(R:Option Addr)(m c:Nat)(g:Nat)(A:Option Addr)(n a:Nat)(w:World)(f:w.cell? ⟨g,0,none⟩=some (.slice A n a)):
  Calls prog 199 #[.slice R m c,.pointer (some ⟨g,0,none⟩)] w λe b=>e=.returned (.bool (decide (m≠n)))/\b=w:=by
 go_enter func199,ntmps199
 go_wp2
 go_ret
 refine⟨?_,rfl⟩;congr 2;by_cases h:m=n
 ·subst h;simp
 ·have d:¬(m:Int)=(n:Int):=x3;simp[h,d]
def RdL(w:xH)(A:xN)(n:Nat)(a:Nat->Nat):Prop:=0<n->∃b off,A=some ⟨b,off,none⟩/\∀i,i<n->∃c ci,w.cell? ⟨b,off+i,none⟩=some (.slice c (a i) ci)
def RdT.len{w:xH}{A:xN}{n k:Nat}{a:Nat->Nat}{F:Nat->Nat->o3}(h:RdT w A n k a F):RdL w A n a:=λc=>by
 let⟨b,off,e,d⟩:=h c
 grind
def RdL.below{w a:xH}{A:xN}{n:Nat}{c:Nat->Nat}(h:RdL w A n c)(f:Below w.heap.size w a):RdL a A n c:=λd=>by
 let⟨b,off,e,g⟩:=h d
 grind[Lj]
def ny(A:Option Addr)(n c:Nat)(d:Nat->Nat)(g:Nat)(B:Option Addr)(N o:Nat)(a:Nat)(w:World)(F:n<=4611686018427387904)(G:a<=n)(p:∀j,j<a->d j=N)(q:a<n->d a≠N)(r:RdL w A n d)(t:w.cell? ⟨g,0,none⟩=some (.slice B N o)):
  Calls prog 259 #[.slice A n c,.func (Fn.func 199) #[] #[.pointer (some ⟨g,0,none⟩)]] w λe u=>e=.returned (.int .i64 (if a<n then(a:Int)else -1))/\u=w:=by
 have v:=x0f p;have x:=x0f q;have y:=x0f r;clear p q r;go_enter func259,ntmps259
 go_wp2_with fail
 go_loop [8] (λi=>∃k:Nat,k<=a/\i=.int .i64 (k:Nat)) (λi=>n-(intOf i).toNat)
 case atStart=>exact⟨0,L7 _,rfl⟩
 case round =>
  obtain⟨k,z,rfl⟩:=hrel;by_cases f:k<n
  ·obtain⟨b,off,rfl,s⟩:=y.out x3;let⟨C,ci,H⟩:=s k f;have m:=x0f (lW C (d k) ci g B N o w t);have l:(k:Int)<(n:Int):=x3;clear s;by_cases D:k=a
   ·subst D;rw[Lk (x.out f)]at m;go_wp2_with fail
    refine m.out.mono ?_
    rintro e E ⟨rfl,rfl⟩;go_wp2
    go_ret
    exact⟨rfl,rfl⟩
   ·rw[Lc (show ¬(d k≠N)from λh=>h (v.out k x3))]at m;go_wp2_with fail
    refine m.out.mono ?_
    rintro e E ⟨rfl,rfl⟩;go_wp2
    exact⟨⟨k+1,x3,by go_num⟩,by simp[intOf];omega⟩
  ·obtain rfl:k=n:=x3;obtain rfl:k=a:=x3;have l:¬(k:Int)<(k:Int):=x3;go_wp2
   go_ret
   exact⟨rfl,rfl⟩
def l8(A:Option Addr)(n c:Nat)(d:Nat->Nat)(g:Nat)(B:Option Addr)(N i:Nat)(b:Nat)(w:World)(p:n<=4611686018427387904)(q:b<=n)(k:∀j,j<b->d j=N)(l:b<n->d b≠N)(m:RdL w A n d)(o:w.cell? ⟨g,0,none⟩=some (.slice B N i)):
  Calls prog 198 #[.slice A n c,.func (Fn.func 199) #[] #[.pointer (some ⟨g,0,none⟩)]] w λe r=>e=.returned (.bool (decide (b<n)))/\r=w:=by
 have f:=x0f (ny A n c d g B N i b w p q k l m o);clear k l m o;go_enter func198,ntmps198
 by_cases a:b<n
 ·rw[if_pos a]at f;have t:(0:Int)<=(b:Int):=x3;go_wp2_with fail
  refine f.out.mono ?_
  rintro e s ⟨rfl,rfl⟩;go_wp2
  go_ret
  exact⟨by simp[a],rfl⟩
 ·rw[if_neg a]at f;go_wp2_with fail
  refine f.out.mono ?_
  rintro e s ⟨rfl,rfl⟩;go_wp2
  go_ret
  exact⟨by simp[a],rfl⟩
def ry(n:Nat)(a:Nat->Nat):Prop:=n<=8/\∀j,j<n->a j=n
def jU(n N:Nat)(b:Nat->Nat):∃a,a<=n/\(∀j,j<a->b j=N)/\(a<n->b a≠N):=by
 induction n with
 |zero=>exact⟨0,L4 _,λj c=>absurd c x3,λh=>absurd h x3⟩
 |succ n d =>
  grind
def dB(A:Option Addr)(n c:Nat)(b:Nat->Nat)(w:World)(q:n<=4611686018427387904)(m:RdL w A n b):
  Calls prog 147 #[.slice A n c] w λe r=>(ry n b->e=.returned (.int .i64 0))/\(¬ ry n b->e=.returned (.int .i64 1))/\Below w.heap.size w r:=by
 let⟨d,s,g,i⟩:=jU n n b;have k:=b1 w (.cells #[.slice A n c] 165);let⟨t,_⟩:=(Bx.new w 165 #[.slice A n c]).k1;have f:=x0f (l8 A n c b w.heap.size A n c d (w.alloc (.cells #[.slice A n c] 165)) q s g i (m.below (b1 w _)) t);have l:=x0f (show ry n b↔n<=8/\¬ d<n from⟨λh=>⟨h.1,λo=>i o (h.2 d o)⟩,λh=>⟨h.1,λj x=>g j x3⟩⟩);clear g i m;go_enter func147,ntmps147
 by_cases p:n<=8
 ·have u:¬(8:Int)<(n:Int):=x3;by_cases a:d<n
  ·rw[Lk a]at f;go_wp2_with fail
   refine f.out.mono ?_
   rintro e v ⟨rfl,rfl⟩;go_wp2
   go_ret
   exact⟨λh=>absurd a (l.out.1 h).2,λ_=>rfl,k⟩
  ·rw[Lc a]at f;go_wp2_with fail
   refine f.out.mono ?_
   rintro e v ⟨rfl,rfl⟩;go_wp2
   go_ret
   exact⟨λ_=>rfl,λh=>absurd (l.out.2 ⟨p,a⟩) h,k⟩
 ·have u:(8:Int)<(n:Int):=x3;go_wp2_with fail
  go_ret
  exact⟨λh=>absurd (l.out.1 h).1 p,λ_=>rfl,k⟩
