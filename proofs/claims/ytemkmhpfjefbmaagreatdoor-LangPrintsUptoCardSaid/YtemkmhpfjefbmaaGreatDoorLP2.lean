/- Laws beneath the statement. -/
import Derived.Test.YtemkmhpfjefbmaaGreatDoorProg
import Derived.Test.YtemkmhpfjefbmaaGreatDoorLP1
import Derived.StillTailTactics
namespace Go.Proofs.YtemkmhpfjefbmaaGreatDoor
set_option linter.defProp false
open Tryz
set_option maxHeartbeats 4000000
set_option maxRecDepth 100000
open Go.RowKit
def XV(A:Option Addr)(n c v:Nat)(w:World)(B:n<=9223372036854775807)(r:n<=c)(g:v<LB^n)(l:Rd w A n λj=>.int .u64 (QG LB v j:Nat)):
  Calls prog 221 #[.slice A n c] w λe t=>e=.returned (.slice A (nd 64 v) c)/\w=t:=by
 go_enter func221,ntmps221
 go_wp2
 go_loop [0] (λs=>∃k:Nat,k<=n/\s=.slice A k c/\Hid (∀j,k<=j->j<n->QG LB v j=0)) (λs=>match s with | .slice _ k _=>k|_=>0)
 case atStart=>exact⟨n,L4 _,rfl,λj u q=>x3⟩
 case round =>
  obtain⟨k,x,rfl,m⟩:=hrel;by_cases o:k=0
  ·subst o;have a:nd 64 v=0:=MI 64 x4 g (L7 _) m.out x3;have H:=x0f a;clear a l g;go_wp2
   go_ret
   exact⟨by rw[H.out];rfl,rfl⟩
  ·obtain⟨b,off,rfl,p⟩:=l x3;have d:w.cell? ⟨b,off+(k-1),none⟩=some (.int .u64 (QG LB v (k-1):Nat)):=p (k-1) x3;have C:=x0f p;clear p;by_cases i:QG LB v (k-1)=0
   ·have f:((QG LB v (k-1):Nat):Int)=0:=x3;have y:=x0f i;rw[f]at d;clear i f g l;have z:1<=k:=x3;go_wp2
    refine⟨⟨k-1,x3,rfl,λj u q=>?_⟩,x7⟩;by_cases e:j=k-1
    ·subst e;exact y.out
    ·exact m.out j x3 q
   ·have f:(((QG LB v (k-1):Nat):Int)==0)=false:=l3 i;have a:nd 64 v=k:=MI 64 x4 g x m.out (λ_=>i);have H:=x0f a;clear a l g i;go_wp2
    go_ret
    exact⟨by rw[H.out];rfl,rfl⟩
def GS:(prog.info? 179).map (λi=>(i.zero,i.size,i.bytes))=some (some (.int .u64 0),1,8):=x5
def qz:(prog.info? 179).map (·.size)=some 1:=x5
def ZU:prog.underlying 240=some (.slice 179):=x5
def Ho:prog.underlying 81=some (.slice 5):=x5
def uh:(prog.info? 5).map (λi=>(i.zero,i.size,i.bytes))=some (some (.int .u8 0),1,1):=x5
def CN(A:Option Addr)(n c v:Nat)(z:Int)(N:Nat)(w:World)(_hn:n<=4294967296)(_hnc:n<=c)(B:0<=z)(a:N=max z.toNat n)(r:N<=4294967296)(s:v<LB^n)(t:Rd w A n λj=>.int .u64 (QG LB v j:Nat)):
  Calls prog 219 #[.slice A n c,.int .i64 z] w λe m=>∃g,e=.returned (.slice (some ⟨g,0,none⟩) N N)/\w.heap.size<=g/\Below w.heap.size w m/\Cel m g 179 N (λj=>.int .u64 (QG LB v j:Nat)):=by
 have o:(if z<(n:Int)then(n:Int)else z)=(N:Int):=by
  rw[a,Nat.max_def];split<;>split<;>omega
 have p:=x0f o;have u:=x0f (show n=Nat.min n N from(Tg (by rw[a];exact Nat.le_max_right _ _)).symm);have b:0+n<=N:=by rw[a,Lm];exact Nat.le_max_right _ _
 have d:8*N<=281474976710656:=x3;have f:N<=9223372036854775807:=x3;have x:∀j,(Value.int .u64 (QG LB v j:Nat)).oneCell'=true:=λ_=>rfl
 clear a o;go_enter func219,ntmps219
 go_wp2_with (first|(at_make;refine Yt rfl (.tmp 9) (.tmp 9) _ rfl 179 (.int .u64 0) 8 ZU GS rfl .i64 .i64 _ _ N rfl rfl p.out p.out d f ?_;intro C y q i)|(with_reducible refine H6 rfl (.tmp 11) (.tmp 12) _ _ rfl 179 ZU qz _ _ N N n c rfl rfl _ 0 N _ _ _ y n u.out (λ_=>rfl) (t.below q) b x ?_;intro D k l))
 all_goals
  go_ret
  exact⟨_,rfl,L4 _,Zu q l (Sv i) (L4 _),k.congr λj E=>by
   by_cases h:j<n
   ·rw[if_pos ⟨L7 _,x3⟩];rfl
   ·rw[if_neg x3,ZH QF s x3];rfl⟩
def QaX(s:ByteArray)(w:World)(hs:s.size<=4294967296):
  Calls prog 191 #[.string s] w λe A=>∃g N,e=.returned (.slice (some ⟨g,0,none⟩) (nd 64 (KH s.data.toList)) N)/\w.heap.size<=g/\Below w.heap.size w A /\
   Cel A g 179 N (λj=>.int .u64 (QG LB (KH s.data.toList) j:Nat))/\N=(s.size+7) / 8:=by
 obtain⟨N,K⟩:∃N,N=(s.size+7) / 8:=⟨_,rfl⟩
 have B:8*N<=281474976710656:=x3;have x:N<=9223372036854775807:=x3;have L:=x0f (show((s.size:Int)+7) / 8=(N:Int)by omega);have C:=x0f K;clear K;go_enter func191,ntmps191
 go_wp2_with (first|(at_make;refine Yt rfl (.tmp 9) (.tmp 9) _ rfl 179 (.int .u64 0) 8 ZU GS rfl .i64 .i64 _ _ _ rfl rfl L.out L.out B x ?_;intro w1 S T p))
 go_loopw [13] (λi wr=>∃k:Nat,k<=s.size/\i=.int .i64 k/\Below w.heap.size w wr/\Cel wr w.heap.size 179 N (λj=>.int .u64 (QG LB (KH s.data.toList % 256^k) j:Nat))) (λi _=>s.size-(intOf i).toNat)
 case atStart=>exact⟨0,L7 _,rfl,T,S.congr λj U=>by rw[Tx,V0,Vx];rfl⟩
 case round =>
  obtain⟨k,hk,rfl,t,b⟩:=hrel;by_cases p:k<s.size
  ·obtain⟨q,M⟩:∃q,q=k / 8:=⟨_,rfl⟩
   have y:q<N:=x8 C.out;have u:=b.cell y;have E:=b.frozen q;have F:∀W:World,(Instr.index 9 (.string s) (.int .i64 ((s.size:Int)-1-k))).run prog W=.ok (.int .u8 (QG 256 (KH s.data.toList) k:Nat)) W:=λW=>by
    rw[Bk s Tryz.underlying9 .i64 _ (s.size-1-k) x3 x3,Ec _ _ (l3 p)];rfl
   have V:(k:Int) / 8=(q:Int):=x3;have X:IntKind.i64.wrap (q:Int)=(q:Int):=Le _ x3;obtain⟨r,O⟩:∃r,r=k % 8:=⟨_,rfl⟩
   have G:(k:Int) % 8=(r:Int):=x3;have Y:IntKind.i64.wrap (r:Int)=(r:Int):=Le _ x3;have Z:IntKind.i64.wrap ((r:Int)*8)=(r:Int)*8:=Le _ x3;have ad:(k:Int).tmod 8=(r:Int):=by rw[L3 x3];exact G
   obtain⟨d,hd⟩:∃d,d=QG 256 (KH s.data.toList) k:=⟨_,rfl⟩
   rw[<- hd]at F;have v:d<256:=by rw[hd];exact YO x4 _ _
   have ag:IntKind.u64.wrap (d:Int)=(d:Int):=by rw[b7];omega
   have a:=TY v (show r<8 by omega);have f:=mv (KH s.data.toList) k;rw[<- M,<- O,<- hd]at f;obtain⟨D,P⟩:∃D,D=d*2^(r*8):=⟨_,rfl⟩
   have H:=qx d (r*8) ((r:Int)*8) x3 a;rw[<- P]at H a f;have ao:bits .or .u64 ((QG LB (KH s.data.toList % 256^k) q:Nat):Int) (D:Int)=((QG LB (KH s.data.toList % 256^(k+1)) q:Nat):Int):=by
    rw[u64_or_nat _ _ (YO QF _ _) a,f,if_pos rfl]
   have HS:=x0f f;clear O hd a f P M;go_wp2
   go_still_tail 15,x5
   change wpList _ _ _ _ _ wr.drew;have I:=t.drew;have c:=b.drew;have z:=c.cell y;have Q:=c.frozen q;clear t b u E;generalize wr.drew=w2 at *;go_wp2
   refine⟨⟨k+1,p,by go_num,I.setCell (L4 _) _,(c.set_ q _).congr λj U=>?_⟩,by simp[intOf];omega⟩;by_cases e:j=q
   ·subst e;simp only[if_true]
   ·simp only[if_neg e,HS.out]
  ·obtain rfl:k=s.size:=x3;have l:=AC s.data.toList;have m:s.data.toList.length=s.size:=x6;rw[m]at l;have c:Cel wr w.heap.size 179 N (λj=>.int .u64 (QG LB (KH s.data.toList) j:Nat)):=by rwa [Rc l]at b
   have R:KH s.data.toList<LB^N:=by
    refine L9 l ?_
    rw[Yk,show 256=2^8 from rfl,<- T1,<- T1];have:=C.out;exact Lh x4 x3
   have J:Rd wr (some ⟨w.heap.size,0,none⟩) N (λj=>.int .u64 (QG LB (KH s.data.toList) j:Nat)):=by
    have:=c.rd (o:=0) (n:=N) x3;simpa using this
   have HV:=x0f R;clear b l m R;go_wp2_with (go_at_call 221;refine(XV _ _ _ _ _ x (L4 _) HV.out J).mono ?_;rintro e A ⟨rfl,rfl⟩)
   go_ret
   exact⟨_,_,rfl,L4 _,t,c,C.out⟩
