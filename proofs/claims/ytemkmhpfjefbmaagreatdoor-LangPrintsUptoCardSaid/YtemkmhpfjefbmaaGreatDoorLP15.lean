/- Laws beneath the statement. -/
import Derived.Test.YtemkmhpfjefbmaaGreatDoorLP6
import Derived.RangeFuncNested
import Derived.RangeFuncBound
import Derived.OrdersIn
import Derived.Test.YtemkmhpfjefbmaaGreatDoorLP13
import Derived.Deep.Upon
namespace Go.Proofs.YtemkmhpfjefbmaaGreatDoor
set_option linter.defProp false
open Tryz
set_option maxHeartbeats 4000000
set_option maxRecDepth 100000
open Go Go.Lib
def tC(d:Nat):UInt8:=UInt8.ofNat (48+d)
variable{d:Nat}
def DA(h:d<10):(tC d).toNat=48+d:=by
 unfold tC;simp;omega
variable{v:Nat}
def KB(h:v<10):decDigits v=[tC v]:=by rw[decDigits,dif_pos h];rfl
def D0(h:¬ v<10):decDigits v=decDigits (v / 10)++[tC (v % 10)]:=by rw[decDigits,dif_neg h];rfl
def DJ:Nat->Nat->List UInt8
 |0,_=>[]
 |k+1,v=>DJ k (v / 10)++[tC (v % 10)]
def Wp:∀k v,(DJ k v).length=k
 |0,_=>rfl
 |k+1,v=>by rw[DJ,La,Wp k];rfl
def OF:∀k,DJ k 0=List.replicate k 48
 |0=>rfl
 |k+1=>by rw[DJ,Nat.zero_div,OF k,List.replicate_succ'];rfl
def Gp:∀k v,DJ (k+1) v=tC (v / 10^k % 10)::DJ k v
 |0,v=>by simp[DJ]
 |k+1,v=>by
  rw[DJ,Gp k (v / 10),Rk,R8,Ls 10];rfl
def fF:∀k v,v / 10^k≠0->decDigits v=decDigits (v / 10^k)++DJ k v
 |0,v,_=>by simp[DJ]
 |k+1,v,h=>by
  have e:v / 10^(k+1)=v / 10 / 10^k:=by rw[Rk,R8,Ls]
  rw[e]at h ⊢;have a:¬ v<10:=λb=>h (by rw[Sg b,Nat.zero_div])
  rw[D0 a,fF k (v / 10) h,Rl];rfl
def Wq:∀k v,DJ k (v % 10^k)=DJ k v
 |0,_=>rfl
 |k+1,v=>by
  rw[DJ,DJ,R8,Ls,U1,Wq k,Vc]
def Wr:∀k v,nDigits v<=k->DJ k v=List.replicate (k-nDigits v) 48++decDigits v
 |0,v,h=>x8 (nDigits_pos v)
 |k+1,v,h=>by
  by_cases a:v<10
  ·rw[DJ,Sg a,OF,KB a,nDigits_small a,Rc a];rfl
  ·rw[nDigits_big a]at h ⊢;rw[DJ,Wr k (v / 10) x3,D0 a,Nat.add_sub_add_right,Rl]
def Ji:∀v,(decDigits v).length=nDigits v:=λv=>by
 induction v using Nat.strongRecOn with
 |_ v a =>
  by_cases h:v<10
  ·rw[KB h,nDigits_small h];rfl
  ·rw[D0 h,nDigits_big h,La,a (v / 10) x3];rfl
variable{k:Nat}
theorem Jy(h:v<10^k)(a:0<k):nDigits v<=k:=by
 induction k generalizing v with
 |zero=>omega
 |succ k b =>
  grind[nDigits_small,nDigits_big]
def JT(l:List UInt8):Nat:=l.foldl (λv c=>10*v+(c.toNat-48)) 0
def Fi(l:List UInt8)(c:UInt8):JT (l++[c])=10*JT l+(c.toNat-48):=by simp[JT]
def Qz(z:Int):xM:=⟨(itoa z).toArray⟩
def Nz(z:Int):(Qz z).data.toList=itoa z:=by simp[Qz]
open Go.RowKit
def byt(s:xM)(i:Nat):Nat:=(s.data.toList.getD i 0).toNat
def Vp(s:xM)(i:Nat)(h:i<s.size):(s[i]'h).toNat=byt s i:=by
 unfold byt;have a:i<s.data.toList.length:=l3 h;rw[List.getD,p6 a];rfl
variable{P:xO}
def io{t:o0}(s:xM)(a:P.underlying t=some .string)(i:Nat)(h:i<s.size)(W:xH):(Instr.index t (.string s) (.int .i64 (i:Int))).run P W=.ok (.int .u8 (byt s i:Nat)) W:=by
 rw[Bk s a .i64 _ i x3 h];rw[<- Vp s i h];rfl
def Zv(w:xH)(s:xM)(p:Nat):Below w.heap.size w (w.iter s p):=b1 w _
def pv(s:xM)(p:Nat):Nat:=JT (s.data.toList.take p)
def wi(s:xM):pv s 0=0:=rfl
theorem ie(s:xM){p:Nat}(h:p<s.size):pv s (p+1)=10*pv s p+(byt s p-48):=by
 simp_all[pv,byt,Rj,Fi]
def Qbm(s:xM):pv s s.size=JT s.data.toList:=by
 simp[pv,Rh]
def zE(s:xM):Prop:=∀j,j<s.size->48<=byt s j/\byt s j<=57
theorem yy{s:xM}(h:zE s):∀ {p:Nat},p<=s.size->pv s p<10^p
 |0,_=>by rw[wi];decide
 |p+1,a=>by
  have b:=yy h (p:=p) x3;have c:=h p x3
  grind[ie]
def JY{x n:Nat}(h:x<10^n):(QL x).size<=n:=by
 rw[GE];refine Xf (k:=8) x4 (L9 h ?_);simp[Nat.pow_le_pow_left]
variable{w:xH}{s:xM}
theorem Db{p:Nat}(h:w.heap[k]?=some (.stringIter s p)):k<w.heap.size:=by grind
def Pc(s:ByteArray)(w:World)(hs:s.size<=65536)(hd:zE s):
  xP prog 284 #[.string s] w (.string (QL (JT s.data.toList))):=by
 have HD:=x0f hd;have F:=x0f (λ(p:Nat) (h:p<=s.size)=>yy hd h);have y:=x0f (Qbm s);clear hd;go_enter func284,ntmps284
 go_wp2
 go_step3
 go_wp2
 go_step3
 go_wp2
 go_loopw [3,4,5] (λmg n m wr=>∃p V N T:Nat,mg=.string (QL V)/\n=.int .u64 (N:Nat)/\m=.int .u64 (T:Nat)/\p<=s.size/\Hid (V*T+N=pv s p)/\N<T/\T<1000000000000000000/\Hid (p=s.size->T=1)/\wr.heap[w.heap.size]?=some (.stringIter s p)/\Below w.heap.size w wr) (λ_ _ _ wr=>s.size-wr.iterPos w.heap.size)
 case atStart=>exact⟨0,0,0,1,rfl,rfl,rfl,L7 _,x0f rfl,x4,x4,x0f (λ_=>rfl),World.iter_heap w s 0,Zv w s 0⟩
 case round =>
  obtain⟨p,V,N,T,rfl,rfl,rfl,hp,G,hN,hT,hE,hit,H⟩:=hrel;by_cases f:p<s.size
  ·let⟨I,J⟩:=HD.out p f;have q:∀r,(Instr.next (.pointer (some ⟨w.heap.size,0,none⟩)) true r).run prog wr=_:=λr=>Lib.run_next_ascii_at (P:=prog) wr w.heap.size s p r hit f (by rw[Vp];omega)
   simp only[Vp]at q;have a:=x0f (Lib.iterAt_heap wr w.heap.size s p (p+1) hit);have g:=x0f (show wr.iterPos w.heap.size=p by simp[World.iterPos,hit]);have b:=Lib.below_iterAt H (L4 _) s (p+1);have z:=x0f (ie s f);generalize wr.iterAt w.heap.size s (p+1)=w1 at *;obtain⟨D,hD⟩:∃D:Nat,byt s p=48+D:=⟨byt s p-48,x3⟩
   have K:D<=9:=x3;rw[hD]at q z;have ao:IntKind.u64.wrap (10*(N:Int))=10*(N:Int):=by rw[b7];omega
   have aw:IntKind.i32.wrap (((48+D:Nat):Int)-48)=(D:Int):=by rw[IntKind.wrap_i32];omega
   have aB:IntKind.u64.wrap (D:Int)=(D:Int):=by rw[b7];omega
   have bc:IntKind.u64.wrap (10*(N:Int)+D)=((10*N+D:Nat):Int):=by rw[b7];omega
   have L:IntKind.u64.wrap (10*(T:Int))=((10*T:Nat):Int):=by rw[b7];omega
   have bd:IntKind.i64.wrap ((p:Int)+1)=((p+1:Nat):Int):=by rw[Le _ x3];omega
   have t:Hid (V*(10*T)+(10*N+D)=pv s (p+1)):=x0f (by
    rw[z.out,<- G.out,show 48+D-48=D by omega,Rp,Nat.mul_left_comm];omega)
   have l:10*N+D<10*T:=x3;have o:=x0f (show 10*T<10000000000000000000 by omega);have M:Hid (pv s (p+1)<10^(p+1)):=x0f (F.out (p+1) f);clear I J G hit hD K H hN;by_cases O:10*T<1000000000000000000/\p+1<s.size
   ·have i:((10*T:Nat):Int)<1000000000000000000:=x3;have A:((p+1:Nat):Int)<(s.size:Int):=x3;have HC:=x0f O;clear O hT;generalize 10*N+D=Q at *;generalize 10*T=E at *;generalize ((48+D:Nat):Int)=d at *;obtain⟨TI,u⟩:∃TI:Int,TI=(E:Int):=⟨_,rfl⟩
    rw[<- u]at i L;have R:=x0f u;clear u;go_wp2_with fail
    go_roundw
    case rel=>exact⟨p+1,V,Q,E,rfl,rfl,by rw[R.out],f,t,l,HC.out.1,x0f (λh=>absurd HC.out.2 x3),a.out,b⟩
    case measure=>rw[g.out];simp[World.iterPos,a.out];omega
   ·have S:=x0f (λ(x:Nat) W (h:x<10000000000000000000)=>Io x W (Ut h x4));have v:V*(10*T)<10^(p+1):=Lw (Rm _ _) (t.out▸M.out);have B:V<=V*(10*T):=Rz _ x3;have U:=x0f (λW=>Wy (QL V) (QL (10*T)) W (L6 (JY (Lw B v)) x3) (L6 (JY (n:=19) o.out) x4));rw[XT,XT]at U;have X:=x0f (λW=>TF (QL (V*(10*T))) (QL (10*N+D)) W 9 (L6 (JY v) x3) (L6 (JY (n:=19) (Ut l o.out)) x4));rw[XT,XT,t.out]at X;have c1:=x0f (λW=>S.out (10*T) W o.out);have c2:=x0f (λW=>S.out (10*N+D) W (Ut l o.out));clear S v B;have j:=x0f f;have k:(((10*T:Nat):Int)<1000000000000000000/\¬((p+1:Nat):Int)<(s.size:Int))\/¬((10*T:Nat):Int)<1000000000000000000:=x3;have Y:=x0f k;clear O hT l k f;generalize QL (V*(10*T))=z1 at *;generalize QL (10*N+D)=z2 at *;generalize QL (10*T)=z3 at *;generalize 10*N+D=Q at *;generalize 10*T=E at *;generalize ((48+D:Nat):Int)=d at *;generalize (E:Int)=TI at *;generalize (Q:Int)=NI at *;have ag:(p:Int)+1<=s.size:=x8 j.out;rcases Y.out with⟨i,A⟩|i
    ·have d1:decide (TI<1000000000000000000)=true:=Lk i;have d2:decide (((p+1:Nat):Int)<(s.size:Int))=false:=Lc A;go_wp2_with fail
     refine(c1.out _).mono ?_
     rintro e w2 ⟨rfl,c⟩;replace b:=nxt b c;replace a:=x0f ((c.block _ (Db a.out)).trans a.out);clear c;go_wp2_with fail
     refine(U.out _).mono ?_
     rintro e w3 ⟨rfl,c⟩;replace b:=nxt b c;replace a:=x0f ((c.block _ (Db a.out)).trans a.out);clear c;go_wp2_with fail
     refine(c2.out _).mono ?_
     rintro e w4 ⟨rfl,c⟩;replace b:=nxt b c;replace a:=x0f ((c.block _ (Db a.out)).trans a.out);clear c;go_wp2_with fail
     refine(X.out _).mono ?_
     rintro e w5 ⟨rfl,c⟩;replace b:=nxt b c;replace a:=x0f ((c.block _ (Db a.out)).trans a.out);clear c;go_wp2_with fail
     go_roundw
     case rel=>exact⟨p+1,pv s (p+1),0,1,rfl,rfl,rfl,j.out,x0f x3,x4,x4,x0f (λ_=>rfl),a.out,b⟩
     case measure=>have:=j.out;rw[g.out];simp[World.iterPos,a.out];omega
    ·have d1:decide (TI<1000000000000000000)=false:=Lc i;go_wp2_with fail
     refine(c1.out _).mono ?_
     rintro e w2 ⟨rfl,c⟩;replace b:=nxt b c;replace a:=x0f ((c.block _ (Db a.out)).trans a.out);clear c;go_wp2_with fail
     refine(U.out _).mono ?_
     rintro e w3 ⟨rfl,c⟩;replace b:=nxt b c;replace a:=x0f ((c.block _ (Db a.out)).trans a.out);clear c;go_wp2_with fail
     refine(c2.out _).mono ?_
     rintro e w4 ⟨rfl,c⟩;replace b:=nxt b c;replace a:=x0f ((c.block _ (Db a.out)).trans a.out);clear c;go_wp2_with fail
     refine(X.out _).mono ?_
     rintro e w5 ⟨rfl,c⟩;replace b:=nxt b c;replace a:=x0f ((c.block _ (Db a.out)).trans a.out);clear c;go_wp2_with fail
     go_roundw
     case rel=>exact⟨p+1,pv s (p+1),0,1,rfl,rfl,rfl,j.out,x0f x3,x4,x4,x0f (λ_=>rfl),a.out,b⟩
     case measure=>have:=j.out;rw[g.out];simp[World.iterPos,a.out];omega
  ·obtain rfl:p=s.size:=x3;have q:∀r,(Instr.next (.pointer (some ⟨w.heap.size,0,none⟩)) true r).run prog wr=_:=λr=>Lib.run_next_end_at (P:=prog) wr w.heap.size s s.size r hit f
   have C:=hE.out rfl;have Z:=G.out;rw[y.out]at Z;have ad:=x0f (show V=JT s.data.toList by rw[<- Z,C];omega);clear Z C;go_wp2
   go_ret
   exact⟨by rw[ad.out];rfl,H⟩
open Go.Sort
def Tab10(w:xH):Prop:=Lib.TabIs prog w "internal/strconv.uint64pow10" .u64 Lib.pow10Tab
theorem Tab10.later{b:xH}(h:Tab10 w)(d:Below w.heap.size w b):Tab10 b:=by
 unfold Tab10 Lib.TabIs World.var? at *;cases c:prog.globalNamed "internal/strconv.uint64pow10" with
 |none=>simp[c]at h
 |some g =>
  simp only[c,Ti]at h ⊢;have a:g<w.heap.size:=by
   grind
  rw[d.block g a];exact h
def Wh(w:xH)(T:o0)(nd:Nat)(d:nd<=24):Holds (λ(b:UInt8)=>Value.int .u8 (b.toNat:Int)) (w.alloc (.cells Lib.zeros24 T)) w.heap.size 0 (Array.replicate nd (0:UInt8)):=λj a=>by
 have c:j<nd:=l3 a;refine⟨?_,World.frozen?_alloc_new _ _ _ _⟩;rw[World.cell?_alloc_new,Lm,Lib.zeros24_at _ x3,getElem!_pos _ j a];simp
def nu(u:Nat)(a:u<18446744073709551616)(w:World)(i:Tab10 w):
  xP prog 223 #[.int .u64 (u:Nat),.int .i64 10] w (.string ⟨(Lib.decDigits u).toArray⟩):=by
 by_cases y:u<100
 ·have C:IntKind.i64.wrap (u:Int)=(u:Int):=Le _ x3;have r:(u:Int)<100:=x3;go_enter func223,ntmps223
  go_wp2_with (go_at_call 156;refine(Tryz.internal_strconv_small u y _).mono ?_;rintro e q ⟨rfl,rfl⟩)
  go_ret
  exact⟨rfl,p5 _ _⟩
 ·have l:1<=u:=x3;have s:Lib.nDigits u<=20:=by have:=Lib.numDigits_eq u l a;split at this<;>omega
  have z:Lib.nDigits u<=24:=x3;have d:prog.arrayLen 209=24:=x5;have v:∀W,(Instr.sliceAt 209 (.pointer (some ⟨w.heap.size,0,none⟩)) none (some (.int .i64 (Lib.nDigits u:Int))) none).run prog W=.ok (.slice (some ⟨w.heap.size,0,none⟩) (Lib.nDigits u) 24) W:=λW=>by
   rw[run_sliceAt_array_h W 209 ⟨w.heap.size,0,none⟩ (by simp[Program.arrayLen,Program.elem,Tryz.underlying209]) .i64 (Lib.nDigits u:Int) x3 (by rw[d];omega)];rw[d];go_simp
  have f:=Wh w 209 (Lib.nDigits u) x3;have c:=Tryz.internal_strconv_formatBase10 w.heap.size 0 24 u (Array.replicate (Lib.nDigits u) 0) (w.alloc (.cells Lib.zeros24 209)) f (by rw[Array.size_replicate];exact Lib.lt_pow_nDigits u) a (by rw[Array.size_replicate];omega);rw[Array.size_replicate]at c;have m:=x0f f;have r:¬(u:Int)<100:=x3;clear f d;go_enter func223,ntmps223
  go_wp2_with (go_at_call 157;refine(Tryz.internal_strconv_numDigits u l a _ (Tab10.later i (b1 w _))).mono ?_;rintro e q ⟨rfl,rfl⟩)
  go_at_call 158
  refine c.mono ?_
  rintro e q ⟨rfl,k,D,g,rfl,hF⟩;have n:∀W,W=((putRow (λ(b:UInt8)=>Value.int .u8 (b.toNat:Int)) (w.alloc (.cells Lib.zeros24 209)) w.heap.size 0 g).drewN k)->(convert 81 9 (.slice (some ⟨w.heap.size,0,none⟩) (Lib.nDigits u) 24)).run prog W=.ok (.string ⟨(Lib.decDigits u).toArray⟩) W:=λW A=>by
   subst A;have h:=run_convert_bytes_back (P:=prog) ((putRow (λ(b:UInt8)=>Value.int .u8 (b.toNat:Int)) (w.alloc (.cells Lib.zeros24 209)) w.heap.size 0 g).drewN k) 81 9 5 ⟨w.heap.size,0,none⟩ 24 (Lib.decDigits u) Tryz.underlying81 Tryz.underlying5 Tryz.underlying9 (λj o=>by
    rw[Lib.row_is_numeral hF j o,Lib.add_plain,World.cell?_drewN];exact cell?_putRow (λ(b:UInt8)=>Value.int .u8 (b.toNat:Int)) _ w.heap.size 0 _ g m.out (by rw[hF.size,Array.size_replicate]) j (by rw[hF.size];rw[Lib.decDigits_length]at o;exact o))
   rw[Lib.decDigits_length]at h;exact h
  have t:Below w.heap.size w ((putRow (λ(b:UInt8)=>Value.int .u8 (b.toNat:Int)) (w.alloc (.cells Lib.zeros24 209)) w.heap.size 0 g).drewN k):=by
   rw[alloc_eq_grow];let⟨p,_,e⟩:=putRow_grow_new (λ(b:UInt8)=>Value.int .u8 (b.toNat:Int)) w #[.cells Lib.zeros24 209] w.heap.size 0 g (L4 _);rw[e];have B:Below w.heap.size w (grow w p):=⟨rfl,rfl,rfl,by simp[grow],λj o=>heap_grow_old w p o⟩
   exact Zk B k
  have x:=n _ rfl;generalize (putRow (λ(b:UInt8)=>Value.int .u8 (b.toNat:Int)) (w.alloc (.cells Lib.zeros24 209)) w.heap.size 0 g).drewN k=E at *;clear n c m;go_wp2
  go_ret
  exact⟨rfl,t⟩
def tV(u:Nat)(b:u<18446744073709551616)(w:World)(a:Tab10 w):
  xP prog 162 #[.int .u64 (u:Nat),.int .i64 10] w (.string ⟨(Lib.decDigits u).toArray⟩):=by
 have c:=x0f (nu u b w a);clear a;go_enter func162,ntmps162
 go_wp2_with (go_at_call 223;refine c.out.mono ?_;rintro e d ⟨rfl,f⟩)
 go_ret
 exact⟨rfl,f⟩
def IC(W:World)(x y:Operand)(a b:ByteArray):Qp prog W (do eqGuard .eql 9 x y (.string a) (.string b);binOp .eql 9 (.string a) (.string b)) (.bool (decide (a=b))):=λd _=>by
 have h:(a.toList=b.toList)↔a=b:=by
  rw[S5,S5];exact⟨λh=>ByteArray.ext (l3 h),λh=>by rw[h]⟩
 simp[go_sem];by_cases e:a=b
 ·subst e;simp
 ·have:¬ a.toList=b.toList:=λc=>e (h.1 c)
  simp[e,this]
def wR(W:World)(x y:Operand)(a b:ByteArray):Qp prog W (do eqGuard .neq 9 x y (.string a) (.string b);binOp .neq 9 (.string a) (.string b)) (.bool (!decide (a=b))):=λd _=>by
 have h:(a.toList=b.toList)↔a=b:=by
  rw[S5,S5];exact⟨λh=>ByteArray.ext (l3 h),λh=>by rw[h]⟩
 simp[go_sem];by_cases e:a=b
 ·subst e;simp
 ·have:¬ a.toList=b.toList:=λc=>e (h.1 c)
  simp[e,this]
def SI(W:World)(x y:Operand)(a b:ByteArray)(c:a.size+b.size<=9223372036854775807):Qp prog W (do eqGuard .add 9 x y (.string a) (.string b);binOp .add 9 (.string a) (.string b)) (.string (a++b)):=λd _=>by
 have h:¬ 9223372036854775807<a.size+b.size:=x3;simp[go_sem,h]
def wO(W:xH)(s:xM)(i:Nat)(h:i<s.size):Qp prog W (Instr.index 9 (.string s) (.int .i64 (i:Int))) (.int .u8 (byt s i:Nat)):=λa _=>io s Tryz.underlying9 i h a
variable{f:FuncId}{args:x0g}
def wu{w0:xH}{R:y9}(a:Tab10 w0)(b:Xt prog f)(h:∀W,Tab10 W->xP prog f args W R):RetAt prog w0 f args R:=⟨b,λW d=>h W (a.later d)⟩
def IR(s:xM)(A:xN):Res where
 φ x S w:=x=.bool false/\∃g,A=some ⟨g,0,none⟩/\(∀j,j<s.size->w.cell? ⟨g,j,none⟩=some (.int .u8 ((bt s j:Nat):Int)))/\∀b,S b↔b=g
 one _ _ _ h:=by rw[h.1];rfl
 loc x S w w' h hφ:=by
  let⟨c,g,d,e,a⟩:=hφ;exact⟨c,g,d,λj f=>(World.cell?_of_block (h g ((a g).2 rfl))).trans (e j f),a⟩
variable{S:Nat->Prop}
section
variable{P:xO}{w0:xH}
theorem lO{A:xN}{x:y9}{w:xH}(h:(IR s A).φ x S w):RdK w A s.size 1 (λj=>[.int .u8 ((bt s j:Nat):Int)]):=λ_=>by
 obtain⟨_,g,rfl,a,_⟩:=(show _/\_ from h)
 grind
theorem ME(P:xO)(w0:xH)(src dst e:o0)(c:P.underlying src=some .string)(d:P.underlying dst=some (.slice e))(f:P.underlying e=some (.int .u8))(s:xM):II P w0 [] (λy:Hp=>.slice y.1 s.size y.2) (λy:Hp=>IR s y.1) (Go.convert src dst (.string s)):=λW _=>by
 show Pf P W _ _ _;have a:=run_bytes_of_string (P:=P) W src dst e s c d f;refine⟨(some ⟨W.heap.size,0,none⟩,grownCap W s.size 0 e),.bool false,λb=>b=W.heap.size,_,a,((p5 _ W).drew).alloc (L4 _) _,(show _/\_ from⟨rfl,W.heap.size,rfl,λj g=>?_,λb=>Iff.rfl⟩),λb h=>?_⟩
 ·have i:(W.drew.alloc (.cells (bytesRow s (grownCap W s.size 0 e)) e ((bytesRow s (grownCap W s.size 0 e)).size,(bytesRow s (grownCap W s.size 0 e)).size+1))).heap[W.heap.size]?=some (.cells (bytesRow s (grownCap W s.size 0 e)) e ((bytesRow s (grownCap W s.size 0 e)).size,(bytesRow s (grownCap W s.size 0 e)).size+1)):=heap_alloc_new W.drew _;unfold World.cell?;rw[i];show(bytesRow s (grownCap W s.size 0 e))[j]?=_;rw[bytesRow_at s _ j g];congr 2;simp_all[bt]
 ·subst h;simp
end
open Go.Shelf
def Qd3:Ren:=⟨λ|166=>67|240=>116|276=>154|n=>n,λ|0=>0|3=>3|4=>4|5=>5|9=>9|20=>20|37=>81|70=>80|72=>83|75=>135|80=>94|164=>207|n=>n,λ|n=>n⟩
def laysW:Go.Proofs.Lays.n166 prog Qd3:=by repeat'(first|kernel_rfl|decide|intro w|constructor)
def extraW:Builder.Extra prog Qd3:=by repeat'(first|kernel_rfl|decide|intro w|constructor)
def lI(B b:Nat)(bs:o3)(s:xM)(w:xH)(h:Lib.IsBuilder 83 5 B b bs w)(a:bs.length+s.size<=140737488355328)(c:B<=w.heap.size):
 Calls prog 67 #[.pointer (some ⟨b,0,none⟩),.string s] w λe d=>e=.returned (.tuple #[.int .i64 s.size,.nilIface])/\(Lib.BuilderAt 83 5 B b (.pointer (some ⟨b,0,none⟩)) (bs++Lib.strCells s) d/\Below B w d):=Any.Builder_WriteString laysW extraW B b bs s w h a c
def qG:Nat->Code->Option Code
 |0,c=>some c
 |n+1,.seq _ b=>qG n b
 |_+1,_=>none
def Ym(n:Nat)(fn:Func):Option Code:=match fn.body with
 |some c=>qG n c
 |none=>none
def tO(n:Nat)(d:List Dir)(p q:Prop):Prop:=match d with
 |.esc k::_=>(match Nat.beq k n with
  |true=>p
  |false=>q)
 |_=>q
variable{p:Prop}
theorem Oj{n:Nat}{d:List Dir}{q:Prop}(h:tO n d p q):p\/q:=by
 unfold tO at h
 grind
def Ol(P:xO)(tt:List (Nat×TI))(H:Cx)(f:Nat×Nat)(w0:xH)(E:Code->St->Prop):Code->St->List Dir->(Ex->St->List Dir->Prop)->Prop
 |.seq a b,σ,d,K=>XE P tt H f w0 a σ d λe σ d=>match e with
  |.normal=>(match Qda d with
   |true=>JU (Me b) 99999 4 σ d λσ d=>tO (Me b) d (E b σ) (Ol P tt H f w0 E b σ d K)
   |false=>tO (Me b) d (E b σ) (Ol P tt H f w0 E b σ d K))
  |.exit id=>K (.exit id) σ d
  |.ret=>K .ret σ d
 |c,σ,d,K=>XE P tt H f w0 c σ d K
variable{H:Cx}{E:Code->St->Prop}
section
variable{P:xO}{tt:List (Nat×TI)}{w0:xH}
def mQ{V:Code->(Exit->Act->xH->Prop)->Act->xH->Prop}(F:Rules P V)(O:YF P tt)(R:NC P w0 H.inl)(k:Nat×Nat){Q:Exit->Act->xH->Prop}(S:DV Q)(T:∀b σ r a w,E b σ->Sat w0 σ r a w->V b Q a w):∀(c:Code) (σ:St) (d:List Dir) (K:Ex->St->List Dir->Prop),Ol P tt H k w0 E c σ d K->FlOk k σ->∀r a w,Sat w0 σ r a w->PanN w0 H k r Q ->
  (∀e l D r' i j,K e l D->Sat w0 l r' i j->FlOk k l->AgN k r r'->Q e.to i j)->V c Q a w:=by
 intro c;induction c with
 |seq x y X B =>
  intro σ d K h G r a w I C u;refine F.seq (G9 F O R k x σ d _ h G r a w I _ (λd v c a w Y=>S d v c a w Y) (λs l D r' i j=>C s l D r' i j) λe l D r' i j z g f A=>?_);cases e with
  |normal =>
   dsimp only at z;split at z
   ·let⟨σ1,d1,r1,k1,U,W,Z⟩:=DF 4 z r' i j g;rcases Oj k1 with m|m
    ·exact T _ _ _ _ _ m U
    ·exact B _ _ K m (f.le Z) r1 i j U (C.later (A.trans (W.n f))) λe J d3 L M N o p q t=>u e J d3 L M N o p q (A.trans ((W.n f).trans t))
   ·rcases Oj z with m|m
    ·exact T _ _ _ _ _ m g
    ·exact B l _ K m f r' i j g (C.later A) λe J d3 L M N o p q t=>u e J d3 L M N o p q (A.trans t)
  |exit id=>exact u _ _ _ _ _ _ z g f A
  |ret=>exact u _ _ _ _ _ _ z g f A
 |_ =>
  intro σ d K h G r a w I C u;exact G9 F O R k _ σ d K h G r a w I Q S C u
def Mc(k:YF P tt)(l:P.follows .mixedOrders=true)(m:NC P w0 H.inl)(f:Nat×Nat){Q:Exit->Act->xH->Prop}(n:DV Q)(o:∀b σ r a w,E b σ->Sat w0 σ r a w->b.wp P Q a w)(c:Code)(σ:St)(d:List Dir)(K:Ex->St->List Dir->Prop)(h:Ol P tt H f w0 E c σ d K)(p:FlOk f σ)(r:Env)(a:Act)(w:xH)(q:Sat w0 σ r a w)(s:PanN w0 H f r Q)(t:∀e g u r' i j,K e g u->Sat w0 g r' i j->FlOk f g->AgN f r r'->Q e.to i j):c.wp P Q a w:=mQ (Kb l) k m f n o c σ d K h p r a w q s t
end
def Aa(Q:Exit->Act->xH->Prop)(e:Exit)(a:Act)(w:xH):Prop:=match e with
 |.panic _=>False
 |e=>Q e a w
def WE(Q:Exit->Act->xH->Prop):DV (Aa Q):=λ_ _ _ _ _ h=>h
variable{Q:Exit->Act->xH->Prop}{a:Act}
def WF{e:Exit}(h:Aa Q e a w):Q e a w:=by
 cases e<;>first|exact h|exact h.elim
def MF(o:Oper):Bool:=match o.op with
 |.defer _=>false
 |_=>true
def HI:Code->Bool
 |.skip=>true
 |.region _ c _=>c.toList.all MF
 |.seq a b=>HI a&&HI b
 |.cond _ a b=>HI a&&HI b
 |.block _ b=>HI b
 |.loop b=>HI b
 |.exit _=>true
 |.label _=>true
 |.ret=>true
 |_=>false
variable{b:List Deferred}{o:Oper}{next:Act->xH->Prop}{α:Type}
section
variable{P:xO}{l n:Nat}
def wq{row:String}{R:y9->xH->Prop}(h:Rows P row args w R):RowsIn (Fence.wide.inRound l) n P row args w R :=
 λc cs _=>let ⟨v,a,r,s⟩:=h c cs;⟨v,a,r,stepsIn_wide.2 s⟩
def xr{b:Act->xH->Prop}(g:∀a w,next a w->b a w)(r:Result Next)(h:o.upon P a next Q r):o.uponIn (Fence.wide.inRound l) n P a b Q r:=by
 cases r with
 |halt i w=>cases i<;>first|exact h|exact False.elim h
 |ok x w =>
  cases x with
  |value v=>exact g _ _ h
  |skip=>exact g _ _ h
  |defer d=>exact g _ _ h
  |enter f args =>
   refine⟨λh=>(by cases h),(CallsIn.inRound l (callsIn_wide.2 (show Calls P f args w _ from h))).mono λe j h=>?_⟩;cases e with
   |returned v=>exact g _ _ h
   |panicked c=>exact h
   |outgrown=>exact h
  |row row args=>exact⟨λh=>(by cases h),(wq (show Rows P row args w _ from h)).mono λv j h=>g _ _ h⟩
  |_=>exact False.elim h
def yu{b:Act->xH->Prop}(d:MF o=true)(f:∀a w,next a w->b a w)(h:o.wp P a w next Q):o.wpIn (Fence.wide.inRound l) n P a w b Q:=by
 refine⟨λ_ _=>trivial,?_⟩;rw[Oper.semAt_eq _ _ _ (λc e=>by unfold MF at d;rw[e]at d;cases d)];exact xr f _ h
theorem P2{b:Array Oper}{Q:Exit->Act->xH->Prop}(d:¬ LetsOut Q):∀ {m:List Oper} {a:Act} {w:xH},m.all MF=true->wpList P b Q m a w->wpListIn (Fence.wide.inRound l) n P b Q m a w
 |[],_,_,_,h=>h
 |o::m,a,w,f,h=>by
  let⟨g,e⟩:=L5.1 (show(MF o&&m.all MF)=true from f);unfold wpListIn;unfold wpList at h;split
  ·rename_i c;rw[if_pos c]at h;rcases h with h|h
   ·exact yu g (λa w=>P2 d e) h
   grind
  ·rename_i c;rw[if_neg c]at h;exact⟨λ_ _=>trivial,P2 d e h⟩
theorem Pj{m:Region.Mode}{d:Array Oper}{Q:Exit->Act->xH->Prop}(f:¬ LetsOut Q)(g:d.toList.all MF=true):∀(b:Nat) (listed:Array Bool) (a:Act) (w:xH),wpAny P m d Q b listed a w->wpAnyIn (Fence.wide.inRound l) n P m d Q b listed a w
 |0,_,_,_,h=>h
 |b+1,listed,a,w,h=>by
  refine⟨h.1,λi p=>?_⟩;have c:=h.2 i p;unfold wpOp at c;unfold wpOpIn;split
  ·rename_i e;rw[e]at c;exact Pj f g b _ _ _ c
  ·rename_i o e;rw[e]at c;dsimp only at c;have j:MF o=true:=Lg.1 g o (by
    grind)
   split
   ·rename_i k;rw[if_pos k]at c;rcases c with c|c
    ·exact yu j (λa w=>Pj f g b _ a w) c
    ·exact absurd c.2 f
   ·rename_i k;rw[if_neg k]at c;exact⟨λ_ _=>trivial,Pj f g b _ _ _ c⟩
def Du{F:Fence}{c:Code}(J:α->Act->xH->Prop)(μ:α->Nat)(round:∀x a w,J x a w->c.wpIn F n P (Exit.then (λh i=>∃y,J y h i/\μ y<μ x) Q) a w)(v:α)(z:J v a w):(Code.loop c).wpIn F n P Q a w:=by
 intro b k cs p q r;have key:∀j x a w,μ x=j->J x a w->∃e h i,Q e h i/\ArrivesIn (Machine.fenced P F) P (lone (b.atR a (.code c::.inLoop c::k)) cs w) b k cs e h i:=by
  intro j;induction j using Nat.strongRecOn with
  |_ j A =>
   intro x a w B C;let⟨e,m,o,f,d⟩:=round x a w C b (.inLoop c::k) cs p q r;cases e with
   |normal =>
    let⟨y,s,t⟩:=f;let⟨D,E,G,u,g⟩:=A (μ y) (B▸t) y m o rfl s;exact⟨D,E,G,u,.of_steps (StepsIn.trans d (.one (fenced_calm q r rfl) stepR_inLoop)) g⟩
   |exit id=>exact⟨_,m,o,f,.pass (x:=.inLoop c) rfl (λ_ _=>.inl x6) d⟩
   |goto l=>exact⟨_,m,o,f,.pass (x:=.inLoop c) rfl (λ_ _=>.inl x6) d⟩
   |ret=>exact⟨_,m,o,f,.pass (x:=.inLoop c) rfl (λ_ _=>.inl x6) d⟩
   |panic H=>exact⟨_,m,o,f,.pass (x:=.inLoop c) rfl (λ_ _=>.inl x6) d⟩
   |outgrown=>exact⟨_,m,o,f,.pass (x:=.inLoop c) rfl (λ_ _=>.inl x6) d⟩
 let⟨e,h,i,f,d⟩:=key _ v a w rfl z;exact⟨e,h,i,f,.of_steps (.one (fenced_calm q r rfl) stepR_loop) d⟩
def sQ(P:xO)(l n:Nat)(c:Code)(Q:Exit->Act->xH->Prop)(a:Act)(w:xH):Prop:=HI c=true->¬ LetsOut Q->c.wpIn (Fence.wide.inRound l) n P Q a w
def EP(d:P.follows .mixedOrders=true):Rules P (sQ P l n) where
 skip h _ _:=wpIn_skip h
 label h _ _:=wpIn_label h
 exit h _ _:=wpIn_exit h
 ret h _ _:=wpIn_ret h
 rl h ho hQ:=wpIn_region_list (P2 hQ ho h)
 rd h ho hQ:=wpIn_region_any d (Pj hQ ho _ _ _ _ h)
 seq {x y Q a w} h ho hQ:=by
  let⟨f,g⟩:=L5.1 (show(HI x&&HI y)=true from ho);refine wpIn_seq (wpIn_mono (h f hQ) λe a w b=>?_);cases e with
  |normal=>exact b g hQ
  |_=>exact b
 ct {c x y Q a w} he h ho hQ:=wpIn_cond_true he (h (L5.1 (show(HI x&&HI y)=true from ho)).1 hQ)
 cf {c x y Q a w} he h ho hQ:=wpIn_cond_false he (h (L5.1 (show(HI x&&HI y)=true from ho)).2 hQ)
 block h ho hQ:=wpIn_block (h ho hQ)
 loop J μ h x0 _ _ h0 ho hQ:=Du J μ (λx a w i=>h x a w i ho hQ) x0 h0
def YA(b:List Deferred)(a:Act):Act:={ a with defers:=a.defers++b }
def WV(c:List Deferred)(Q:Exit->Act->xH->Prop)(e:Exit)(a:Act)(w:xH):Prop:=∃b,a=YA c b/\Q e b w
def E9(b:List Deferred)(a:Act):(YA b a).eval=a.eval:=rfl
theorem GK(b:List Deferred)(a:Act)(d:Option Tmp)(v:y9):(YA b a).put d v=YA b (a.put d v):=by cases d<;>rfl
theorem Fy(h:LetsOut Q):LetsOut (WV b Q):=let ⟨a,w,h⟩:=h;⟨YA b a,w,a,rfl,h⟩
theorem QdJ{g:List Deferred}{b:Act->xH->Prop}(k:∀a w,next a w->b (YA g a) w)(h:o.wp P a w next Q):o.wp P (YA g a) w b (WV g Q):=by
 unfold Oper.wp at h ⊢;rw[E9];revert h;generalize (execOp a.eval o).run P w=r;intro h;cases r with
 |halt l i=>cases l<;>first|exact⟨_,rfl,h⟩|exact False.elim h
 |ok x i =>
  cases x with
  |value v=>show b ((YA g a).put o.dst v) i;rw[GK];exact k _ _ h
  |skip=>show b ((YA g a).put o.dst undef) i;rw[GK];exact k _ _ h
  |defer d =>
   show b (({ YA g a with defers:=d::(YA g a).defers }:Act).put o.dst undef) i;rw[show({ YA g a with defers:=d::(YA g a).defers }:Act)=YA g { a with defers:=d::a.defers } from rfl,GK];exact k _ _ h
  |enter f args =>
   refine(show Calls P f args i _ from h).mono λe j h=>?_
   cases e with
   |returned v=>show b ((YA g a).put o.dst v) j;rw[GK];exact k _ _ h
   |panicked c=>exact⟨_,rfl,h⟩
   |outgrown=>exact Fy h
  |row row args =>
   refine(show Rows P row args i _ from h).mono λv j h=>?_
   grind[GK]
  |_=>exact False.elim h
theorem lD(h:o.asks P a w):o.asks P (YA b a) w:=h
theorem dt{c:List Deferred}{b:Array Oper}{Q:Exit->Act->xH->Prop}:∀ {m:List Oper} {a:Act} {w:xH},wpList P b Q m a w->wpList P b (WV c Q) m (YA c a) w
 |[],_,_,h=>⟨_,rfl,h⟩
 |o::m,a,w,h=>by
  unfold wpList at h ⊢;rw[show(YA c a).tmps=a.tmps from rfl];split
  ·rename_i d;rw[if_pos d]at h;rcases h with h|h
   ·exact .inl (QdJ (λa w=>dt) h)
   grind[lD,Fy]
  ·rename_i d;rw[if_neg d]at h;rw[GK];exact dt h
theorem eZ{f:List Deferred}{j:Region.Mode}{d:Array Oper}{Q:Exit->Act->xH->Prop}:∀(b:Nat) (listed:Array Bool) (a:Act) (w:xH),wpAny P j d Q b listed a w->wpAny P j d (WV f Q) b listed (YA f a) w
 |0,_,_,_,h=>⟨h.1,_,rfl,h.2⟩
 |b+1,listed,a,w,h=>by
  refine⟨λe=>⟨_,rfl,h.1 e⟩,λi k=>?_⟩;have c:=h.2 i k;unfold wpOp at c ⊢;split
  ·rename_i e;rw[e]at c;exact eZ b _ _ _ c
  ·rename_i o e;rw[e]at c;dsimp only at c;rw[show(YA f a).tmps=a.tmps from rfl];split
   ·rename_i g;rw[if_pos g]at c;rcases c with c|c
    ·exact .inl (QdJ (λa w=>eZ b _ a w) c)
    grind[lD,Fy]
   ·rename_i g;rw[if_neg g]at c;rw[GK];exact eZ b _ _ _ c
def Qe3(P:xO)(b:List Deferred)(c:Code)(Q:Exit->Act->xH->Prop)(a:Act)(w:xH):Prop:=c.wp P (WV b Q) (YA b a) w
def FR(g:P.follows .mixedOrders=true){ds:List Deferred}:Rules P (Qe3 P ds) where
 skip h:=wp_skip ⟨_,rfl,h⟩
 label h:=wp_label ⟨_,rfl,h⟩
 exit h:=wp_exit ⟨_,rfl,h⟩
 ret h:=wp_ret ⟨_,rfl,h⟩
 rl h:=wp_region_list (dt h)
 rd h:=wp_region_any g (eZ _ _ _ _ h)
 seq h:=wp_seq (wp_mono h λe a w d=>by
  obtain⟨b,rfl,d⟩:=d;cases e with
  |normal=>exact d
  |_=>exact⟨_,rfl,d⟩)
 ct he h:=wp_cond_true he h
 cf he h:=wp_cond_false he h
 block {id c Q a w} h:=wp_block (wp_mono h λe a w d=>by
  obtain⟨b,rfl,d⟩:=d;cases e with
  |exit i =>
   dsimp only[Exit.inBlock]at d ⊢;split
   ·rename_i e;rw[if_pos e]at d;exact⟨_,rfl,d⟩
   ·rename_i e;rw[if_neg e]at d;exact⟨_,rfl,d⟩
  |_=>exact⟨_,rfl,d⟩)
 loop J μ h x0 _ _ h0:=Hq (λx a w=>∃b,a=YA ds b/\J x b w) μ (λx a w f=>by
  obtain⟨b,rfl,f⟩:=f;refine wp_mono (h x b w f) λe a w d=>?_
  obtain⟨c,rfl,d⟩:=d;cases e with
  |normal=>let⟨y,j,k⟩:=d;exact⟨y,⟨c,rfl,j⟩,k⟩
  |_=>exact⟨_,rfl,d⟩) x0 ⟨_,rfl,h0⟩
end
def Do(c:xH)(F:Nat->Prop):Res where
 φ x S w:=x.oneCell'=true/\(∀b,F b->S b)/\∀b,F b->w.heap[b]?=c.heap[b]?
 one _ _ _ h:=h.1
 loc x S w w' h hφ:=⟨hφ.1,hφ.2.1,λb a=>(h b (hφ.2.1 b a)).trans (hφ.2.2 b a)⟩
def VO:Res where
 φ x S _:=x.oneCell'=true/\∀b,¬ S b
 one _ _ _ h:=h.1
 loc _ _ _ _ _ hφ:=hφ
def KpC(W a:xH):Prop:=W.heap.size<=a.heap.size/\∀(k:Nat) (o:Obj),W.heap[k]?=some o->o.isCells=true->a.heap[k]?=some o
def Qdg{A B C:xH}(h:KpC A B)(k:KpC B C):KpC A C:=⟨L6 h.1 k.1,λi o b a=>k.2 i o (h.2 i o b a) a⟩
theorem Qdf(W:xH)(l:Nat)(o a:Obj)(h:W.heap[l]?=some o)(d:o.isCells=false):KpC W (W.putObj l a):=by
 have b:=grownBy_putObj' W l a;refine⟨b.size,λk u c f=>?_⟩;by_cases e:k=l
 ·subst e
  grind
 ·exact(b.block k (b8.1 c).1 (λh=>e (o7 h))).trans c
variable{g:Nat}{W:xH}
def KpC.bx{a:xH}{t:o0}{cs:x0g}(h:KpC W a)(b:Bx W g t cs):Bx a g t cs:=h.2 g _ b rfl
def eW(σ:St)(r:Env)(n:Nat)(W a:xH):Prop:=∀k,k<n->(∀i p,Xq σ.bs i=some p->r.b i≠k)->a.heap[k]?=W.heap[k]?
def dH:List (Option Res)->Bool
 |[]=>true
 |none::l=>dH l
 |some _::_=>false
def AZ:∀ {l:List (Option Res)},dH l=true->∀i R,Xq l i≠some R
 |[],_,_,_,h=>nomatch h
 |none::l,h,0,_,a=>nomatch a
 |none::l,h,i+1,R,a=>AZ (l:=l) h i R a
 |some _::_,h,_,_,_=>nomatch h
def oW(R:Res)(l:List (Option Res))(p:Prop):Prop:=match l with
 |some R'::l=>Z6 (dH l) (R'=R/\p)
 |_=>False
def PX(R:Res)(l:List (Option Res))(p:Prop):Prop:=match l with
 |some R'::_=>R'=R/\p
 |_=>False
variable{R:Res}{l:List (Option Res)}
theorem dL(h:oW R l p):p/\∃m,l=some R::m/\dH m=true:=by
 unfold oW at h
 grind[Qq]
theorem AQ(h:PX R l p):p/\∃m,l=some R::m:=by
 unfold PX at h
 grind
def sL:List (Option (o0×List SV))->Bool
 |[]=>true
 |some _::l=>sL l
 |none::_=>false
def N0:∀ {l:List (Option (o0×List SV))},sL l=true->∀i,i<l.length->∃q,Xq l i=some q
 |[],_,_,h=>absurd h (R4 _)
 |some q::l,h,0,_=>⟨q,rfl⟩
 |some q::l,h,i+1,a=>N0 (l:=l) h i (Nat.lt_of_succ_lt_succ a)
 |none::l,h,_,_=>nomatch h
def No:List (Option (o0×List SV))->List (Option (o0×List SV))->Bool
 |[],_=>true
 |none::l,[]=>No l []
 |none::l,_::m=>No l m
 |some _::l,some _::m=>No l m
 |some _::_,_=>false
def Dj:∀ {l m:List (Option (o0×List SV))},No l m=true->∀i q,Xq l i=some q->∃b,Xq m i=some b
 |[],_,_,_,_,h=>nomatch h
 |none::l,[],h,0,_,a=>nomatch a
 |none::l,[],h,i+1,q,a=>by
  let⟨b,c⟩:=Dj (l:=l) (m:=[]) h i q a;cases c
 |none::l,_::m,h,0,_,a=>nomatch a
 |none::l,_::m,h,i+1,q,a=>Dj (l:=l) (m:=m) h i q a
 |some _::l,some b::m,h,0,_,_=>⟨b,rfl⟩
 |some _::l,some _::m,h,i+1,q,a=>Dj (l:=l) (m:=m) h i q a
 |some _::_,[],h,_,_,_=>nomatch h
 |some _::_,none::_,h,_,_,_=>nomatch h
variable{σ τ:St}{r r':Env}
section
variable{P:xO}{tt:List (Nat×TI)}{w0:xH}
def xW(P:xO)(tt:List (Nat×TI))(w0:xH)(σ:St)(f:List (Option (o0×List SV)))(body:Code)(a:Bool)(b:St)(d:List Dir):Prop :=
 ∀g:Res,XE P tt (Kj P tt w0) (b.bs.length,b.rs.length) w0 body (XL 0 g b) d λe c _=>match e with
  |.normal=>PX g c.rs (Yb c ⟨b.n,[],b.bs,[]⟩ (Yb c σ (a=true)))
  |.ret=>Z6 (No b.bs c.bs) (PX g c.rs (Yb c { σ with bs:=f } (a=false)))
  |.exit _=>False
def qf(P:xO)(tt:List (Nat×TI))(w0:xH)(σ:St)(c:List (Option (o0×List SV)))(body:Code)(a:Bool)(R:Res)(e:Ex)(b:St)(d:List Dir):Prop:=match e with
 |.normal=>oW R b.rs (Yb b σ (Z6 (po σ b) (xW P tt w0 σ c body a b d)))
 |_=>False
def Sat.grown{w g:xH}{row:Option Nat}(h:Sat w0 σ r a w)(f:∀i R,Xq σ.rs i=some R->R=VO)(j:w.grownBy g row)(l:∀k,row=some k->w0.heap.size<=k/\∃o:Obj,w.heap[k]?=some o/\o.isCells=false):Sat w0 σ r a g:=by
 refine⟨⟨h.see.low.grown j h.see.low.size (λk e=>(l k e).1),h.see.size,h.see.ts,λi t cs d=>?_,λi R d=>?_,h.see.one⟩,h.sep,h.defers⟩
 ·let⟨c,m⟩:=h.see.bs i t cs d;refine⟨(j.block _ c.lt λe=>?_).trans c,m⟩;let⟨_,o,n,p⟩:=l _ e.symm;rw[show w.heap[r.b i]?=some (.cells _ t (0,0))from c]at n;obtain rfl:=o7 n;cases p
 ·let⟨c,m⟩:=h.see.rs i R d;obtain rfl:=f i R d;exact⟨c,λb q=>absurd q (c.2 b)⟩
def Zp(w0:xH)(σ:St)(r:Env)(W:xH)(b:Nat):Prop:=w0.heap.size<=b/\b<W.heap.size/\∀i p,Xq σ.bs i=some p->r.b i≠b
theorem tY{W:xH}{m:List (Option Res)}(h:Sat w0 σ r a W)(d:σ.rs=some VO::m)(u:dH m=true):
  Sat w0 (XL 0 (Do W (Zp w0 σ r W)) σ) ⟨r.b,r.x,λ_=>Zp w0 σ r W⟩ a W:=by
 have v:(XL 0 (Do W (Zp w0 σ r W)) σ).rs=some (Do W (Zp w0 σ r W))::m:=by unfold XL;rw[d];rfl
 have g:(XL 0 (Do W (Zp w0 σ r W)) σ).rs.length=σ.rs.length:=XZ _ _ _;have w:∀s,(XL 0 (Do W (Zp w0 σ r W)) σ).lt s=σ.lt s:=λs=>by simp only[St.lt,g];rfl
 have o:∀s,(XL 0 (Do W (Zp w0 σ r W)) σ).ltL s=σ.ltL s:=λs=>by simp only[St.ltL,g];rfl
 have e:(r.x 0).oneCell'=true:=h.see.one 0 (by rw[d];exact Sw _);have l:∀i R,Xq (XL 0 (Do W (Zp w0 σ r W)) σ).rs i=some R->i=0/\R=Do W (Zp w0 σ r W):=λi R c=>by
  rw[v]at c;cases i with
  |zero=>exact⟨rfl,(o7 c).symm⟩
  |succ i=>exact absurd c (AZ u i R)
 refine⟨⟨h.see.low,h.see.size,λk s y=>?_,λi t cs c=>?_,λi R c=>?_,λi c=>h.see.one i (by rwa [g]at c)⟩,⟨h.sep.own,h.sep.inj,λi R c b f=>f.1,λi j R R' c q n=>absurd ((l i R c).1.trans (l j R' q).1.symm) n,λi j p R c q z=>z.2.2 i p c rfl⟩,h.defers⟩
 ·let⟨A,B⟩:=h.see.ts k s y
  grind[Vy]
 ·let⟨A,B⟩:=h.see.bs i t cs c
  grind[Vh]
 ·obtain⟨rfl,rfl⟩:=l i R c;exact⟨⟨e,λ_ f=>f,λ_ _=>rfl⟩,λb f=>f.2.1⟩
theorem Qb3{W:xH}{m:List (Option Res)}(h:Sat w0 σ r a W)(e:σ.rs=some R::m)(l:dH m=true):
  Sat w0 (XL 0 VO σ) ⟨r.b,r.x,λ_ _=>False⟩ a W:=by
 have n:(XL 0 VO σ).rs=some VO::m:=by unfold XL;rw[e];rfl
 have g:(XL 0 VO σ).rs.length=σ.rs.length:=XZ _ _ _;have o:∀s,(XL 0 VO σ).lt s=σ.lt s:=λs=>by simp only[St.lt,g];rfl
 have j:∀s,(XL 0 VO σ).ltL s=σ.ltL s:=λs=>by simp only[St.ltL,g];rfl
 have f:(r.x 0).oneCell'=true:=h.see.one 0 (by rw[e];exact Sw _);have p:∀i R,Xq (XL 0 VO σ).rs i=some R->i=0/\R=VO:=λi R c=>by
  rw[n]at c;cases i with
  |zero=>exact⟨rfl,(o7 c).symm⟩
  |succ i=>exact absurd c (AZ l i R)
 refine⟨⟨h.see.low,h.see.size,λk s q=>?_,λi t cs c=>?_,λi R c=>?_,λi c=>h.see.one i (by rwa [g]at c)⟩,⟨h.sep.own,h.sep.inj,λ_ _ _ _ d=>d.elim,λ_ _ _ _ _ _ _ _ d=>d.elim,λ_ _ _ _ _ _ u=>u.elim⟩,h.defers⟩
 ·let⟨v,w⟩:=h.see.ts k s q
  grind[Vy]
 ·let⟨v,w⟩:=h.see.bs i t cs c
  grind[Vh]
 ·obtain⟨rfl,rfl⟩:=p i R c;exact⟨⟨f,λ_ d=>d⟩,λb d=>d.elim⟩
def PO{W:xH}(h:Sat w0 σ r a W)(d:σ.rs=[]):
  Sat w0 { σ with rs:=[some (Do W (Zp w0 σ r W))] } ⟨r.b,λ_=>.bool false,λ_=>Zp w0 σ r W⟩ a W:=by
 have f:Ag σ r ⟨r.b,λ_=>.bool false,λ_=>Zp w0 σ r W⟩:=⟨λ_ _=>rfl,λi c=>by rw[d]at c;exact absurd c (R4 _)⟩
 have g:∀s,σ.lt s=true->({ σ with rs:=[some (Do W (Zp w0 σ r W))] }:St).lt s=true:=λs l=>KW (λi c=>c) (λi c=>by rw[d]at c;exact absurd (Xa c) (R4 _)) s l
 have o:∀i R,Xq [some (Do W (Zp w0 σ r W))] i=some R->i=0/\R=Do W (Zp w0 σ r W):=λi R c=>by
  cases i with
  |zero=>exact⟨rfl,(o7 c).symm⟩
  |succ i=>cases c
 refine⟨⟨h.see.low,h.see.size,λk s w=>?_,λi t cs c=>?_,λi R c=>?_,λi _=>rfl⟩,⟨h.sep.own,h.sep.inj,λi R c b m=>m.1,λi j R R' c v q=>absurd ((o i R c).1.trans (o j R' v).1.symm) q,λi j p R c v x=>x.2.2 i p c rfl⟩,h.defers⟩
 ·let⟨u,n⟩:=h.see.ts k s w;exact⟨by rw[f.den n];exact u,g s n⟩
 ·let⟨u,n⟩:=h.see.bs i t cs c;have e:QO ⟨r.b,λ_=>.bool false,λ_=>Zp w0 σ r W⟩ cs=QO r cs:=by
   rw[XI,XI];exact S6 λs l=>f.den (okL_all.1 n s l)
  exact⟨by rw[e];exact u,okL_all.2 λs l=>g s (okL_all.1 n s l)⟩
 ·obtain⟨rfl,rfl⟩:=o i R c;exact⟨⟨rfl,λ_ m=>m,λ_ _=>rfl⟩,λb m=>m.2.1⟩
def Sat.swap{g:Act}{w d:xH}(h:Sat w0 σ r a w)(b:Sat w0 τ r' g d)(c:τ.ts=σ.ts)(i:τ.n=σ.n)(j:τ.bs.length=σ.bs.length)(l:τ.rs.length=σ.rs.length)(m:Ag σ r r'):Sat w0 τ r' a d:=by
 refine⟨⟨b.see.low,h.see.size.trans i.symm,λk s e=>?_,b.see.bs,b.see.rs,b.see.one⟩,b.sep,h.defers⟩;rw[c]at e;let⟨o,f⟩:=h.see.ts k s e;exact⟨by rw[m.den f];exact o,by simp only[St.lt,j,l];exact f⟩
def En{f:Act}{W d:xH}{m:List (Option Res)}(h:Sat w0 σ r a W)(e:Sat w0 τ r' f d)(c:τ.rs=some (Do W (Zp w0 σ r W))::m):eW σ r W.heap.size W d:=λk g i=>by
 rcases R5 k w0.heap.size with b|b
 ·exact(e.see.low.block k b).trans (h.see.low.block k b).symm
 ·exact(e.see.rs 0 (Do W (Zp w0 σ r W)) (by rw[c];rfl)).1.2.2 k ⟨b,g,i⟩
theorem RZ{g:Act}{W c:xH}(h:Sat w0 σ r a W)(n:Sat w0 τ r' g c)(o:∀i p,Xq σ.bs i=some p->r.b i<c.heap.size)(j:eW σ r W.heap.size W c):W.heap.size<=c.heap.size:=by
 rcases R5 c.heap.size W.heap.size with k|d
 ·exfalso;by_cases f:∃i p,Xq σ.bs i=some p/\r.b i=W.heap.size-1
  ·let⟨i,p,l,q⟩:=f
   grind
  ·have l:=j (W.heap.size-1) x3 (λi p m e=>f ⟨i,p,m,e⟩)
   grind
 ·exact d
def gh{W c:xH}(h:Sat w0 σ r a W)(m:∀i t cs,Xq σ.bs i=some (t,cs)->Bx c (r.b i) t (QO r cs).toArray)(n:eW σ r W.heap.size W c)(q:W.heap.size<=c.heap.size):KpC W c:=by
 refine⟨q,λk o d _=>?_⟩;by_cases f:∃i p,Xq σ.bs i=some p/\r.b i=k
 ·let⟨i,⟨t,cs⟩,g,s⟩:=f;have j:=(h.see.bs i t cs g).1;have l:=m i t cs g;rw[s]at j l;exact(show c.heap[k]?=some (.cells _ t (0,0))from l).trans ((show W.heap[k]?=some (.cells _ t (0,0))from j).symm.trans d)
 ·exact(n k (b8.1 d).1 λi p u e=>f ⟨i,p,u,e⟩).trans d
def Mu{W c:xH}(B:Nat)(h:Sat w0 σ r a W)(f:eW σ r W.heap.size W c)(g:W.heap.size<=c.heap.size):KeepsFrom B W c:=by
 refine⟨g,λk o _ b j=>(f k (b8.1 b).1 λi p l e=>?_).trans b⟩;have d:=(h.see.bs i p.1 p.2 l).1;rw[e]at d;rw[show W.heap[k]?=some (.cells _ p.1 (0,0))from d]at b;obtain rfl:=o7 b;cases j
def eY(a:σ.rs=[])(h:AgN (σ.bs.length,0) r r'):Ag σ r r':=⟨h.1,λi b=>by rw[a]at b;exact absurd b (R4 _)⟩
def fG(h:Ag σ r r'){l:List SV}(a:σ.ltL l=true):QO r' l=QO r l:=by
 rw[XI,XI];exact S6 λs b=>h.den (okL_all.1 a s b)
end
theorem wT(h:Yb σ τ p):∀i q,Xq τ.bs i=some q->∃a,Xq σ.bs i=some a:=by
 let⟨b,h⟩:=Qq h;let⟨h,c⟩:=Cg h;let⟨h,d,e⟩:=Cd h
 grind
variable{assign:Code}
section
variable{P:xO}{tt:List (Nat×TI)}{w0:xH}
def sE(P:xO)(tt:List (Nat×TI))(w0:xH)(σ:St)(d:List (Option (o0×List SV)))(body:Code)(r:Env)(n:Nat)(c:Bool)(e:Act)(W:xH):Prop :=
 ∃a f r1 m,Sat w0 (XL 0 VO a) r1 e W/\(XL 0 VO a).rs=some VO::m/\dH m=true/\(∃R,a.rs=some R::m)/\AgN (σ.bs.length,0) r r1/\σ.bs.length<=a.bs.length /\
  (∀i p,Xq a.bs i=some p->σ.bs.length<=i->n<=r1.b i)/\xW P tt w0 σ d body c a f
theorem Qby(hT:YF P tt)(hm:P.follows .mixedOrders=true){V:List (Option (o0×List SV))}(cc:V.length=σ.bs.length){xs:List α}{gf:Nat}{lb:x0g}{enc:α->y9}{C:α->Bool}{g:x0h}{p:Nat}{body:Code}(J:σ.rs=[])(bn:sL σ.bs=true)(hp:BF (some p) σ.n=true)(cd:HI assign=true)(cf:HI body=true)(aB:∀x,x∈xs->∃d,∀R:Res,XE P tt (Kj P tt w0) (σ.bs.length,0) w0 assign { σ.push (some p) (.val (enc x))with rs:=[some R] } d (qf P tt w0 σ V body (C x) R)){w:xH}(hS:Sat w0 σ r a w)(hg:a.eval g=.func (.func gf) #[] lb)(he:Xt P gf)(bp:SeqStopsK Fence.wide 8 P gf lb (λx:{x // x∈xs}=>#[enc x.1]) KpC (λys=>ys=xs.attach) (λ_=>True) xs.length w){ds:List Deferred}{Q:Exit->Act->xH->Prop}(bd:∀D r' W,Sat w0 σ r' a W->AgN (σ.bs.length,0) r r'->eW σ r w.heap.size w W->w.heap.size<=D->W.heap[D]?=some (.deferred (some []))->(∀x,x∈xs->C x=true)->Q .normal (YA ({ target:=.collected D,args:=#[] }::ds) a) W)(bi:∀D r' W,Sat w0 { σ with bs:=V } r' a W->AgN (σ.bs.length,0) r r'->eW σ r w.heap.size w W->w.heap.size<=D->W.heap[D]?=some (.deferred (some []))->(∃x,x∈xs/\C x=false)->Q .ret (YA ({ target:=.collected D,args:=#[] }::ds) a) W):
  (Code.rangeFunc g #[p] assign body).wp P Q (YA ds a) w:=by
 have ad:=hS.see.low.size;have ch:=hS.defers;have bk:=N0 bn;have ag:∀D,({ YA ds a with defers:={ target:=.collected D,args:=#[] }::(YA ds a).defers }:Act)=YA ({ target:=.collected D,args:=#[] }::ds) a:=λD=>by
  grind[YA]
 refine wpIn_wide.1 (wpIn_rangeFunc_ownH (F:=Fence.wide) (n:=9) (Kp:=KpC) (α:={x // x∈xs}) (encs:=λx=>#[enc x.1]) (S:=λys=>ys=xs.attach) (Sp:=λ_=>True) (N:=xs.length) (w0:=w) rfl x4 (gf:=gf) (lb:=lb) (by rw[E9];exact hg) trivial he bp Qdg (λW l o o' _ h ho _=>Qdf W l o o' h ho) (p5 _ _) (λ_=>rfl)
  (λpre W=>(∃r',Sat w0 σ r' a W/\AgN (σ.bs.length,0) r r')/\eW σ r w.heap.size w W/\w.heap.size<=W.heap.size/\∀x,x∈pre->C x.1=true)
  (λc pre W=>c=.ret/\(∃r',Sat w0 { σ with bs:=V } r' a W/\AgN (σ.bs.length,0) r r')/\eW σ r w.heap.size w W/\∃x,x∈pre/\C x.1=false)
  ?hI ?hIx ⟨⟨r,hS,AgN.refl _ _⟩,λ_ _ _=>rfl,L4 _,λ_ h=>nomatch h⟩
  (λx a' W=>sE P tt w0 σ V body r w.heap.size (C x.1) a' W) ?hAx ?assign ?body ?done ?stop)
 case hI =>
  rintro pre W W' row ⟨⟨r',G,T⟩,L,h4,h5⟩ A z;refine⟨⟨r',G.grown (λi R f=>by rw[J]at f;cases f) A (λk e=>⟨L6 ad (z k e).1,(z k e).2⟩),T⟩,λk u hn=>?_,L6 h4 A.size,h5⟩;exact(A.block k (L9 u h4) λe=>x8 ((z k e.symm).1)).trans (L k u hn)
 case hIx =>
  rintro c pre W W' row ⟨h0,⟨r',G,T⟩,L,h5⟩ A z;refine⟨h0,⟨r',G.grown (λi R f=>by rw[show({ σ with bs:=V }:St).rs=[]from J]at f;cases f) A (λk e=>⟨L6 ad (z k e).1,(z k e).2⟩),T⟩,λk u hn=>?_,h5⟩;have cj:k<W.heap.size:=by
   rcases R5 k W.heap.size with h|h
   ·exact h
   ·have h6:=L k u hn
    grind
  exact(A.block k cj λe=>x8 ((z k e.symm).1)).trans (L k u hn)
 case hAx =>
  rintro x a' s W W' row ⟨B,d1,r1,m,G,T,L,h4,h5⟩ A z;exact⟨B,d1,r1,m,G.grown (λi R f=>by
   rw[T]at f;cases i with
   |zero=>exact(o7 f).symm
   |succ i=>exact absurd f (AZ L i R)) A (λk e=>⟨L6 ad (z k e).1,(z k e).2⟩),T,L,h4,h5⟩
 case assign =>
  rintro l pre x W K ⟨⟨r',G,T⟩,L,h4,h5⟩ hK;have ck:=eY J T;let⟨d,hd⟩:=aB x.1 x.2;have e0:({ tmps:=(#[p].zip #[enc x.1]).foldl (λt (p,v)=>t.setIfInBounds p v) (YA ds a).tmps,defers:=[] }:Act)=a.put (some p) (enc x.1):=by
   unfold Act.put;rw[<- ch];simp[YA]
  rw[e0];have cl:Sat w0 (σ.push (some p) (.val (enc x.1))) r' (a.put (some p) (enc x.1)) W:=G.put (s:=.val (enc x.1)) hp rfl;have X:=PO cl J;have eS:Zp w0 (σ.push (some p) (.val (enc x.1))) r' W=Zp w0 σ r' W:=rfl;rw[eS]at X;refine G9 (EP hm) hT (JV hT hm 9) (σ.bs.length,0) assign _ d _ (hd (Do W (Zp w0 σ r' W))) ⟨L4 _,L7 _⟩ _ _ W X (Exit.then K λ_ _ _=>False) (λ_ _ _ _ _ h=>h.elim) (λ_ _ _ _ _ _ h=>False.elim h) (λe B d1 r1 a1 W1 u H _ cm=>?_) cd (λ⟨_,_,h⟩=>h);cases e with
  |exit i=>exact False.elim u
  |ret=>exact False.elim u
  |normal =>
   let⟨u,m,Y,bq⟩:=dL u;have cn:=wT u;let⟨u,I⟩:=Q3 w0 u;let⟨cq,cr⟩:=Qq u;have bu:=I _ _ _ H;have U:AgN (σ.bs.length,0) r' r1:=⟨λi f=>cm.1 i f,λi f=>absurd f (R4 _)⟩
   have ao:=eY J U;have hF:eW σ r' W.heap.size W W1:=En (σ:=σ) (r:=r') G H Y;have hb:∀i t cs,Xq σ.bs i=some (t,cs)->Bx W1 (r'.b i) t (QO r' cs).toArray:=λi t cs f=>by
    let⟨k1,_⟩:=bu.see.bs i t cs f;rw[ao.1 i (XK f),fG ao (G.see.bs i t cs f).2]at k1;exact k1
   have hz:=RZ G H (λi p f=>(hb i p.1 p.2 f).lt) hF;refine hK a1 W1 (Mu _ G hF hz) (gh G hb hF hz) ⟨⟨r1,G.swap bu rfl rfl rfl rfl ao,T.trans U⟩,λk u hn=>?_,L6 h4 hz,h5⟩ ?_
   ·refine(hF k x3 λi p f=>?_).trans (L k u hn);rw[ck.1 i (XK f)];exact hn i p f
   ·refine⟨B,d1,⟨r1.b,r1.x,λ_ _=>False⟩,m,Qb3 H Y bq,by unfold XL;rw[Y];rfl,bq,⟨_,Y⟩,T.trans U,(nV cq).1,λi p f bv=>?_,cr⟩;show w.heap.size<=r1.b i;have k1:=H.sep.apart i 0 p _ f (by rw[Y];rfl);have k2:=(H.see.rs 0 (Do W (Zp w0 σ r' W)) (by rw[Y];rfl)).1.2.1;have k3:=H.sep.own i p f;rcases R5 (r1.b i) W.heap.size with bc|cB
    ·exfalso;refine k1 (k2 _ ⟨k3,bc,λj q hj e=>?_⟩);have k4:r1.b j=r'.b j:=U.1 j (XK hj);let⟨q1,ct⟩:=cn j q hj;exact H.sep.inj i j p q1 f ct (λe2=>x8 (XK hj)) (by rw[k4];exact e.symm)
    ·omega
 case body =>
  rintro l pre x a' W hl _ ⟨⟨r',bX,cu⟩,L,h4,h5⟩ ⟨B,d1,r1,m,k1,k2,k3,⟨R0,k4⟩,k5,k6,k7,k8⟩ _;have X:=tY k1 k2 k3;have eo:XL 0 (Do W (Zp w0 (XL 0 VO B) r1 W)) (XL 0 VO B)=XL 0 (Do W (Zp w0 (XL 0 VO B) r1 W)) B:=by unfold XL;rw[k4];rfl
  rw[eo]at X;have eS:Zp w0 (XL 0 VO B) r1 W=Zp w0 B r1 W:=rfl;rw[eS]at X;have cw:(XL 0 VO B).rs.length=B.rs.length:=XZ _ _ _;refine G9 (EP hm) hT (JV hT hm 9) (B.bs.length,B.rs.length) body _ d1 _ (k8 (Do W (Zp w0 B r1 W))) ⟨L4 _,by unfold XL;rw[XZ];exact L4 _⟩ _ _ W X _ (λ_ _ _ _ _ h=>h.elim) (λ_ _ _ _ _ _ h=>False.elim h) (λe σ2 d2 r2 a2 W2 u M _ bl=>?_) cf (λ⟨_,_,h⟩=>h);have bY:AgN (σ.bs.length,0) r1 r2:=⟨λi f=>bl.1 i (L9 f k6),λi f=>absurd f (R4 _)⟩
  have A:AgN (σ.bs.length,0) r r2:=k5.trans bY;have ca:AgN (σ.bs.length,0) r' r2:=⟨λi f=>(A.1 i f).trans (cu.1 i f).symm,λi f=>absurd f (R4 _)⟩
  have aw:Ag (XL 0 VO B) r1 r2:=⟨λi f=>bl.1 i f,λi f=>bl.2 i (by rw[<- cw];exact f)⟩
  have frame:∀Z,σ2.rs=some (Do W (Zp w0 B r1 W))::Z->eW (XL 0 VO B) r1 W.heap.size W W2:=λZ E=>En (σ:=XL 0 VO B) k1 M (by rw[E];rfl)
  have cb:∀Z,σ2.rs=some (Do W (Zp w0 B r1 W))::Z->eW σ r w.heap.size w W2:=λZ E k u hn=>by
   refine(frame Z E k x3 λi p f=>?_).trans (L k u hn);rcases R5 i σ.bs.length with bc|bv
   ·rw[k5.1 i bc];intro e;let⟨q,hq⟩:=bk i bc;exact hn i q hq e
   ·have:=k7 i p f bv;omega
  cases e with
  |exit i=>exact False.elim u
  |normal =>
   let⟨u,Z,E⟩:=AQ u;let⟨u,bm⟩:=Q3 w0 u;let⟨O,I⟩:=Q3 w0 u;have cy:=bm _ _ _ M;have hb:∀i t cs,Xq (XL 0 VO B).bs i=some (t,cs)->Bx W2 (r1.b i) t (QO r1 cs).toArray:=λi t cs f=>by
    have q1:=(cy.see.bs i t cs f).1;rw[aw.1 i (XK f),fG aw (k1.see.bs i t cs f).2]at q1;exact q1
   have hF:=frame Z E;have hz:=RZ k1 M (λi p f=>(hb i p.1 p.2 f).lt) hF;refine⟨Mu _ k1 hF hz,gh k1 hb hF hz,⟨r2,bX.swap (I _ _ _ M) rfl rfl rfl rfl (eY J ca),A⟩,cb Z E,L6 h4 hz,λy hy=>?_⟩;rcases Lo.1 hy with hy|hy
   ·exact h5 y hy
   ·rw[Ly.1 hy];exact O
  |ret =>
   let⟨cA,u⟩:=Qq u;let⟨u,Z,E⟩:=AQ u;let⟨O,I⟩:=Q3 w0 u;have hF:=frame Z E;have hz:=RZ k1 M (λi p f=>by
    let⟨q',hq⟩:=Dj cA i p f;have q1:=(M.see.bs i q'.1 q'.2 hq).1.lt;rw[aw.1 i (XK f)]at q1;exact q1) hF
   exact⟨Mu _ k1 hF hz,rfl,⟨r2,bX.swap (I _ _ _ M) rfl rfl cc rfl (eY J ca),A⟩,cb Z E,x,x6,O⟩
 case done =>
  rintro D ys W hD rfl ⟨⟨r',G,T⟩,L,_,h5⟩ u;rw[ag];exact bd D r' W G T L hD u λx hx=>h5 ⟨x,hx⟩ (List.mem_attach _ _)
 case stop =>
  rintro D c pre W hD _ ⟨rfl,⟨r',G,T⟩,L,x,_,hx⟩ u;rw[ag];exact wpIn_ret (bi D r' W G T L hD u ⟨x.1,x.2,hx⟩)
end
def Qbv:Code->Bool
 |.seq (.seq _ (.block _ (.rangeFunc _ c a b))) _=>Nat.beq c.toList.length 1&&(HI a&&HI b)
 |_=>false
def Ys:Code->Code
 |.seq (.seq x _) _=>x
 |_=>.skip
def tv:Code->Nat
 |.seq (.seq _ (.block i _)) _=>i
 |_=>0
def yD:Code->x0h
 |.seq (.seq _ (.block _ (.rangeFunc g _ _ _))) _=>g
 |_=>.tmp 0
def Md:Code->Nat
 |.seq (.seq _ (.block _ (.rangeFunc _ a _ _))) _=>a.toList.headD 0
 |_=>0
def yB:Code->Code
 |.seq (.seq _ (.block _ (.rangeFunc _ _ a _))) _=>a
 |_=>.skip
def yC:Code->Code
 |.seq (.seq _ (.block _ (.rangeFunc _ _ _ b))) _=>b
 |_=>.skip
def aa:Code->Code
 |.seq (.seq _ _) c=>c
 |_=>.skip
def Hu(c:Code):Code:=.block (tv c) (.rangeFunc (yD c) #[Md c] (yB c) (yC c))
def qd{c:Code}(h:Qbv c=true):c=.seq (.seq (Ys c) (Hu c)) (aa c)/\HI (yB c)=true/\HI (yC c)=true:=by
 cases c with
 |seq x c =>
  cases x with
  |seq z x =>
   cases x with
   |block i y =>
    cases y with
    |rangeFunc g d a b =>
     let⟨f,h⟩:=L5.1 (show(Nat.beq d.toList.length 1&&(HI a&&HI b))=true from h);let⟨j,k⟩:=L5.1 h;refine⟨?_,j,k⟩;have l:=Ld f;have m:d=#[d.toList.headD 0]:=by
      apply Array.ext'
      match e:d.toList,l with
      |[x],_=>rfl
     show _=Code.seq (.seq z (.block i (.rangeFunc g #[d.toList.headD 0] a b))) c;rw[<- m]
    |_=>exact Bool.noConfusion h
   |_=>exact Bool.noConfusion h
  |_=>exact Bool.noConfusion h
 |_=>exact Bool.noConfusion h
def KM(a:List Nat):List Deferred:=a.map λD=>{ target:=.collected D,args:=#[] }
variable{v:y9}{b:Code}{args:o3}{C:Prop}{fn:Func}{β:Type}
section
variable{P:xO}{tt:List (Nat×TI)}{w0:xH}
def F0(σ:St):St:={ σ with rs:=σ.rs.map λo=>o.map λ_=>VO }
def RC{α β:Type}(f:α->β):∀(l:List (Option α)) (i:Nat),Xq (l.map λo=>o.map f) i=(Xq l i).map f
 |[],_=>rfl
 |x::_,0=>by cases x<;>rfl
 |_::l,i+1=>RC f l i
theorem Sat.tops{w:xH}(h:Sat w0 σ r a w):Sat w0 (F0 σ) ⟨r.b,r.x,λ_ _=>False⟩ a w:=by
 have g:(F0 σ).rs.length=σ.rs.length:=by simp[F0]
 have m:∀s,(F0 σ).lt s=σ.lt s:=λs=>by simp only[St.lt,g];rfl
 have l:∀s,(F0 σ).ltL s=σ.ltL s:=λs=>by simp only[St.ltL,g];rfl
 have n:∀i R,Xq (F0 σ).rs i=some R->R=VO/\i<σ.rs.length:=λi R c=>by
  have f:=XK c;rw[g]at f;have j:Xq (F0 σ).rs i=(Xq σ.rs i).map λ_=>VO:=RC _ _ _
  rw[j]at c;cases e:Xq σ.rs i with
  |none=>rw[e]at c;cases c
  |some R'=>rw[e]at c;exact⟨(o7 c).symm,f⟩
 refine⟨⟨h.see.low,h.see.size,λk s o=>?_,λi t cs c=>?_,λi R c=>?_,λi c=>h.see.one i (by rwa [g]at c)⟩,⟨h.sep.own,h.sep.inj,λ_ _ _ _ d=>d.elim,λ_ _ _ _ _ _ _ _ d=>d.elim,λ_ _ _ _ _ _ p=>p.elim⟩,h.defers⟩
 ·let⟨f,j⟩:=h.see.ts k s o
  grind[Vy]
 ·let⟨f,j⟩:=h.see.bs i t cs c
  grind[Vh]
 ·obtain⟨rfl,f⟩:=n i R c;exact⟨⟨h.see.one i f,λ_ d=>d⟩,λb d=>d.elim⟩
def OV{σ:St}:∀(l:List ResultVar) (K:List SV->Prop),kC tt (F0 σ) l K=kC tt σ l K
 |[],_=>rfl
 |v::l,K=>by
  have a:∀K,d9 tt (F0 σ) v K=d9 tt σ v K:=λK=>by cases v<;>rfl
  show d9 tt (F0 σ) v _=d9 tt σ v _;rw[a];congr 1;funext s;exact OV l _
theorem jT{rs:List ResultVar}{e:Ex}{K:SV->Prop}(h:VV tt rs e σ K):VV tt rs e (F0 σ) K:=by
 simp_all[VV,OV]
theorem Ba(w0:xH){fn:Func}{tmps:x0g}{R:Ending->xH->Prop}(v:y9)(J:xH->Prop)(a:∀w,J w->(results fn tmps).run P w=.ok v w/\R (.returned v) w)(d:∀w D,J w->w.heap[D]?=some (.deferred (some []))->w0.heap.size<=D->J (w.putObj D (.deferred none))):∀(b:List Nat) (w:xH),J w->b.Nodup->(∀D,D∈b->w.heap[D]?=some (.deferred (some []))/\w0.heap.size<=D) ->
  LeavesInM Fence.wide 9 P fn tmps R (KM b) .returning w
 |[],w,h,_,_=>⟨v,a w h⟩
 |D::b,w,h,k,f=>by
  let⟨g,l⟩:=f D x6;let⟨o,m⟩:=V3.1 k;refine⟨x6,.inl ⟨D,_,rfl,run_takeDeferred g,Ba _ _ _ a d b _ (d w D h g l) m λi c=>?_⟩⟩;let⟨j,n⟩:=f i (by simp[c]);refine⟨((grownBy_putObj' w D (.deferred none)).block i (b8.1 j).1 λe=>?_).trans j,n⟩
  grind
def WY(z:YF P tt)(I:P.follows .mixedOrders=true)(fn:Func){W:xH}(A:Sat w0 σ r a W)(B:σ.rs=[]){c:Code}{d:List Dir}(h:∀R,XE P tt (Kj P tt w0) (0,0) w0 c { σ with rs:=[some R] } d λe j _=>VV tt fn.results.toList e j λs=>PX R j.rs (Z6 s.plain (s.den e0=v))){o:List Nat}(L:o.Nodup)(M:∀D,D∈o->W.heap[D]?=some (.deferred (some []))/\w0.heap.size<=D):
  c.wp P (Aa (bodyPostM Fence.wide 9 P fn λe f=>e=.returned v/\Below w0.heap.size w0 f)) (YA (KM o) a) W:=by
 have C:=PO A B;refine wp_mono (G9 (FR I (ds:=KM o)) z (JV z I 9) (0,0) c _ d _ (h _) ⟨L7 _,L7 _⟩ _ a W C (λe q f=>(e=.normal\/e=.ret)/\LeavesInM Fence.wide 9 P fn q.tmps (λe f=>e=.returned v/\Below w0.heap.size w0 f) (q.defers++KM o) .returning f) (λ_ _ _ _ _ h=>by rcases h.1 with h|h<;>cases h) (λ_ _ _ _ _ _ h=>False.elim h) λe j T r' q f N l _ _=>?_) λe q f y=>?_
 ·let⟨E,s,F,t⟩:=AN w0 z fn.results.toList rfl (jT N);let⟨F,m,G⟩:=AQ F;let⟨O,Q⟩:=Qq F;have S:eW σ r W.heap.size W f:=En A l G;refine⟨by rcases E with rfl|rfl<;>simp[Ex.to],?_⟩
  rw[l.defers,V2];refine Ba w0 v (λw=>Sat w0 (F0 j) ⟨r'.b,r'.x,λ_ _=>False⟩ q w) (λw h=>?_) (λw D h g u=>?_) o f l.tops L λD H=>?_
  ·have g:=t _ _ _ h;rw[JK O,Q]at g;exact⟨g,rfl,h.see.low⟩
  ·refine h.grown (λi R n=>?_) (grownBy_putObj' w D (.deferred none)) λk e=>?_
   ·have u:Xq (F0 j).rs i=(Xq j.rs i).map λ_=>VO:=RC _ _ _
    rw[u]at n;cases e:Xq j.rs i with
    |none=>rw[e]at n;cases n
    |some R'=>rw[e]at n;exact(o7 n).symm
   ·obtain rfl:=o7 e;exact⟨u,_,g,rfl⟩
  ·let⟨g,u⟩:=M D H;refine⟨(S D (b8.1 g).1 λi p n e=>?_).trans g,u⟩;have K:=(A.see.bs i p.1 p.2 n).1;rw[e]at K;rw[show W.heap[D]?=some (.cells _ p.1 (0,0))from K]at g;cases g
 ·obtain⟨b,rfl,E,y⟩:=y;rcases E with rfl|rfl
  ·exact y
  ·exact y
def av(j:YF P tt){W:xH}(f:Sat w0 σ r a W)(d:σ.rs=[])(h:VV tt fn.results.toList .ret σ λs=>Z6 s.plain (s.den e0=v)){Ds:List Nat}(l:Ds.Nodup)(m:∀D,D∈Ds->W.heap[D]?=some (.deferred (some []))/\w0.heap.size<=D):
  Aa (bodyPostM Fence.wide 9 P fn λe n=>e=.returned v/\Below w0.heap.size w0 n) .ret (YA (KM Ds) a) W:=by
 let⟨u,s,o,b⟩:=AN w0 j fn.results.toList rfl h;let⟨p,q⟩:=Qq o;show LeavesInM Fence.wide 9 P fn a.tmps _ (a.defers++KM Ds) .returning W;rw[f.defers,V2];refine Ba w0 v (λw=>Sat w0 σ r a w) (λw h=>?_) (λw D h c t=>?_) Ds W f l m
 ·have c:=b _ _ _ h;rw[JK p,q]at c;exact⟨c,rfl,h.see.low⟩
 ·refine h.grown (λi R g=>by rw[d]at g;cases g) (grownBy_putObj' w D (.deferred none)) λk e=>?_
  obtain rfl:=o7 e;exact⟨t,_,c,rfl⟩
def lS(k:YF P tt)(m:P.follows .mixedOrders=true){c:Code}(q:P.funcs[f]?=some fn)(t:fn.body=some c)(u:Nat.ble args.length fn.ntmps=true){d:List Dir}(h:Ol P tt (Kj P tt w0) (0,0) w0 E c (SH fn.ntmps args) d λe σ _=>VV tt fn.results.toList e σ λs=>Z6 s.plain (s.den e0=v))(x:∀b σ r a w,E b σ->Sat w0 σ r a w->b.wp P (Aa (bodyPostM Fence.wide 9 P fn λe g=>e=.returned v/\Below w0.heap.size w0 g)) a w):Calls P f args.toArray w0 λe g=>e=.returned v/\Below w0.heap.size w0 g:=by
 refine callsIn_wide.1 (callsIn_of_wp_marks (F:=Fence.wide) (n:=9) q t trivial (wpIn_wide.2 ?_) rfl);refine wp_mono (Mc k m (JV k m 9) (0,0) (Q:=Aa (bodyPostM Fence.wide 9 P fn λe g=>e=.returned v/\Below w0.heap.size w0 g)) (WE _) x c _ d _ h ⟨L7 _,L7 _⟩ _ _ _ (qm (L8 u) w0) (λ_ _ _ _ _ _ h=>False.elim h) λe G H r' l g y i _ _=>?_) λe l g z=>WF z
 ·let⟨A,s,B,j⟩:=AN w0 k fn.results.toList rfl y;let⟨C,D⟩:=Qq B;have o:=j _ _ _ i;rw[JK C,D]at o;have p:LeavesInM Fence.wide 9 P fn l.tmps (λe g=>e=.returned v/\Below w0.heap.size w0 g) l.defers .returning g:=by
   rw[i.defers];exact⟨v,o,rfl,i.see.low⟩
  rcases A with rfl|rfl
  ·exact p
  ·exact p
def mP(a:Option Code)(τ:St)(C:Prop)(b:Code)(σ:St):Prop:=a=some b/\C/\Yb σ τ True
def AL{c:Option Code}(h:mP c τ C b σ){w:xH}(d:Sat w0 σ r a w):c=some b/\C/\Sat w0 τ r a w :=
 ⟨h.1,h.2.1,(Q3 w0 h.2.2).2 _ _ _ d⟩
def Ww(τ:β->St)(i:Nat)(ρ:β->Res)(σ:St):Prop:=∃y:β,ZO (Xq σ.rs i) (λR=>∀x S w,R.φ x S w->(ρ y).φ x S w)/\Yb σ (τ y) True
def AV{τ:β->St}{i:Nat}{ρ:β->Res}(h:Ww τ i ρ σ){w:xH}(b:Sat w0 σ r a w):∃y,(ρ y).φ (r.x i) (r.S i) w/\Sat w0 (τ y) r a w:=by
 let⟨y,c,d⟩:=h;let⟨R,e,f⟩:=QH c;exact⟨y,f _ _ _ (b.see.rs i R e).1,(Q3 w0 d).2 _ _ _ b⟩
def Qc5(a:Option Code)(τ:β->St)(i:Nat)(ρ:β->Res)(C:Prop)(b:Code)(σ:St):Prop:=a=some b/\C/\∃y:β,ZO (Xq σ.rs i) (λR=>∀x S w,R.φ x S w->(ρ y).φ x S w)/\Yb σ (τ y) True
def jJ{c:Option Code}{τ:β->St}{i:Nat}{ρ:β->Res}(h:Qc5 c τ i ρ C b σ){w:xH}(d:Sat w0 σ r a w):c=some b/\C/\∃y,(ρ y).φ (r.x i) (r.S i) w/\Sat w0 (τ y) r a w:=by
 let⟨e,f,y,g,j⟩:=h;let⟨R,k,l⟩:=QH g;exact⟨e,f,y,l _ _ _ (d.see.rs i R k).1,(Q3 w0 j).2 _ _ _ d⟩
def K7(n:Nat)(fn:Func):Code:=(Ym n fn).getD .skip
theorem Ns{n:Nat}(h:Ym n fn=some b):K7 n fn=b:=by grind[K7]
def BQ(P:xO)(tt:List (Nat×TI))(W:xH)(fn:Func)(E:Code->St->Prop)(σ:St)(d:List Dir)(K:Ex->St->List Dir->Prop):Prop:=match fn.body with
 |some c=>Ol P tt (Kj P tt W) (0,0) W E c σ d K
 |none=>False
def EK(P:xO)(w0:xH)(fn:Func)(v:y9):Exit->Act->xH->Prop:=Aa (bodyPostM Fence.wide 9 P fn λe a=>e=.returned v/\Below w0.heap.size w0 a)
def FQ(L:YF P tt)(Q:P.follows .mixedOrders=true)(b:Code)(C:Qbv b=true)(bsR:List (Option (o0×List SV)))(E:bsR.length=σ.bs.length)(xs:List α){F:Nat}{M:x0g}(enc:α->y9)(good:α->Bool)(l:σ.rs=[])(m:sL σ.bs=true)(S:BF (some (Md b)) σ.n=true)(g:∀x,x∈xs->∃d,∀R:Res,XE P tt (Kj P tt w0) (σ.bs.length,0) w0 (yB b) { σ.push (some (Md b)) (.val (enc x))with rs:=[some R] } d (qf P tt w0 σ bsR (yC b) (good x) R)){w:xH}(G:Sat w0 σ r a w)(T:a.eval (yD b)=.func (.func F) #[] M)(U:Xt P F)(o:SeqStopsK Fence.wide 8 P F M (λx:{x // x∈xs}=>#[enc x.1]) KpC (λV=>V=xs.attach) (λ_=>True) xs.length w)(fn:Func)(v:y9){j:List Nat}(X:j.Nodup)(N:∀D,D∈j->w.heap[D]?=some (.deferred (some []))/\w0.heap.size<=D)(q:(∃x,x∈xs/\good x=false)->VV tt fn.results.toList .ret { σ with bs:=bsR } λs=>Z6 s.plain (s.den e0=v))(k:(∀x,x∈xs->good x=true)->∀D r' W,Sat w0 σ r' a W->(D::j).Nodup->(∀c,c∈D::j->W.heap[c]?=some (.deferred (some []))/\w0.heap.size<=c)->(aa b).wp P (EK P w0 fn v) (YA (KM (D::j)) a) W):
  (Hu b).wp P (Exit.then ((aa b).wp P (EK P w0 fn v)) (EK P w0 fn v)) (YA (KM j) a) w:=by
 let⟨Y,H,I⟩:=qd C;have t:∀D,D∈j->D<w.heap.size:=λD h=>(b8.1 (N D h).1).1
 have f:∀D r' W,w.heap.size<=D->W.heap[D]?=some (.deferred (some []))->eW σ r w.heap.size w W->AgN (σ.bs.length,0) r r'->(D::j).Nodup/\∀c,c∈D::j->W.heap[c]?=some (.deferred (some []))/\w0.heap.size<=c:=λD r' W u y z B=>by
  refine⟨V3.2 ⟨λh=>x8 (t D h),X⟩,λc h=>?_⟩;rcases Lb.1 h with rfl|h
  ·exact⟨y,L6 G.see.low.size u⟩
  ·let⟨k1,A⟩:=N c h;refine⟨(z c (t c h) λi p Z e=>?_).trans k1,A⟩;have O:=(G.see.bs i p.1 p.2 Z).1;rw[e]at O;rw[show w.heap[c]?=some (.cells _ p.1 (0,0))from O]at k1;cases k1
 refine wp_block (Qby L Q E l m S H I g G T U o (λD r' W u y z B J K=>?_) λD r' W u y z B J K=>?_)
 ·let⟨k1,A⟩:=f D r' W B J z y;exact k K D r' W u k1 A
 ·let⟨k1,A⟩:=f D r' W B J z y;exact av L u l (q K) k1 A
def Zs:Code->Code
 |.seq x _=>x
 |_=>.skip
def QE:Code->Code
 |.seq _ y=>y
 |_=>.skip
def uK(R:Res)(E:St->Prop)(e:Ex)(σ:St):Prop:=match e with
 |.normal=>PX R σ.rs (E σ)
 |_=>False
def MY(y:YF P tt)(z:P.follows .mixedOrders=true)(fn:Func){W:xH}(n:Sat w0 σ r a W)(o:σ.rs=[])(q:Qbv b=true){d:List Dir}(E:St->Prop)(h:∀R,XE P tt (Kj P tt w0) (0,0) w0 (Ys b) { σ with rs:=[some R] } d λe c _=>uK R E e c)(Ds:List Nat)(B:∀D,D∈Ds->W.heap[D]?=some (.deferred (some []))/\w0.heap.size<=D)(C:∀c r' f s,E c->Sat w0 c r' f s->(∀D,D∈Ds->s.heap[D]?=some (.deferred (some []))/\w0.heap.size<=D)->(Hu b).wp P (Exit.then ((aa b).wp P (EK P w0 fn v)) (EK P w0 fn v)) (YA (KM Ds) f) s):
  b.wp P (EK P w0 fn v) (YA (KM Ds) a) W:=by
 have t:=PO n o;rw[(qd q).1];refine wp_seq (wp_seq (wp_mono (G9 (FR z (ds:=KM Ds)) y (JV y z 9) (0,0) (Ys b) _ d _ (h _) ⟨L7 _,L7 _⟩ _ a W t (λe f g=>e=.normal/\(Hu b).wp P (Exit.then ((aa b).wp P (EK P w0 fn v)) (EK P w0 fn v)) (YA (KM Ds) f) g) (λ_ _ _ _ _ h=>by cases h.1) (λ_ _ _ _ _ _ h=>False.elim h) λe c I r' f g j k _ _=>?_) λe f g u=>?_))
 ·cases e with
  |normal =>
   let⟨j,m,w⟩:=AQ (show PX _ c.rs (E c)from j);have F:eW σ r W.heap.size W g:=En n k w;refine⟨rfl,C c r' f g j k λD x=>?_⟩;let⟨l,G⟩:=B D x;refine⟨(F D (b8.1 l).1 λi p H e=>?_).trans l,G⟩;have A:=(n.see.bs i p.1 p.2 H).1;rw[e]at A;rw[show W.heap[D]?=some (.cells _ p.1 (0,0))from A]at l;cases l
  |ret=>exact False.elim j
  |exit i=>exact False.elim j
 ·obtain⟨b,rfl,rfl,u⟩:=u;exact u
theorem jp(g:YF P tt)(i:P.follows .mixedOrders=true)(l:P.funcs[f]?=some fn)(m:Nat.ble args.length fn.ntmps=true){R:Ending->xH->Prop}{d:List Dir}(h:BQ P tt w0 fn E (SH fn.ntmps args) d λ_ _ _=>False)(n:∀b σ r a w,E b σ->Sat w0 σ r a w->b.wp P (bodyPost P fn R) a w):Calls P f args.toArray w0 R:=by
 unfold BQ at h;cases j:fn.body with
 |none =>
  grind
 |some c =>
  rw[j]at h;refine calls_of_wp l j (wp_mono (Mc g i (JV g i 9) (0,0) (Q:=bodyPost P fn R) (λd v q a w k=>⟨k.1,k.2⟩) n c _ d _ h ⟨L7 _,L7 _⟩ _ _ _ (qm (L8 m) w0) (λ_ _ _ _ _ _ h=>False.elim h) λe s t r' u x o p _ _=>o.elim) λe a w h=>h)
theorem RV(j:YF P tt)(k:P.follows .mixedOrders=true)(l:Xt P f)(m:P.funcs[f]?=some fn)(n:Nat.ble args.length fn.ntmps=true)(h:∀W,Below w0.heap.size w0 W->∃E d,BQ P tt W fn E (SH fn.ntmps args) d (λe σ _=>VV tt fn.results.toList e σ λs=>Z6 s.plain (s.den e0=v)) /\
   ∀b σ r a w,E b σ->Sat W σ r a w->b.wp P (EK P W fn v) (YA (KM []) a) w):RetAt P w0 f args.toArray v:=by
 refine⟨l,λW o=>?_⟩;let⟨E,d,g,p⟩:=h W o;unfold BQ at g;cases i:fn.body with
 |none =>
  grind
 |some c =>
  rw[i]at g;refine lS j k m i n (E:=E) g λb σ r a w k1 q=>?_
  have t:=p b σ r a w k1 q;rwa [show YA (KM []) a=a by simp[YA,KM]]at t
end
def TX(y:Nat)(t:o0)(cs:o3):Res where
 φ x S w:=x=.bool false/\Bx w y t cs.toArray/\∀b,S b↔b=y
 one _ _ _ h:=by rw[h.1];rfl
 loc x S w w' h hφ:=⟨hφ.1,(h y ((hφ.2.2 y).2 rfl)).trans hφ.2.1,hφ.2.2⟩
def XG{T U:Prop}(h:T)(a:T=U):U:=a▸h
section
variable{P:xO}{w0:xH}{g:Nat}{t bt:o0}{cs vs:List y9}{M:Res}
def Q2{m:Sem y9}{R:y9}(h:∀W,Bx W g t cs.toArray->Qp P W m R):GJ P w0 [Qh g t cs M] m R:=λW _ x S a=>h W (show _/\_ from a).2.1 W (p5 _ _)
end
def YP(F:Res)(v:y9)(val:β->y9)(R1:Res)(R:β->Res)(y:β)(a:v=val y)(b:∀(x:y9) (S:Nat->Prop) (w:xH),R1.φ x S w->(R y).φ x S w):F=F/\∃y,v=val y/\∀(x:y9) (S:Nat->Prop) (w:xH),R1.φ x S w->(R y).φ x S w:=⟨rfl,y,a,b⟩
def KP(F:Res)(v:y9)(pn:y9->Prop)(h:pn v):F=F/\∃u,SV.val v=.val u/\pn u:=⟨rfl,v,rfl,h⟩
theorem Yf(F:Res)(pn pn':y9->Prop)(h:∀v,pn v->pn' v):∀v,pn v->F=F/\∃u,SV.val v=.val u/\pn' u:=by grind
variable{l:o3}
section
variable{w0:xH}{A:xN}{n c k:Nat}{f:Nat->List y9}{g:Nat}{T:o0}{cs:List y9}
def KQ(w0:xH)(c:Nat)(a:RdK w0 A n k f)(i:Nat)(h:i<n):Qp prog w0 (Instr.indexAt 68 (.slice A n c) (.int .i64 (i:Int))) (.pointer (some (Q5 A (i*2+0)))):=Kr 2 (Qm 68 _ rfl) rfl x4 a h
def Qs(w0:xH)(c:Nat)(a:RdK w0 A n k f)(i:Nat)(h:i<n):Qp prog w0 (Instr.indexAt 70 (.slice A n c) (.int .i64 (i:Int))) (.pointer (some (Q5 A (i*2+0)))):=Kr 2 (Qm 70 _ rfl) rfl x4 a h
def cX(w0:xH)(c:Nat)(a:RdK w0 A n k f)(i:Nat)(h:i<n):Qp prog w0 (Instr.indexAt 91 (.slice A n c) (.int .i64 (i:Int))) (.pointer (some (Q5 A (i*1+0)))):=Kr 1 (Qm 91 _ rfl) rfl x4 a h
def NK(w0:xH)(b:RdK w0 A n k f)(i o:Nat)(a:i<n)(c:o+2<=k)(d:l.length=2)(e:((f i).drop o).take 2=l):Qp prog w0 (Instr.loadAt 72 (.pointer (some (Q5 A (i*k+o))))) (.agg l.toArray):=CS (Qm 72 _ rfl) rfl b a d c e
def NL(b:RdK w0 A n k f){i o:Nat}(a:i<n)(c:o+2<=k)(d:l.length=2)(e:((f i).drop o).take 2=l):Qp prog w0 (Instr.loadAt 102 (.pointer (some (Q5 A (i*k+o))))) (.agg l.toArray):=CS (Qm 102 _ rfl) rfl b a d c e
end
def yn(m:xM)(vars:Int)(d:m.size<=4294967296)(w:xH):RetAt prog w 97 #[Ψ m,Θ vars] (Ξ (ZN m vars)) :=
 rk [P5 (λ(k:Nat)=>(⟨20,[(0,sV m),(1,iV vars),(4,bV false),(7,iV (m.size:Int)),(8,iV (k:Int))],[],[]⟩:St)) m.size (λj=>decide ((bt m j:Int)>127)) (λ(k:Nat)=>[.both [x03 4 2 (.int .u8 (bt m k:Int)),.both [] [x05 6 0 (iV ((k+1:Nat):Int)),.next 0]] []])] λW e f=>KJ (qS m) (qI vars) (qB false) (qI (m.size:Int)) (qI ((0:Nat):Int))<|ai (c0 m.size (λj=>decide ((bt m j:Int)>127))) λ(k:Nat) (c:cQ m.size (λj=>decide ((bt m j:Int)>127)) k)=>Xi (decide ((k:Int)<(m.size:Int))) (λa=>ai (bz W m k (x8 (L0 a)))<|Xi (decide ((bt m k:Int)>127)) (λb=>(show(Ξ false)=Ξ (ZN m vars)from by rw[ZN,ZG (Qt a) b];rfl)) λb=>Vv (QD k (x8 (L0 a))) (qS m) (qI vars) (qB false) (qI (m.size:Int)) (qI (((k+1):Nat):Int))<|ai (cS c (Qt a) b) (Oe (Qt a))) λa=>(show(Ξ ((m.size:Int)==vars))=Ξ (ZN m vars)from by rw[ZN,Kf λj g=>c.2 j (x8 (L1 a))];rfl)
variable{vars:Int}
def Qfi(h:decide (vars>=0)=true):(.bool (decide (vars<=12)):y9)=.bool (decide (0<=vars/\vars<=12)):=by
 have:=L0 h;congr 1;exact decide_eq_decide.2 ⟨λh=>⟨x3,h⟩,λh=>h.2⟩
def Qfh(h:decide (vars>=0)=false):(.bool false:y9)=.bool (decide (0<=vars/\vars<=12)):=by
 have:=L1 h;rw[Lc x3]
def ye(vars:Int)(w:xH):RetAt prog w 96 #[Θ vars] (Ξ (decide (0<=vars/\vars<=12))) :=
 rk [.gb 1 3 [] []] λW b c=>ZD (decide (vars>=0)) true (λa=>Qfi a) λa=>Qfh a
def jq(l:List Tm)(h:(!decide (0<=vars/\vars<=12))=true):(.int .i64 1:y9)=.int .i64 (K9 ⟨vars,l⟩):=by
 have b:¬(0<=vars/\vars<=12):=by
  cases a:decide (0<=vars/\vars<=12)with
  |true=>rw[a]at h;cases h
  |false=>exact L1 a
 unfold K9;rw[if_neg b]
variable{l:List Tm}
def bH(h:(!decide (0<=vars/\vars<=12))=false)(a:decide ((l.length:Int)>4096)=true):(.int .i64 3:y9)=.int .i64 (K9 ⟨vars,l⟩):=by
 have b:0<=vars/\vars<=12:=l3 h;have c:4096<l.length:=x8 (L0 a);unfold K9;rw[if_pos b,if_pos c]
def AD(l:List Tm)(h:(!decide (0<=vars/\vars<=12))=false)(a:decide ((l.length:Int)>4096)=false)(b:decide ((k:Int)<(l.length:Int))=true)(c:CI vars l k=true):(.int .i64 1:y9)=.int .i64 (K9 ⟨vars,l⟩):=by
 have d:0<=vars/\vars<=12:=l3 h;have e:¬ 4096<l.length:=x8 (L1 a);unfold K9;rw[if_pos d,if_neg e,if_pos (ZG (Qt b) c)]
def lY(h:(!decide (0<=vars/\vars<=12))=false)(a:decide ((l.length:Int)>4096)=false)(b:decide ((k:Int)<(l.length:Int))=false)(c:∀j,j<k->CI vars l j=false):(.int .i64 0:y9)=.int .i64 (K9 ⟨vars,l⟩):=by
 have d:0<=vars/\vars<=12:=l3 h;have e:¬ 4096<l.length:=x8 (L1 a);unfold K9;rw[if_pos d,if_neg e,if_neg (by rw[Kf λj (f:j<l.length)=>c j (x8 (L1 b))];decide)]
def pe{A:xN}{c:Nat}(r:l.length<=4294967296)(q:∀t,t∈l->t.m.size<=1048576/\okN t.c)(w:xH)(v:QV w)(D:RdK w A l.length 4 (λj=>QK (Qb l j))):RetAt prog w 52 #[.agg #[Θ vars,Ω A l.length c]] (Θ (K9 ⟨vars,l⟩)) :=
 let y:OB:=some (47,[iV vars,lV A l.length c]);rk [x04 1 2 (bV (decide (0<=vars/\vars<=12))),.both [] [.both [] [P5 (λ(k:Nat)=>(⟨58,[(1,.ptr 0 0),(2,iV 0),(14,lV A l.length c),(15,iV (l.length:Int)),(16,iV (k:Int))],[none],[]⟩:St)) l.length (λj=>CI vars l j) (λ(k:Nat)=>[.both [x03 7 1 (.pointer (some (Q5 A (k*4+0)))),x03 7 2 (.agg #[Ψ ((Qb l k).m),Ξ ((Qb l k).c.b),Ψ ((Qb l k).c.s),Θ ((Qb l k).c.e)]),.reg 36 [],x04 8 4 (bV (ZN (Qb l k).m vars)),.gb 8 7 [.g 8 8 true,.g 8 9 true,x04 8 9 (iV (sg (Qb l k).c)),.g 8 10 true,.o 8 11 (.pk false),.gb 8 13 [.g 8 14 true,.g 8 15 true,x04 8 15 (.agg [bV (neg (dm (nv (Qb l k).c))),sV (QJ (dm (nv (Qb l k).c))),iV (de (nv (Qb l k).c))]),.g 8 16 true,.g 8 17 true,.g 8 18 true,x03 8 18 (Ξ (!(Ks (Qb l k).c))),.o 8 19 (.pk false),.gb 8 21 [.g 8 22 true,.g 8 23 true,.gb 8 24 [.g 8 25 true,.g 8 26 true,.g 8 27 true,x05 8 27 (iV ((k-1:Nat):Int)),.g 8 28 true,x03 8 28 (.pointer (some (Q5 A ((k-1)*4+0)))),.g 8 29 true,.g 8 30 true,x03 8 30 (Ψ ((Qb l (k-1)).m)),.g 8 31 true,.g 8 32 true,.g 8 33 true,x03 8 33 (Ξ (!(By ((Qb l (k-1)).m) ((Qb l k).m)))),.g 8 34 true,.o 8 34 (.pk true),.o 8 35 (.pk false),.both [] [x05 10 0 (iV ((k+1:Nat):Int)),.next 0]] [.g 8 25 false,.g 8 26 false,.g 8 27 false,.g 8 28 false,.g 8 29 false,.g 8 30 false,.g 8 31 false,.g 8 32 false,.g 8 33 false,.g 8 34 true,.o 8 34 (.pk false),.o 8 35 (.pk false),x05 10 0 (iV ((k+1:Nat):Int)),.next 0]] [.g 8 22 false,.g 8 23 false,.g 8 34 false,.o 8 35 (.pk true)]] [.g 8 14 false,.g 8 15 false,.g 8 16 false,.g 8 17 false,.g 8 18 false,.o 8 19 (.pk true)]] [.g 8 8 false,.g 8 9 false,.g 8 10 false,.o 8 11 (.pk true)]] []])]]] λW C E=>have x:=D.up C (λ_=>rfl);(λ(v:QV W)=>ai (ye vars W)<|Xi (!(decide (0<=vars/\vars<=12))) (λu=>jq l u) λu=>Xi (decide ((l.length:Int)>4096)) (λr=>bH (l:=l) u r) λr=>KJ (qI 0) (qV (Ω A l.length c)) (qI (l.length:Int)) (qI ((0:Nat):Int)) (qk y)<|ai (c0 l.length (λj=>CI vars l j)) λ(k:Nat) (z:cQ l.length (λj=>CI vars l j) k)=>Xi (decide ((k:Int)<(l.length:Int))) (λd=>Ja (Y0 c x k (Qt d)) (ZE x k 0 (x8 (L0 d)) x4 rfl rfl) (yn _ vars (L6 (q _ (Yh (Qt d))).1 x4) W)<|ZD (!(ZN (Qb l k).m vars)) false (λh=>KJ h h (rc W call65 λW=>GB (Qb l k).c.s (Qb l k).c.b (Qb l k).c.e W) h h<|ZD ((sg (Qb l k).c)==0) false (λf=>Yx f f (rt v call59 λW v=>KA (Qb l k).c.s (Qb l k).c.b (Qb l k).c.e W (x8 ((q _ (Yh (Qt d))).2.sz)) (x8 ((q _ (Yh (Qt d))).2.lo)) (x8 ((q _ (Yh (Qt d))).2.hi)) v) f f f (Bg W (.tmp 36) (.tmp 38) (neg (dm (nv (Qb l k).c))) (Qb l k).c.b (QJ (dm (nv (Qb l k).c))) (Qb l k).c.s (de (nv (Qb l k).c)) (Qb l k).c.e) f<|ZD (!(Ks (Qb l k).c)) false (λp=>X0 p p<|ZD (decide ((k:Int)>0)) true (λa=>Yx a a a (show IntKind.i64.wrap ((k:Int)-1)=((k-1:Nat):Int)from Qcd (x8 (L0 d)) (x8 (L0 a))) a (Y0 c x (k-1) (x8 (L0 d))) a a<|Yx (AT x (k-1) 0 (x8 (L0 d)) x4 rfl) a a a (wM W (.tmp 51) (.tmp 53) ((Qb l (k-1)).m) ((Qb l k).m)) p a p<|Xi (!(By ((Qb l (k-1)).m) ((Qb l k).m))) (λB=>AD l u r d (by unfold CI;rw[h,f,p,a,B];rfl)) λB=>Vv (QD k (x8 (L0 d))) (qI 0) (qV (Ω A l.length c)) (qI (l.length:Int)) (qI (((k+1):Nat):Int)) (qk y)<|ai (cS z (Qt d) (by unfold CI;rw[h,f,p,a,B];rfl)) (Oe (Qt d))) λa=>Yx a a a a a a a a<|Yx a p a p (QD k (x8 (L0 d))) (qI 0) (qV (Ω A l.length c)) (qI (l.length:Int))<|X0 (qI (((k+1):Nat):Int)) (qk y)<|ai (cS z (Qt d) (by unfold CI;rw[h,f,p,a];rfl)) (Oe (Qt d))) λp=>Ky p p p p<|AD l u r d (by unfold CI;rw[h,f,p];rfl)) λf=>Vv f f f f f f<|AD l u r d (by unfold CI;rw[h,f];rfl)) λh=>Ky h h h h<|AD l u r d (by unfold CI;rw[h];rfl)) λd=>lY (l:=l) u r d z.2) (Ql v C)
def okN.nd{x:Nm}(h:okN x):ND x.b x.s x.e (nv x):=⟨rfl,L6 h.sz x4,x8 h.lo,x8 h.hi⟩
def okS.nd{x:Nm}(h:okS x):ND x.b x.s x.e (nv x):=⟨rfl,L6 h.sz x4,x8 h.lo,x8 h.hi⟩
variable{b:Nat}{ts:List Tm}
def Qa5(a:okP ⟨vars,ts⟩)(w:xH)(d:QV w)(e:SlV b 4 Ye w ts v):RetAt prog w 52 #[.agg #[.int .i64 vars,v]] (.int .i64 (K9 ⟨vars,ts⟩)):=by
 obtain⟨A,c,rfl,_,_,f⟩:=SlV.enc Bp e;exact pe a.len a.tms w d f
variable{l:List (Nm×Nm)}
def bF(a:decide ((k:Int)<(l.length:Int))=true)(b:Mf l k=true):(.int .i64 5:y9)=.int .i64 (Xc l):=by
 unfold Xc;rw[if_pos (ZG (Qt a) b)]
def bG(a:∀j,j<k->Mf l j=false)(b:decide ((k:Int)<(l.length:Int))=false)(c:((l.length:Int)==0)=true):(.int .i64 1:y9)=.int .i64 (Xc l):=by
 have d:l.length=0:=l3 c;unfold Xc;rw[if_neg (by rw[Kf λj (e:j<l.length)=>a j (x8 (L1 b))];decide),if_pos d]
def lX(a:∀j,j<k->Mf l j=false)(b:decide ((k:Int)<(l.length:Int))=false)(c:((l.length:Int)==0)=false):(.int .i64 0:y9)=.int .i64 (Xc l):=by
 have d:¬ l.length=0:=l3 c;unfold Xc;rw[if_neg (by rw[Kf λj (e:j<l.length)=>a j (x8 (L1 b))];decide),if_neg d]
def zh{A:xN}{c:Nat}(t:l.length<=4294967296)(d:∀s,s∈l->okN s.1/\okN s.2)(w:xH)(f:QV w)(r:RdK w A l.length 6 (λj=>JR (QN l j))):RetAt prog w 29 #[Ω A l.length c] (Θ (Xc l)) :=
 rk [P5 (λ(k:Nat)=>(⟨21,[(0,lV A l.length c),(2,iV 0),(5,lV A l.length c),(6,iV (l.length:Int)),(7,iV (k:Int))],[],[]⟩:St)) l.length (λj=>Mf l j) (λ(k:Nat)=>[.both [x03 3 0 (.pointer (some (Q5 A (k*6+0)))),x03 3 1 (.agg #[Ξ ((QN l k).1.b),Ψ ((QN l k).1.s),Θ ((QN l k).1.e),Ξ ((QN l k).2.b),Ψ ((QN l k).2.s),Θ ((QN l k).2.e)]),x04 4 4 (iV (GP (nv (QN l k).1-nv (QN l k).2))),.both [] [x05 6 0 (iV ((k+1:Nat):Int)),.next 0]] [.both [] []]])] λW p u=>have q:=r.up p (λ_=>rfl);(λ(f:QV W)=>KJ (qV (Ω A l.length c)) (qI 0) (qV (Ω A l.length c)) (qI (l.length:Int)) (qI ((0:Nat):Int))<|ai (c0 l.length (λj=>Mf l j)) λ(k:Nat) (g:cQ l.length (λj=>Mf l j) k)=>Xi (decide ((k:Int)<(l.length:Int))) (λa=>Ja (CR c q k (Qt a)) (Eu q k 0 (x8 (L0 a)) x4 rfl rfl) (rt f call66 λW f=>me W (d _ (ET (Qt a))).1.nd (d _ (ET (Qt a))).2.nd f)<|Xi (decide ((GP (nv (QN l k).1-nv (QN l k).2))>=0)) (λh=>bF (l:=l) a h) λh=>Vv (QD k (x8 (L0 a))) (qV (Ω A l.length c)) (qI 0) (qV (Ω A l.length c)) (qI (l.length:Int)) (qI (((k+1):Nat):Int))<|ai (cS g (Qt a) h) (Oe (Qt a))) λa=>Xi ((l.length:Int)==0) (λm=>bG (l:=l) g.2 a m) λm=>lX (l:=l) g.2 a m) (Ql f p)
variable{η:Int}
def oZ{k l m n p q r s t a b c d:y9}{u:Nat}(e:okP ⟨vars,ts⟩)(w:xH)(f:QV w)(x:Bx w g 35 #[k,Θ η,l,m,n,p,q,r,s,t,a,b,c,d])(y:SlV u 4 Ye w ts v):RetAt prog w 51 #[.agg #[Θ vars,v],x02 g] (Ξ (Yo η ⟨vars,ts⟩)) :=
 have j:=eB (Yo η ⟨vars,ts⟩);rk [x04 1 1 (iV (K9 ⟨vars,ts⟩)),.gb 1 4 [x03 1 7 (Θ η)] []] λW h B=>have z:=x.later h;have A:=y.below YS h;(λ(f:QV W)=>ai (Qa5 e W f A)<|ZD ((K9 ⟨vars,ts⟩) != 0) false (λi=>ai (Ze 1 z rfl)<|(j (vars != η) (by unfold Yo;rw[i];rfl))) λi=>(j true (by unfold Yo;rw[i];rfl))) (Ql f h)
abbrev HGa(g:Nat):y9:=.func (.func 51) #[] #[.pointer (some ⟨g,0,none⟩)]
variable{vs:Nat->y9}
def xK{x y z B C D E F G d e h m:y9}{t:Nat}{A:xN}{c:Nat}{l:List Py}(O:l.length<=4294967296)(q:∀p,p∈l->okP p)(w:xH)(H:QV w)(I:Bx w g 35 #[x,Θ η,y,z,B,C,D,E,F,G,d,e,h,m])(J:RdK w A l.length 2 (yz l vs))(K:∀j,j<l.length->SlV t 4 Ye w (QM l j).ts (vs j)):RetAt prog w 101 #[Ω A l.length c,.func (.func 51) #[] #[x02 g]] (Θ (ZX l.length λj=>Yo η (QM l j))) :=
 rk [P5 (λ(k:Nat)=>(⟨19,[(0,lV A l.length c),(1,.val (HGa g)),(4,iV 0),(6,lV A l.length c),(7,iV (l.length:Int)),(8,iV (k:Int))],[],[]⟩:St)) l.length (λj=>Yo η (QM l j)) (λ(k:Nat)=>[.both [x03 4 3 (.pointer (some (Q5 A (k*2+0)))),x03 4 4 (.agg #[Θ ((QM l k).vars),vs k]),x04 4 5 (bV (Yo η (QM l k))),.both [] [x05 6 0 (iV ((k+1:Nat):Int)),.next 0]] []])] λW b P=>have L:=I.later b;have u:=J.up b (λ_=>rfl);(λ(M:∀j,j<l.length->SlV t 4 Ye W (QM l j).ts (vs j))=>have N:=Ql H b;Vv (qV (Ω A l.length c)) (qV (HGa g)) (qI 0) (qV (Ω A l.length c)) (qI (l.length:Int)) (qI ((0:Nat):Int))<|ai (c0 l.length (λj=>Yo η (QM l j))) λ(k:Nat) (r:cQ l.length (λj=>Yo η (QM l j)) k)=>Xi (decide ((k:Int)<(l.length:Int))) (λa=>Ja (J5 c u k (Qt a)) (D8 u k 0 (x8 (L0 a)) x4 rfl rfl) (oZ (q _ (VK (Qt a))) W N L (M k (Qt a)))<|Xi (Yo η (QM l k)) (λs=>(show(Θ (k:Int):y9)=(Θ (ZX l.length λj=>Yo η (QM l j)))from Lu (Value.int .i64) (VD (λj=>Yo η (QM l j)) r.2 (x8 (L0 a)) s).symm)) λs=>GL (QD k (x8 (L0 a))) (qV (Ω A l.length c)) (qV (HGa g)) (qI 0) (qV (Ω A l.length c)) (qI (l.length:Int)) (qI (((k+1):Nat):Int))<|ai (cS r (Qt a) s) (Oe (Qt a))) λa=>(show(Θ (-1):y9)=(Θ (ZX l.length λj=>Yo η (QM l j)))from Lu (Value.int .i64) (Gg (λj=>Yo η (QM l j)) λj v=>r.2 j (x8 (L1 a))).symm)) (λj v=>(K j v).below YS b)
def i9(η:Int)(q0 q2 q3 q4 q5 q6 q7 q8 q9 q10 q11 q12 q13:y9)(A:xN)(c:Nat)(l:List Py)(e:l.length<=4294967296)(b:∀p,p∈l->okP p)(w:xH)(f:QV w)(h:Bx w g 35 #[q0,Θ η,q2,q3,q4,q5,q6,q7,q8,q9,q10,q11,q12,q13])(i:RdK w A l.length 2 (yz l vs))(k:∀j,j<l.length->SlV d 4 Ye w (QM l j).ts (vs j)):RetAt prog w 55 #[Ω A l.length c,.func (.func 51) #[] #[x02 g]] (Ξ (XQ l.length λj=>Yo η (QM l j))) :=
 rk [x04 1 2 (iV (ZX l.length λj=>Yo η (QM l j)))] λW a t=>have m:=h.later a;have n:=i.up a (λ_=>rfl);(λ(q:∀j,j<l.length->SlV d 4 Ye W (QM l j).ts (vs j))=>have r:=Ql f a;ai (xK (c:=c) e b W r m n q)<|(show(Ξ (decide ((ZX l.length λj=>Yo η (QM l j))>=0)):y9)=Ξ (XQ l.length λj=>Yo η (QM l j))from Lu Ξ (DG l.length λj=>Yo η (QM l j)))) (λj s=>(k j s).below YS a)
def tR(x:List Nm)(A:xN)(c:Nat)(w:xH)(a:Bx w g 3 #[Θ η]):RetAt prog w 98 #[Ω A x.length c,x02 g] (Ξ (Xb η x)) :=
 rk [x03 1 2 (Θ η)] λW b d=>have e:=a.later b;ai (Ze 0 e rfl)<|d
variable{a:Nat}
def tT{x:List Nm}(w:xH)(b:Bx w g 3 #[.int .i64 η])(d:SlV a 3 VT w x v):RetAt prog w 98 #[v,.pointer (some ⟨g,0,none⟩)] (.bool (Xb η x)):=by
 obtain⟨A,c,rfl,_⟩:=d.shape;exact tR x A c w b
abbrev HGb(g:Nat):y9:=.func (.func 98) #[] #[.pointer (some ⟨g,0,none⟩)]
variable{l:List (List Nm)}{h:Nat}
def tQ{A:xN}{c:Nat}(v:l.length<=4294967296)(w:xH)(q:Bx w g 3 #[Θ η])(r:RdK w A l.length 1 (λj=>[vs j]))(s:∀j,j<l.length->SlV h 3 VT w (Qu l j) (vs j)):RetAt prog w 139 #[Ω A l.length c,.func (.func 98) #[] #[x02 g]] (Θ (ZX l.length λj=>Xb η (Qu l j))) :=
 rk [P5 (λ(k:Nat)=>(⟨19,[(0,lV A l.length c),(1,.val (HGb g)),(4,iV 0),(6,lV A l.length c),(7,iV (l.length:Int)),(8,iV (k:Int))],[],[]⟩:St)) l.length (λj=>Xb η (Qu l j)) (λ(k:Nat)=>[.both [x03 4 3 (.pointer (some (Q5 A (k*1+0)))),x03 4 4 (vs k),x04 4 5 (bV (Xb η (Qu l k))),.both [] [x05 6 0 (iV ((k+1:Nat):Int)),.next 0]] []])] λW b x=>have t:=q.later b;have m:=r.up b (λ_=>rfl);(λ(u:∀j,j<l.length->SlV h 3 VT W (Qu l j) (vs j))=>Vv (qV (Ω A l.length c)) (qV (HGb g)) (qI 0) (qV (Ω A l.length c)) (qI (l.length:Int)) (qI ((0:Nat):Int))<|ai (c0 l.length (λj=>Xb η (Qu l j))) λ(k:Nat) (d:cQ l.length (λj=>Xb η (Qu l j)) k)=>Xi (decide ((k:Int)<(l.length:Int))) (λa=>Ja (Zy c m k (Qt a)) (J6 m k 0 (x8 (L0 a)) x4 rfl) (tT W t (u k (Qt a)))<|Xi (Xb η (Qu l k)) (λe=>(show(Θ (k:Int):y9)=(Θ (ZX l.length λj=>Xb η (Qu l j)))from Lu (Value.int .i64) (VD (λj=>Xb η (Qu l j)) d.2 (x8 (L0 a)) e).symm)) λe=>GL (QD k (x8 (L0 a))) (qV (Ω A l.length c)) (qV (HGb g)) (qI 0) (qV (Ω A l.length c)) (qI (l.length:Int)) (qI (((k+1):Nat):Int))<|ai (cS d (Qt a) e) (Oe (Qt a))) λa=>(show(Θ (-1):y9)=(Θ (ZX l.length λj=>Xb η (Qu l j)))from Lu (Value.int .i64) (Gg (λj=>Xb η (Qu l j)) λj p=>d.2 j (x8 (L1 a))).symm)) (λj p=>(s j p).below YH b)
def tP(η:Int){A:xN}(c:Nat)(d:l.length<=4294967296)(w:xH)(e:Bx w g 3 #[Θ η])(f:RdK w A l.length 1 (λj=>[vs j]))(h:∀j,j<l.length->SlV b 3 VT w (Qu l j) (vs j)):RetAt prog w 99 #[Ω A l.length c,.func (.func 98) #[] #[x02 g]] (Ξ (XQ l.length λj=>Xb η (Qu l j))) :=
 rk [x04 1 2 (iV (ZX l.length λj=>Xb η (Qu l j)))] λW a p=>have i:=e.later a;have k:=f.up a (λ_=>rfl);(λ(m:∀j,j<l.length->SlV b 3 VT W (Qu l j) (vs j))=>ai (tQ (c:=c) d W i k m)<|(show(Ξ (decide ((ZX l.length λj=>Xb η (Qu l j))>=0)):y9)=Ξ (XQ l.length λj=>Xb η (Qu l j))from Lu Ξ (DG l.length λj=>Xb η (Qu l j)))) (λj n=>(h j n).below YH a)
def rM(x:List Nm)(A:xN)(c:Nat)(w:xH)(a:Bx w g 3 #[Θ η]):RetAt prog w 146 #[Ω A x.length c,x02 g] (Ξ (Xb η x)) :=
 rk [x03 1 2 (Θ η)] λW b d=>have e:=a.later b;ai (Ze 0 e rfl)<|d
def rO{x:List Nm}(w:xH)(b:Bx w g 3 #[.int .i64 η])(d:SlV a 3 VT w x v):RetAt prog w 146 #[v,.pointer (some ⟨g,0,none⟩)] (.bool (Xb η x)):=by
 obtain⟨A,c,rfl,_⟩:=d.shape;exact rM x A c w b
abbrev HGc(g:Nat):y9:=.func (.func 146) #[] #[.pointer (some ⟨g,0,none⟩)]
def rL{A:xN}{c:Nat}(v:l.length<=4294967296)(w:xH)(q:Bx w g 3 #[Θ η])(r:RdK w A l.length 1 (λj=>[vs j]))(s:∀j,j<l.length->SlV h 3 VT w (Qu l j) (vs j)):RetAt prog w 139 #[Ω A l.length c,.func (.func 146) #[] #[x02 g]] (Θ (ZX l.length λj=>Xb η (Qu l j))) :=
 rk [P5 (λ(k:Nat)=>(⟨19,[(0,lV A l.length c),(1,.val (HGc g)),(4,iV 0),(6,lV A l.length c),(7,iV (l.length:Int)),(8,iV (k:Int))],[],[]⟩:St)) l.length (λj=>Xb η (Qu l j)) (λ(k:Nat)=>[.both [x03 4 3 (.pointer (some (Q5 A (k*1+0)))),x03 4 4 (vs k),x04 4 5 (bV (Xb η (Qu l k))),.both [] [x05 6 0 (iV ((k+1:Nat):Int)),.next 0]] []])] λW b x=>have t:=q.later b;have m:=r.up b (λ_=>rfl);(λ(u:∀j,j<l.length->SlV h 3 VT W (Qu l j) (vs j))=>Vv (qV (Ω A l.length c)) (qV (HGc g)) (qI 0) (qV (Ω A l.length c)) (qI (l.length:Int)) (qI ((0:Nat):Int))<|ai (c0 l.length (λj=>Xb η (Qu l j))) λ(k:Nat) (d:cQ l.length (λj=>Xb η (Qu l j)) k)=>Xi (decide ((k:Int)<(l.length:Int))) (λa=>Ja (Zy c m k (Qt a)) (J6 m k 0 (x8 (L0 a)) x4 rfl) (rO W t (u k (Qt a)))<|Xi (Xb η (Qu l k)) (λe=>(show(Θ (k:Int):y9)=(Θ (ZX l.length λj=>Xb η (Qu l j)))from Lu (Value.int .i64) (VD (λj=>Xb η (Qu l j)) d.2 (x8 (L0 a)) e).symm)) λe=>GL (QD k (x8 (L0 a))) (qV (Ω A l.length c)) (qV (HGc g)) (qI 0) (qV (Ω A l.length c)) (qI (l.length:Int)) (qI (((k+1):Nat):Int))<|ai (cS d (Qt a) e) (Oe (Qt a))) λa=>(show(Θ (-1):y9)=(Θ (ZX l.length λj=>Xb η (Qu l j)))from Lu (Value.int .i64) (Gg (λj=>Xb η (Qu l j)) λj p=>d.2 j (x8 (L1 a))).symm)) (λj p=>(s j p).below YH b)
def rK(η:Int){A:xN}(c:Nat)(d:l.length<=4294967296)(w:xH)(e:Bx w g 3 #[Θ η])(f:RdK w A l.length 1 (λj=>[vs j]))(h:∀j,j<l.length->SlV b 3 VT w (Qu l j) (vs j)):RetAt prog w 99 #[Ω A l.length c,.func (.func 146) #[] #[x02 g]] (Ξ (XQ l.length λj=>Xb η (Qu l j))) :=
 rk [x04 1 2 (iV (ZX l.length λj=>Xb η (Qu l j)))] λW a p=>have i:=e.later a;have k:=f.up a (λ_=>rfl);(λ(m:∀j,j<l.length->SlV b 3 VT W (Qu l j) (vs j))=>ai (rL (c:=c) d W i k m)<|(show(Ξ (decide ((ZX l.length λj=>Xb η (Qu l j))>=0)):y9)=Ξ (XQ l.length λj=>Xb η (Qu l j))from Lu Ξ (DG l.length λj=>Xb η (Qu l j)))) (λj n=>(h j n).below YH a)
def kv{A:xN}{c:Nat}(x:Nd)(f:okP x.sum)(w:xH)(k:QV w)(p:Bx w g 3 #[Θ η])(q:RdK w A x.sum.ts.length 4 (λj=>QK (Qb x.sum.ts j))):RetAt prog w 104 #[.agg #[Θ x.split,Ξ x.ο.b,Ψ x.ο.s,Θ x.ο.e,Θ x.sum.vars,Ω A x.sum.ts.length c],x02 g] (Ξ (Zm η x)) :=
 have d:=eB (Zm η x);rk [.both [.gb 2 4 [x03 2 7 (Ξ (!(lr x.ο))),.gb 2 10 [.gb 2 16 [] []] []] []] [x04 3 2 (iV (K9 x.sum)),.gb 3 5 [x03 3 8 (Θ η)] []]] λW l u=>have r:=p.later l;have t:=q.up l (λ_=>rfl);(λ(k:QV W)=>Xi (x.split != 0) (λa=>ZD (x.split != 1) false (λh=>ai (Bg W (.tmp 12) (.tmp 13) x.ο.b false x.ο.s ⟨#[]⟩ x.ο.e 0)<|ZD (!(lr x.ο)) false (λi=>ZD (x.sum.vars != 0) false (λm=>(d (decide ((x.sum.ts.length:Int)>0)) (by unfold Zm;rw[if_pos a,h,i,m];rfl))) λm=>(d true (by unfold Zm;rw[if_pos a,h,i,m];rfl))) λi=>(d true (by unfold Zm;rw[if_pos a,h,i];rfl))) λh=>(d true (by unfold Zm;rw[if_pos a,h];rfl))) λa=>ai (pe (vars:=x.sum.vars) (c:=c) f.len f.tms W k t)<|ZD ((K9 x.sum) != 0) false (λn=>ai (Ze 0 r rfl)<|(d (x.sum.vars != η) (by unfold Zm;rw[if_neg (show ¬(x.split != 0)=true by rw[a];decide),n];rfl))) λn=>(d true (by unfold Zm;rw[if_neg (show ¬(x.split != 0)=true by rw[a];decide),n];rfl))) (Ql k l)
def kx{x:Nd}(a:okP x.sum)(w:xH)(f:QV w)(h:Bx w g 3 #[.int .i64 η])(i:SlV d 4 Ye w x.sum.ts v):RetAt prog w 104 #[.agg #[.int .i64 x.split,.bool x.ο.b,.string x.ο.s,.int .i64 x.ο.e,.int .i64 x.sum.vars,v],.pointer (some ⟨g,0,none⟩)] (.bool (Zm η x)):=by
 obtain⟨A,c,rfl,_,_,j⟩:=SlV.enc Bp i;exact kv x a w f h j
abbrev HGd(g:Nat):y9:=.func (.func 104) #[] #[.pointer (some ⟨g,0,none⟩)]
def QaS{r:Nat}{A:xN}{c:Nat}{l:List Nd}(E:l.length<=4294967296)(h:∀p,p∈l->okP p.sum)(w:xH)(v:QV w)(x:Bx w g 3 #[Θ η])(y:RdK w A l.length 6 (gS l vs))(z:∀j,j<l.length->SlV r 4 Ye w (Qn l j).sum.ts (vs j)):RetAt prog w 142 #[Ω A l.length c,.func (.func 104) #[] #[x02 g]] (Θ (ZX l.length λj=>Zm η (Qn l j))) :=
 rk [P5 (λ(k:Nat)=>(⟨19,[(0,lV A l.length c),(1,.val (HGd g)),(4,iV 0),(6,lV A l.length c),(7,iV (l.length:Int)),(8,iV (k:Int))],[],[]⟩:St)) l.length (λj=>Zm η (Qn l j)) (λ(k:Nat)=>[.both [x03 4 3 (.pointer (some (Q5 A (k*6+0)))),x03 4 4 (.agg #[Θ ((Qn l k).split),Ξ ((Qn l k).ο.b),Ψ ((Qn l k).ο.s),Θ ((Qn l k).ο.e),Θ ((Qn l k).sum.vars),vs k]),x04 4 5 (bV (Zm η (Qn l k))),.both [] [x05 6 0 (iV ((k+1:Nat):Int)),.next 0]] []])] λW d F=>have B:=x.later d;have t:=y.up d (λ_=>rfl);(λ(C:∀j,j<l.length->SlV r 4 Ye W (Qn l j).sum.ts (vs j))=>have D:=Ql v d;Vv (qV (Ω A l.length c)) (qV (HGd g)) (qI 0) (qV (Ω A l.length c)) (qI (l.length:Int)) (qI ((0:Nat):Int))<|ai (c0 l.length (λj=>Zm η (Qn l j))) λ(k:Nat) (m:cQ l.length (λj=>Zm η (Qn l j)) k)=>Xi (decide ((k:Int)<(l.length:Int))) (λa=>Ja (J4 c t k (Qt a)) (D7 t k 0 (x8 (L0 a)) x4 rfl rfl) (kx (h _ (DK (Qt a))) W D B (C k (Qt a)))<|Xi (Zm η (Qn l k)) (λq=>(show(Θ (k:Int):y9)=(Θ (ZX l.length λj=>Zm η (Qn l j)))from Lu (Value.int .i64) (VD (λj=>Zm η (Qn l j)) m.2 (x8 (L0 a)) q).symm)) λq=>GL (QD k (x8 (L0 a))) (qV (Ω A l.length c)) (qV (HGd g)) (qI 0) (qV (Ω A l.length c)) (qI (l.length:Int)) (qI (((k+1):Nat):Int))<|ai (cS m (Qt a) q) (Oe (Qt a))) λa=>(show(Θ (-1):y9)=(Θ (ZX l.length λj=>Zm η (Qn l j)))from Lu (Value.int .i64) (Gg (λj=>Zm η (Qn l j)) λj u=>m.2 j (x8 (L1 a))).symm)) (λj u=>(z j u).below YS d)
def QaR(η:Int){A:xN}(c:Nat){l:List Nd}(e:l.length<=4294967296)(b:∀p,p∈l->okP p.sum)(w:xH)(f:QV w)(h:Bx w g 3 #[Θ η])(i:RdK w A l.length 6 (gS l vs))(k:∀j,j<l.length->SlV d 4 Ye w (Qn l j).sum.ts (vs j)):RetAt prog w 103 #[Ω A l.length c,.func (.func 104) #[] #[x02 g]] (Ξ (XQ l.length λj=>Zm η (Qn l j))) :=
 rk [x04 1 2 (iV (ZX l.length λj=>Zm η (Qn l j)))] λW a t=>have m:=h.later a;have n:=i.up a (λ_=>rfl);(λ(q:∀j,j<l.length->SlV d 4 Ye W (Qn l j).sum.ts (vs j))=>have r:=Ql f a;ai (QaS (c:=c) e b W r m n q)<|(show(Ξ (decide ((ZX l.length λj=>Zm η (Qn l j))>=0)):y9)=Ξ (XQ l.length λj=>Zm η (Qn l j))from Lu Ξ (DG l.length λj=>Zm η (Qn l j)))) (λj s=>(k j s).below YS a)
def Vt  (w:xH):RetAt prog w 50 #[] (.agg #[Ξ false,Ξ false,Ξ false,Θ 0,Ξ false,Ξ true,Ξ false,Ξ false,Θ 1,Ξ false,Ξ true,Ξ false,Ξ false,Θ 2,Ξ true,Ξ true,Ξ false,Ξ false,Θ 1,Ξ false,Ξ true,Ξ true,Ξ false,Θ 1,Ξ false,Ξ true,Ξ false,Ξ false,Θ 0,Ξ true,Ξ false,Ξ false,Ξ true,Θ 1,Ξ false]) :=
 rk [] λW b a=>a
variable{δ:Int}
def vG(a:decide (δ<1)=true)(w:xH):RetAt prog w 49 #[Θ δ,Θ vars] (Θ 0) :=
 rk [x04 1 0 (.agg [bV false,bV false,bV false,iV 0,bV false,bV true,bV false,bV false,iV 1,bV false,bV true,bV false,bV false,iV 2,bV true,bV true,bV false,bV false,iV 1,bV false,bV true,bV true,bV false,iV 1,bV false,bV true,bV false,bV false,iV 0,bV true,bV false,bV false,bV true,iV 1,bV false]),.g 2 3 false] λW b c=>X0 (Vt W) a<|(Rx (Θ 0))
def vH(a:decide (δ<1)=false)(b:decide (δ>=7)=true)(w:xH):RetAt prog w 49 #[Θ δ,Θ vars] (Θ 0) :=
 rk [x04 1 0 (.agg [bV false,bV false,bV false,iV 0,bV false,bV true,bV false,bV false,iV 1,bV false,bV true,bV false,bV false,iV 2,bV true,bV true,bV false,bV false,iV 1,bV false,bV true,bV true,bV false,iV 1,bV false,bV true,bV false,bV false,iV 0,bV true,bV false,bV false,bV true,iV 1,bV false]),.g 2 3 true,.g 2 7 false] λW c d=>Ja (Vt W) a b<|(Rx (Θ 0))
def vJ(a:decide (δ<1)=false)(b:decide (δ>=7)=false)(c:decide (vars<1)=true)(w:xH):RetAt prog w 49 #[Θ δ,Θ vars] (Θ 0) :=
 rk [x04 1 0 (.agg [bV false,bV false,bV false,iV 0,bV false,bV true,bV false,bV false,iV 1,bV false,bV true,bV false,bV false,iV 2,bV true,bV true,bV false,bV false,iV 1,bV false,bV true,bV true,bV false,iV 1,bV false,bV true,bV false,bV false,iV 0,bV true,bV false,bV false,bV true,iV 1,bV false]),.g 2 3 true,.g 2 7 true,.br true] λW d e=>Ky (Vt W) a b c<|(Rx (Θ 0))
def vA(a:decide (vars<1)=false)(w:xH):RetAt prog w 49 #[Θ 1,Θ vars] (Θ 1) :=
 rk [x04 1 0 (.agg [bV false,bV false,bV false,iV 0,bV false,bV true,bV false,bV false,iV 1,bV false,bV true,bV false,bV false,iV 2,bV true,bV true,bV false,bV false,iV 1,bV false,bV true,bV true,bV false,iV 1,bV false,bV true,bV false,bV false,iV 0,bV true,bV false,bV false,bV true,iV 1,bV false]),.br false] λW b c=>X0 (Vt W) a<|(Rx (Θ 1))
def vB(a:decide (vars<1)=false)(w:xH):RetAt prog w 49 #[Θ 2,Θ vars] (Θ 2) :=
 rk [x04 1 0 (.agg [bV false,bV false,bV false,iV 0,bV false,bV true,bV false,bV false,iV 1,bV false,bV true,bV false,bV false,iV 2,bV true,bV true,bV false,bV false,iV 1,bV false,bV true,bV true,bV false,iV 1,bV false,bV true,bV false,bV false,iV 0,bV true,bV false,bV false,bV true,iV 1,bV false]),.br false] λW b c=>X0 (Vt W) a<|(Rx (Θ 2))
def vC(a:decide (vars<1)=false)(w:xH):RetAt prog w 49 #[Θ 3,Θ vars] (Θ 1) :=
 rk [x04 1 0 (.agg [bV false,bV false,bV false,iV 0,bV false,bV true,bV false,bV false,iV 1,bV false,bV true,bV false,bV false,iV 2,bV true,bV true,bV false,bV false,iV 1,bV false,bV true,bV true,bV false,iV 1,bV false,bV true,bV false,bV false,iV 0,bV true,bV false,bV false,bV true,iV 1,bV false]),.br false] λW b c=>X0 (Vt W) a<|(Rx (Θ 1))
def vD(a:decide (vars<1)=false)(w:xH):RetAt prog w 49 #[Θ 4,Θ vars] (Θ 1) :=
 rk [x04 1 0 (.agg [bV false,bV false,bV false,iV 0,bV false,bV true,bV false,bV false,iV 1,bV false,bV true,bV false,bV false,iV 2,bV true,bV true,bV false,bV false,iV 1,bV false,bV true,bV true,bV false,iV 1,bV false,bV true,bV false,bV false,iV 0,bV true,bV false,bV false,bV true,iV 1,bV false]),.br false] λW b c=>X0 (Vt W) a<|(Rx (Θ 1))
def vE(a:decide (vars<1)=false)(w:xH):RetAt prog w 49 #[Θ 5,Θ vars] (Θ vars) :=
 rk [x04 1 0 (.agg [bV false,bV false,bV false,iV 0,bV false,bV true,bV false,bV false,iV 1,bV false,bV true,bV false,bV false,iV 2,bV true,bV true,bV false,bV false,iV 1,bV false,bV true,bV true,bV false,iV 1,bV false,bV true,bV false,bV false,iV 0,bV true,bV false,bV false,bV true,iV 1,bV false]),.br false] λW b c=>X0 (Vt W) a<|(Rx (Θ vars))
def vF(a:decide (vars<1)=false)(w:xH):RetAt prog w 49 #[Θ 6,Θ vars] (Θ 1) :=
 rk [x04 1 0 (.agg [bV false,bV false,bV false,iV 0,bV false,bV true,bV false,bV false,iV 1,bV false,bV true,bV false,bV false,iV 2,bV true,bV true,bV false,bV false,iV 1,bV false,bV true,bV true,bV false,iV 1,bV false,bV true,bV false,bV false,iV 0,bV true,bV false,bV false,bV true,iV 1,bV false]),.br false] λW b c=>X0 (Vt W) a<|(Rx (Θ 1))
def ia(δ vars:Int)(w:xH):RetAt prog w 49 #[.int .i64 δ,.int .i64 vars] (.int .i64 (QY δ vars)):=by
 unfold QY;by_cases b:δ<1
 ·rw[if_pos (Or.inl b)];exact vG (Lk b) w
 by_cases c:7<=δ
 ·rw[if_pos (Or.inr (Or.inl c))];exact vH (Lc b) (Lk c) w
 by_cases a:vars<1
 ·rw[if_pos (Or.inr (Or.inr a))];exact vJ (Lc b) (Lc c) (Lk a) w
 rw[if_neg x3];have d:δ=1\/δ=2\/δ=3\/δ=4\/δ=5\/δ=6:=x3;rcases d with rfl|rfl|rfl|rfl|rfl|rfl
 ·exact vA (Lc a) w
 ·exact vB (Lc a) w
 ·exact vC (Lc a) w
 ·exact vD (Lc a) w
 ·exact vE (Lc a) w
 ·exact vF (Lc a) w
def Pi(x:Nm)(w:xH):RetAt prog w 100 #[nA x] (Ξ (G3 x)) :=
 rk [x04 1 1 (iV (sg x))] λW c a=>ai (rc W call65 λW=>GB x.s x.b x.e W)<|a
def HGe:List Dir:=[.g 5 18 false,.g 5 19 false,.g 5 20 false,.g 5 21 true,.o 5 21 (.pk true),.g 5 22 true,.o 5 22 (.pk true),.o 5 23 (.pk false)]
abbrev HGf(m:Nat):=decide ((m:Int)>0)
def HGg:List Dir:=[.g 5 9 false,.g 5 10 false,.g 5 11 false,.g 5 22 false,.o 5 23 (.pk true)]
def Qb2(s r c:Bool)(δ vars f:Int)(v vs x:y9)(i a:Nm)(y z:xN)(nr A m B:Nat)(w:xH):RetAt prog w 54 #[pA δ vars v vs x (Ω y nr A) i a f (Ω z m B),.agg #[Ξ s,Ξ r,Ξ c]] (Ξ (Zd s r c i a nr f m)) :=
 have q:=eB (Zd s r c i a nr f m);rk [.reg 19 [],x04 3 5 (bV (G3 i)),x03 3 6 (Ξ (s != (G3 i))),.gb 3 8 [.g 3 9 true,.g 3 10 true,.g 3 11 true,.gb 3 12 [.g 3 13 true,.g 3 14 true,.g 3 15 true,x03 3 15 (Ξ (!(lr i))),.g 3 16 true,.o 3 16 (.pk true),.o 3 17 (.pk false),.both [] [.reg 25 [],x04 5 5 (bV (G3 a)),x03 5 6 (Ξ (r != (G3 a))),.gb 5 8 [.g 5 9 true,.g 5 10 true,.g 5 11 true,.gb 5 12 [.g 5 13 true,.g 5 14 true,.g 5 15 true,x03 5 15 (Ξ (!(lr a))),.g 5 16 true,.gb 5 17 [.g 5 18 true,.g 5 19 true,.g 5 20 true,.g 5 21 true,.o 5 21 (.pk false),.g 5 22 true,.o 5 22 (.pk true),.o 5 23 (.pk false),.both [] [.g 7 3 false,.g 7 12 true,.both [] [x03 9 6 (Ξ (c==(HGf m)))]]] HGe] [.g 5 13 false,.g 5 14 false,.g 5 15 false,.g 5 16 false,.g 5 21 false,.g 5 22 true,.o 5 22 (.pk false),.o 5 23 (.pk false),.g 7 3 false,.g 7 12 true,.both [] [x03 9 6 (Ξ (c==(HGf m)))]]] HGg]] [.g 3 13 false,.g 3 14 false,.g 3 15 false,.g 3 16 true,.o 3 16 (.pk false),.o 3 17 (.pk false),.reg 25 [],x04 5 5 (bV (G3 a)),x03 5 6 (Ξ (r != (G3 a))),.gb 5 8 [.g 5 9 true,.g 5 10 true,.g 5 11 true,.gb 5 12 [.g 5 13 true,.g 5 14 true,.g 5 15 true,x03 5 15 (Ξ (!(lr a))),.g 5 16 true,.gb 5 17 [.g 5 18 true,.g 5 19 true,.g 5 20 true,.g 5 21 true,.o 5 21 (.pk false),.g 5 22 true,.o 5 22 (.pk true),.o 5 23 (.pk false),.both [] [.g 7 3 true,.gb 7 8 [.g 7 12 false,x03 9 6 (Ξ (c==(HGf m)))] []]] HGe] [.g 5 13 false,.g 5 14 false,.g 5 15 false,.g 5 16 false,.g 5 21 false,.g 5 22 true,.o 5 22 (.pk false),.o 5 23 (.pk false),.g 7 3 true,.gb 7 8 [.g 7 12 false,x03 9 6 (Ξ (c==(HGf m)))] []]] HGg]] [.g 3 9 false,.g 3 10 false,.g 3 11 false,.g 3 16 false,.o 3 17 (.pk true)]] λW C D=>X0 (Pi i W) (C8 W (.tmp 10) (.tmp 14) s (G3 i))<|ZD (s != (G3 i)) false (λk=>Ja k k k<|ZD (!s) true (λj=>GL j j j (Bg W (.tmp 22) (.tmp 23) i.b false i.s ⟨#[]⟩ i.e 0) k j k<|Xi (!(lr i)) (λn=>(q false (by unfold Zd;rw[k,j,n];rfl))) λn=>X0 (Pi a W) (C8 W (.tmp 29) (.tmp 33) r (G3 a))<|ZD (r != (G3 a)) false (λh=>Ja h h h<|ZD (!r) true (λd=>KJ d d d (Bg W (.tmp 41) (.tmp 42) a.b false a.s ⟨#[]⟩ a.e 0) d<|ZD (!(lr a)) false (λl=>Yx l l l d l h d h<|Xi (decide ((nr:Int)>0)) (λp=>(q false (by unfold Zd;rw[k,j,n,h,d,l,p];rfl))) λp=>X0 (show s=false by revert j;cases s<;>simp) j<|Xi (f != 0) (λt=>(show(Ξ false:y9)=Ξ (Zd s r c i a nr f m)from by unfold Zd;rw[k,j,n,h,d,l,p,(show s=false by revert j;cases s<;>simp),t];rfl)) λt=>ai (C7 W (.tmp 71) (.tmp 75) c (HGf m))<|(show(Ξ (c==(decide ((m:Int)>0))):y9)=Ξ (Zd s r c i a nr f m)from by unfold Zd;rw[k,j,n,h,d,l,p,(show s=false by revert j;cases s<;>simp),t];rfl)) λl=>Yx l l l d l h d h<|(q false (by unfold Zd;rw[k,j,n,h,d,l];rfl))) λd=>Yx d d d d d h d h<|X0 (show s=false by revert j;cases s<;>simp) j<|Xi (f != 0) (λt=>(show(Ξ false:y9)=Ξ (Zd s r c i a nr f m)from by unfold Zd;rw[k,j,n,h,d,(show s=false by revert j;cases s<;>simp),t];rfl)) λt=>ai (C7 W (.tmp 71) (.tmp 75) c (HGf m))<|(show(Ξ (c==(decide ((m:Int)>0))):y9)=Ξ (Zd s r c i a nr f m)from by unfold Zd;rw[k,j,n,h,d,(show s=false by revert j;cases s<;>simp),t];rfl)) λh=>KJ h h h h h<|(q false (by unfold Zd;rw[k,j,n,h];rfl))) λj=>Yx j j j k j k (Pi a W) (C8 W (.tmp 29) (.tmp 33) r (G3 a))<|ZD (r != (G3 a)) false (λh=>Ja h h h<|ZD (!r) true (λd=>KJ d d d (Bg W (.tmp 41) (.tmp 42) a.b false a.s ⟨#[]⟩ a.e 0) d<|ZD (!(lr a)) false (λl=>Yx l l l d l h d h<|Xi (decide ((nr:Int)>0)) (λp=>(q false (by unfold Zd;rw[k,j,h,d,l,p];rfl))) λp=>ai (show s=true by revert j;cases s<;>simp)<|ZD (decide (f<1)) false (λu=>X0 j (C7 W (.tmp 71) (.tmp 75) c (HGf m))<|(show(Ξ (c==(decide ((m:Int)>0))):y9)=Ξ (Zd s r c i a nr f m)from by unfold Zd;rw[k,j,h,d,l,p,(show s=true by revert j;cases s<;>simp),u];rfl)) λu=>(show(Ξ false:y9)=Ξ (Zd s r c i a nr f m)from by unfold Zd;rw[k,j,h,d,l,p,(show s=true by revert j;cases s<;>simp),u];rfl)) λl=>Yx l l l d l h d h<|(q false (by unfold Zd;rw[k,j,h,d,l];rfl))) λd=>Yx d d d d d h d h<|ai (show s=true by revert j;cases s<;>simp)<|ZD (decide (f<1)) false (λu=>X0 j (C7 W (.tmp 71) (.tmp 75) c (HGf m))<|(show(Ξ (c==(decide ((m:Int)>0))):y9)=Ξ (Zd s r c i a nr f m)from by unfold Zd;rw[k,j,h,d,(show s=true by revert j;cases s<;>simp),u];rfl)) λu=>(show(Ξ false:y9)=Ξ (Zd s r c i a nr f m)from by unfold Zd;rw[k,j,h,d,(show s=true by revert j;cases s<;>simp),u];rfl)) λh=>KJ h h h h h<|(q false (by unfold Zd;rw[k,j,h];rfl))) λk=>KJ k k k k k<|(q false (by unfold Zd;rw[k];rfl))
def uy(d e:xN)(nb f a cs:Nat)(g:nb<=4294967296)(w:xH):RetAt prog w 57 #[.agg #[Ω d nb f,Ω e a cs]] (Θ (Kt nb a)) :=
 have c:=eI (Kt nb a);rk [.both [x05 2 3 (iV (2*(nb:Int)))] []] λW h i=>Xi (decide ((nb:Int)>0)) (λb=>ai (show IntKind.i64.wrap (2*(nb:Int))=2*(nb:Int)from Le _ x3)<|(c (2*(nb:Int)) (by unfold Kt;rw[b];rfl))) λb=>(c (a:Int) (by unfold Kt;rw[b];rfl))
def UZ{n:Nat}(c:n<=4294967296)(d:-9223372036854775808<=vars/\vars<=9223372036854775807):((n:Int)==IntKind.i64.wrap (vars+1))=((n:Int)==vars+1):=by
 by_cases h:vars=9223372036854775807
 ·subst h;rw[show IntKind.i64.wrap (9223372036854775807+1)=-9223372036854775808 from x4];have a:((n:Int)==-9223372036854775808)=false:=Lp.2 x3;have b:((n:Int)==9223372036854775807+1)=false:=Lp.2 x3;rw[a,b]
 ·rw[Le _ x3]
def Qaa(Ab:xN){m:xN}(nb cb cs:Nat)(wants:Bool)(h:l.length<=4294967296)(n:-9223372036854775808<=vars/\vars<=9223372036854775807)(w:xH)(r:RdK w m l.length 1 (λj=>[vs j]))(s:∀j,j<l.length->SlV k 3 VT w (Qu l j) (vs j)):RetAt prog w 53 #[.agg #[Ω Ab nb cb,Ω m l.length cs],Θ vars,Ξ wants] (Ξ (GR nb l vars wants)) :=
 have d:=eB (GR nb l vars wants);rk [.gb 1 5 [.both [.gb 2 6 [] []] [.gb 4 7 [x04 4 10 (bV (XQ l.length λj=>Xb vars (Qu l j)))] []]] [.gb 2 6 [] []]] λW p x=>have t:=r.up p (λ_=>rfl);(λ(u:∀j,j<l.length->SlV k 3 VT W (Qu l j) (vs j))=>ZD (decide ((nb:Int)>0)) false (λa=>Xi wants (λe=>ZD ((nb:Int)==vars) true (λb=>(d ((l.length:Int)==0) (by unfold GR;rw[a,e,b];rfl))) λb=>(d false (by unfold GR;rw[a,e,b];rfl))) λe=>ZD ((l.length:Int)==(IntKind.i64.wrap (vars+1))) true (λf=>ai (UW call99 λV q g v=>tP vars cs h V v (t.below (λ_=>rfl) q) (λj i=>(u j i).below YH q))<|(d (!(XQ l.length λj=>Xb vars (Qu l j))) (by rw[UZ h n]at f;unfold GR;rw[a,e,f];rfl))) λf=>(d false (by rw[UZ h n]at f;unfold GR;rw[a,e,f];rfl))) λa=>ZD ((nb:Int)==vars) true (λb=>(d ((l.length:Int)==0) (by unfold GR;rw[a,b];rfl))) λb=>(d false (by unfold GR;rw[a,b];rfl))) (λj i=>(s j i).below YH p)
def aH(l:List (List Nm)):Int:=bif (decide (((l.length:Int)-1)<1)||decide (((l.length:Int)-1)>8))||XQ l.length λj=>Xb ((l.length:Int)-1) (Qu l j)then 0 else(l.length:Int)-1
def Qew{i:xN}(cs:Nat)(l:List (List Nm))(vs:Nat->y9)(n:l.length<=4294967296)(w:xH)(p:RdK w i l.length 1 (λj=>[vs j]))(q:∀j,j<l.length->SlV h 3 VT w (Qu l j) (vs j)):RetAt prog w 110 #[Ω i l.length cs] (Θ (aH l)) :=
 have b:=eI (aH l);rk [x05 1 2 (iV ((l.length:Int)-1)),.gb 3 3 [.gb 3 7 [x04 3 9 (bV (XQ l.length λj=>Xb ((l.length:Int)-1) (Qu l j))),.both [] []] []] []] λW k u=>have r:=p.up k (λ_=>rfl);(λ(s:∀j,j<l.length->SlV h 3 VT W (Qu l j) (vs j))=>ai (show IntKind.i64.wrap ((l.length:Int)-1)=(l.length:Int)-1 from Le _ x3)<|ZD (decide (((l.length:Int)-1)<1)) false (λa=>ZD (decide (((l.length:Int)-1)>8)) false (λd=>ai (UW call99 λV m g t=>rK ((l.length:Int)-1) cs n V t (r.below (λ_=>rfl) m) (λj e=>(s j e).below YH m))<|Xi (XQ l.length λj=>Xb ((l.length:Int)-1) (Qu l j)) (λf=>(b 0 (by unfold aH;rw[a,d,f];rfl))) λf=>(b ((l.length:Int)-1) (by unfold aH;rw[a,d,f];rfl))) λd=>(b 0 (by unfold aH;rw[a,d];rfl))) λa=>(b 0 (by unfold aH;rw[a];rfl))) (λj e=>(q j e).below YH k)
def J1(x:Nm):Bool:=(decide ((x.s.size:Int)>8)||decide (x.e<(-64)))||decide (x.e>64)
def CC(x y:Nm):Bool:=(x.b==y.b&&x.s.toList==y.s.toList)&&x.e==y.e
def eA(x y:Tm):Bool:=x.m.toList==y.m.toList&&CC x.c y.c
def Nv(x y:Nm×Nm):Bool:=CC x.1 y.1&&CC x.2 y.2
def NG(n m:Nat)(e:Nat->Bool):Bool:=bif (n:Int) != (m:Int)then false else !XQ n λj=>!e j
def Qb1(W:World)(p q:Operand)(x y:Tm):Qp prog W (do eqGuard .neq 51 p q (.agg #[.string x.m,.bool x.c.b,.string x.c.s,.int .i64 x.c.e]) (.agg #[.string y.m,.bool y.c.b,.string y.c.s,.int .i64 y.c.e]);binOp .neq 51 (.agg #[.string x.m,.bool x.c.b,.string x.c.s,.int .i64 x.c.e]) (.agg #[.string y.m,.bool y.c.b,.string y.c.s,.int .i64 y.c.e])) (.bool (!eA x y)):=λi _=>by
 unfold eA CC;simp[go_sem];by_cases a:x.m.toList=y.m.toList<;>by_cases d:x.c.b=y.c.b<;>by_cases f:x.c.s.toList=y.c.s.toList<;>by_cases g:x.c.e=y.c.e<;>simp[a,d,f,g]
def QbQ(W:World)(p q:Operand)(x y:Nm×Nm):Qp prog W (do eqGuard .neq 66 p q (.agg #[.bool x.1.b,.string x.1.s,.int .i64 x.1.e,.bool x.2.b,.string x.2.s,.int .i64 x.2.e]) (.agg #[.bool y.1.b,.string y.1.s,.int .i64 y.1.e,.bool y.2.b,.string y.2.s,.int .i64 y.2.e]);binOp .neq 66 (.agg #[.bool x.1.b,.string x.1.s,.int .i64 x.1.e,.bool x.2.b,.string x.2.s,.int .i64 x.2.e]) (.agg #[.bool y.1.b,.string y.1.s,.int .i64 y.1.e,.bool y.2.b,.string y.2.s,.int .i64 y.2.e])) (.bool (!Nv x y)):=λj _=>by
 unfold Nv CC;simp[go_sem];by_cases a:x.1.b=y.1.b<;>by_cases c:x.1.s.toList=y.1.s.toList<;>by_cases d:x.1.e=y.1.e<;>by_cases f:x.2.b=y.2.b<;>by_cases g:x.2.s.toList=y.2.s.toList<;>by_cases i:x.2.e=y.2.e<;>simp[a,c,d,f,g,i]
def QaP(W:xH)(p q:x0h)(x y:Nm):Qp prog W (do eqGuard .neq 32 p q (nA x) (nA y);binOp .neq 32 (nA x) (nA y)) (.bool (!CC x y)):=Bg W p q x.b y.b x.s y.s x.e y.e
def RB(W:xH)(p q:x0h)(x y:Nm):Qp prog W (do eqGuard .eql 32 p q (nA x) (nA y);binOp .eql 32 (nA x) (nA y)) (.bool (CC x y)):=gM W p q x.b y.b x.s y.s x.e y.e
theorem AJ{n m:Nat}(e:Nat->Bool)(h:((n:Int) != (m:Int))=true):(Value.bool false)=.bool (NG n m e):=by grind[NG]
def Fl{n m:Nat}(e:Nat->Bool)(h:((n:Int) != (m:Int))=false)(a:decide ((k:Int)<(n:Int))=true)(b:(!e k)=true):(Value.bool false)=.bool (NG n m e):=by
 unfold NG;rw[h,ZG (x8 (L0 a)) b];rfl
theorem AK{n m:Nat}(e:Nat->Bool)(h:((n:Int) != (m:Int))=false)(a:decide ((k:Int)<(n:Int))=false)(b:∀j,j<k->(!e j)=false):(Value.bool true)=.bool (NG n m e):=by
 grind[NG,Kf]
theorem GQ{n m:Nat}(h:((n:Int) != (m:Int))=false)(a:decide ((k:Int)<(n:Int))=true):k<m:=by
 grind
def yd(x:Nm)(w:xH):RetAt prog w 60 #[nA x] (Ξ (J1 x)) :=
 have b:=eB (J1 x);rk [.gb 1 6 [.gb 1 11 [] []] []] λW d f=>ZD (decide ((x.s.size:Int)>8)) false (λa=>ZD (decide (x.e<(-64))) false (λc=>(b (decide (x.e>64)) (by unfold J1;rw[a,c];rfl))) λc=>(b true (by unfold J1;rw[a,c];rfl))) λa=>(b true (by unfold J1;rw[a];rfl))
variable{f:Nat}
theorem SlV.rdPy2{l:List Py}(h:SlV f 2 (dX f) w l v):
  ∃(A:xN) (c:Nat) (g:Nat->xN) (cs:Nat->Nat),v=.slice A l.length c/\l.length<=c/\(A=none->l.length=0/\c=0)/\RdK w A l.length 2 (X7 l g cs)/\∀j,j<l.length->SlV f 4 Ye w (QM l j).ts (.slice (g j) (QM l j).ts.length (cs j)):=by
 let⟨A,c,vs,i,k,m,n,o⟩:=h.rdPy;have key:∀j,∃x:xN×Nat,j<l.length->vs j=.slice x.1 (QM l j).ts.length x.2:=λj=>by
  by_cases b:j<l.length
  ·let⟨a,d,e,_⟩:=(o j b).shape;simp_all
  ·exact⟨(none,0),λh=>absurd h b⟩
 refine⟨A,c,λj=>(Classical.choose (key j)).1,λj=>(Classical.choose (key j)).2,i,k,m,n.congr λj b=>by rw[Lq (key j) b],λj b=>?_⟩
 grind
theorem SlV.rdPt2(h:SlV f 1 (kz f) w l v):
  ∃(A:xN) (c:Nat) (g:Nat->xN) (cs:Nat->Nat),v=.slice A l.length c/\l.length<=c/\(A=none->l.length=0/\c=0)/\RdK w A l.length 1 (yx l g cs)/\∀j,j<l.length->SlV f 3 VT w (Qu l j) (.slice (g j) (Qu l j).length (cs j)):=by
 let⟨A,c,vs,i,k,m,n,o⟩:=h.rdPt;have key:∀j,∃x:xN×Nat,j<l.length->vs j=.slice x.1 (Qu l j).length x.2:=λj=>by
  by_cases b:j<l.length
  ·let⟨a,d,e,_⟩:=(o j b).shape;simp_all
  ·exact⟨(none,0),λh=>absurd h b⟩
 refine⟨A,c,λj=>(Classical.choose (key j)).1,λj=>(Classical.choose (key j)).2,i,k,m,n.congr λj b=>by rw[Lq (key j) b],λj b=>?_⟩
 grind
theorem SlV.rdNd2{l:List Nd}(h:SlV f 6 (lu f) w l v):
  ∃(A:xN) (c:Nat) (g:Nat->xN) (cs:Nat->Nat),v=.slice A l.length c/\l.length<=c/\(A=none->l.length=0/\c=0)/\RdK w A l.length 6 (be l g cs)/\∀j,j<l.length->SlV f 4 Ye w (Qn l j).sum.ts (.slice (g j) (Qn l j).sum.ts.length (cs j)):=by
 let⟨A,c,vs,i,k,m,n,o⟩:=h.rdNd;have key:∀j,∃x:xN×Nat,j<l.length->vs j=.slice x.1 (Qn l j).sum.ts.length x.2:=λj=>by
  by_cases b:j<l.length
  ·let⟨a,d,e,_⟩:=(o j b).shape;simp_all
  ·exact⟨(none,0),λh=>absurd h b⟩
 refine⟨A,c,λj=>(Classical.choose (key j)).1,λj=>(Classical.choose (key j)).2,i,k,m,n.congr λj b=>by rw[Lq (key j) b],λj b=>?_⟩
 grind
def pb(l a:List Tm):Bool:=NG l.length a.length λj=>eA (Qb l j) (Qb a j)
def ky(l a:List Nm):Bool:=NG l.length a.length λj=>CC (Xm l j) (Xm a j)
def lm(l a:List (Nm×Nm)):Bool:=NG l.length a.length λj=>Nv (QN l j) (QN a j)
def TA(p q:Py):Bool:=p.vars==q.vars&&pb p.ts q.ts
def MS(p q:Nd):Bool:=(p.split==q.split&&CC p.ο q.ο)&&TA p.sum q.sum
def vX(l a:List Py):Bool:=NG l.length a.length λj=>TA (QM l j) (QM a j)
def NT(l a:List (List Nm)):Bool:=NG l.length a.length λj=>ky (Qu l j) (Qu a j)
def kk(l a:List Nd):Bool:=NG l.length a.length λj=>MS (Qn l j) (Qn a j)
def ZS(x y:PV):Bool:=((((((((x.δ==y.δ&&x.vars==y.vars)&&CC x.ν y.ν)&&CC x.ε y.ε)&&x.ζ==y.ζ)&&(lm x.box y.box&&NT x.κ y.κ))&&vX x.ps y.ps)&&vX x.θ y.θ)&&kk x.ι y.ι)
structure shortP (x:PV):Prop where
 box:x.box.length<=4294967296
 κ:x.κ.length<=4294967296
 ps:x.ps.length<=4294967296
 θ:x.θ.length<=4294967296
 ι:x.ι.length<=4294967296
 pt:∀p,p∈x.κ->p.length<=4294967296
 p:∀p,p∈x.ps->p.ts.length<=4294967296
 rule:∀p,p∈x.θ->p.ts.length<=4294967296
 node:∀p,p∈x.ι->p.sum.ts.length<=4294967296
structure Five (lo:Nat) (w:World) (x:PV) (vb vs vp vr vc:Value):Prop where
 b:SlV lo 6 yN w x.box vb
 s:SlV lo 1 (kz lo) w x.κ vs
 p:SlV lo 2 (dX lo) w x.ps vp
 r:SlV lo 2 (dX lo) w x.θ vr
 c:SlV lo 6 (lu lo) w x.ι vc
def Five.below{e:xH}{x:PV}{f vs g i j:y9}(h:Five a w x f vs g i j)(d:Below w.heap.size w e):Five a e x f vs g i j:=⟨h.b.below QbP d,h.s.below (pG a) d,h.p.below (pP a) d,h.r.below (pP a) d,h.c.below (QaK a) d⟩
def ZY:RowT prog 43 43 32 3 32:=⟨x5,⟨32,x5⟩,x5,x4,x4⟩
def CE:RowT prog 43 52 32 3 32:=⟨x5,⟨32,x5⟩,x5,x4,x4⟩
def BD:RowT prog 52 52 32 3 32:=⟨x5,⟨32,x5⟩,x5,x4,x4⟩
def M7:RowT prog 165 165 43 1 24:=⟨x5,⟨43,x5⟩,x5,x4,x4⟩
def Kv:RowT prog 25 25 52 1 24:=⟨x5,⟨52,x5⟩,x5,x4,x4⟩
def Jp:RowT prog 23 23 66 6 64:=⟨x5,⟨66,x5⟩,x5,x4,x4⟩
def Xg:RowT prog 28 28 47 2 32:=⟨x5,⟨47,x5⟩,x5,x4,x4⟩
def Am:RowT prog 33 33 49 6 72:=⟨x5,⟨49,x5⟩,x5,x4,x4⟩
def XN:RowT prog 45 45 51 4 48:=⟨x5,⟨51,x5⟩,x5,x4,x4⟩
def RX:RowT prog 238 238 3 1 8:=⟨x5,⟨3,x5⟩,x5,x4,x4⟩
variable{e:Int}
def ox{z:Int}{x:Dyadic}(h:dy z e=x)(d:Zr z<=536870912)(a:-4611686018427387904<=e)(b:e<=4611686018427387904)(W:xH)(f:QV W):xP prog 106 #[.agg #[.bool (neg z),.string (QJ z)],.int .i64 e] W (vN x):=by
 have c:=AF (QJ z) (neg z) e W (by rw[XU];exact d) a b f;rw[Xp,h]at c;exact c
variable{b:Bool}{f:Int}
def Qb6{c:Bool}{t:xM}(h:Bx w g 32 #[.bool b,.string s,.int .i64 e,.bool c,.string t,.int .i64 f]):RdK w (some ⟨g,0,none⟩) 2 3 λj=>Xk (if j=0 then⟨b,s,e⟩else⟨c,t,f⟩):=λ_=>⟨g,0,rfl,λj a i d=>by
 rw[h.cel];rcases(by omega:j=0\/j=1)with rfl|rfl<;>rcases(by omega:i=0\/i=1\/i=2)with rfl|rfl|rfl<;>rfl⟩
variable{y:Dyadic}{L:Nat}
def zd{c:Bool}{t:xM}{x:Dyadic}{A:Nat}(G:ND b s e x)(H:ND c t f y)(I:DB L A x)(J:L+A<=3000000)(w:xH)(d:QV w)(K:RdK w (some ⟨g,0,none⟩) 2 3 λj=>Xk (if j=0 then⟨b,s,e⟩else⟨c,t,f⟩)):RetAt prog w 205 #[Ω (some ⟨g,0,none⟩) 2 2] (vN (x+y)):=by
 have a:∀ {z:Int},Zr z<=300000000->Zr z<=536870912:=λh=>L6 h x4
 let⟨k1,k,l,q,r,B,q1,S,v1,M⟩:=Fg oJ G;let⟨C,m,n,u,v,D,E,T,U,N⟩:=Fg (WC I x3) H;have O:=ox (z:=k+l) (e:=k1) (x:=x) (by rw[<- PK,q,r,Dyadic.zero_add]) (L6 (DX B q1) x4) x3 x3;have P:=ox (z:=m+n) (e:=C) (x:=x+y) (by rw[<- PK,u,v]) (L6 (DX D E) x4) x3 x3;exact
 rk [x05 2 1 (iV 2),.unr 3,x03 4 0 (.pointer (some (Q5 (some ⟨g,0,none⟩) (0*3+0)))),x03 4 1 (rN b s e),x04 5 2 (.agg [iV k1,bV (neg k),sV (QJ k),bV (neg l),sV (QJ l)]),.reg 9 [],x04 6 5 (.agg [bV (neg (k+l)),sV (QJ (k+l))]),x04 6 8 (.val (vN x)),x05 7 0 (iV 1),x03 4 0 (.pointer (some (Q5 (some ⟨g,0,none⟩) (1*3+0)))),x03 4 1 (rN c t f),x04 5 2 (.agg [iV C,bV (neg m),sV (QJ m),bV (neg n),sV (QJ n)]),.reg 9 [],x04 6 5 (.agg [bV (neg (m+n)),sV (QJ (m+n))]),x04 6 8 (.val (vN (x+y))),x05 7 0 (iV 2)] λW F Q=>have d:=Ql d F;have p:=K.up F (λ_=>rfl);Yx (show(((2:Nat):Int):Int)=2 from rfl) (Gi 2 _ p 0 (by decide:0<2)) (JW p 0 0 (by decide:0<2) x4 rfl rfl) (rt d call114 M.out) (FL W call208 λR g h=>yi (a B) (a q1) h) (rt d call106 O) (show(IntKind.i64.wrap (0+1):Int)=1 from rfl) (Gi 2 _ p 1 (by decide:1<2))<|KJ (JW p 1 0 (by decide:1<2) x4 rfl rfl) (rt d call114 N.out) (FL W call208 λR g h=>yi (a D) (a E) h) (rt d call106 P) (show(IntKind.i64.wrap (1+1):Int)=2 from rfl)<|Q
def lA{c:Bool}{t:xM}{x:Dyadic}(i:ND b s e x)(j:ND c t f y)(k:DB L d x)(a:L+d<=3000000)(l:QV w)(h:Bx w g 32 #[.bool b,.string s,.int .i64 e,.bool c,.string t,.int .i64 f]):
 xP prog 205 #[.slice (some ⟨g,0,none⟩) 2 2] w (vN (x+y)):=(zd i j k a w l (Qb6 h)).at
theorem Qen{c:Bool}{t:xM}{x:Dyadic}{i:Nat}(l:ND b s e x)(a:ND c t f y)(m:DB L i x)(n:DB L i y)(j:L+i<=3000000)(w:xH)(d:QV w):RetAt prog w 150 #[rN b s e,rN c t f] (vN (x-y)):=by
 have p:∀W,QV W->xP prog 206 #[rN c t f] W (vN (-y)):=λW h=>by
  have c:=ml t c f W (L6 a.size x4) (x8 a.lo) (x8 a.hi) h;rwa [a.val]at c
 have q:∀W g,QV W->Bx W g 32 #[Ξ b,Ψ s,Θ e,Ξ (neg (dm (-y))),Ψ (QJ (dm (-y))),Θ (de (-y))]->xP prog 205 #[Ω (some ⟨g,0,none⟩) 2 2] W (vN (x-y)):=λW g h u=>by
  have c:=lA l (WC (zx n) x3) m j h u;rwa [show x + -y=x-y by grind]at c
 exact
 rk [.reg 5 [],x04 1 2 (.val (vN (-y))),x04 1 4 (.val (vN (x-y)))] λW v z=>have d:=Ql d v;X0 (rt d call206 p) (tu d call205 q)<|z
def Qem{c:Bool}{t:xM}{x:Dyadic}(w:xH)(g:ND b s e x)(h:ND c t f y)(i:DB L a x)(j:DB L a y)(d:L+a<=3000000)(k:QV w):
 xP prog 150 #[rN b s e,rN c t f] w (vN (x-y)):=(Qen g h i j d w k).at
theorem TZ{a b:xM}:(a.toList==b.toList)=true↔a=b:=by
 rw[Sk,S5,S5];exact⟨λh=>ByteArray.ext (l3 h),λh=>by rw[h]⟩
theorem nmE_iff{x y:Nm}:CC x y=true↔x=y:=by
 let⟨a,s,e⟩:=x;let⟨b,t,f⟩:=y
 grind[CC,TZ]
theorem xa{x y:Tm}:eA x y=true↔x=y:=by
 let⟨m,c⟩:=x;let⟨n,d⟩:=y
 grind[eA,TZ,nmE_iff]
theorem wI{x y:Nm×Nm}:Nv x y=true↔x=y:=by
 grind[Nv,nmE_iff]
theorem AI(d:α){E:α->α->Bool}(b:∀x y,E x y=true↔x=y){l a:List α}:NG l.length a.length (λj=>E (l.getD j d) (a.getD j d))=true↔l=a:=by
 grind[NG,Ve,ZG,Kf]
def xh{l a:List Tm}:pb l a=true↔l=a:=AI Bp λ_ _=>xa
def wa{l a:List Nm}:ky l a=true↔l=a:=AI nm0 λ_ _=>nmE_iff
theorem sX{l a:List (Nm×Nm)}:lm l a=true↔l=a:=AI (nm0,nm0) λ_ _=>wI
def ig{x y:Py}:TA x y=true↔x=y:=by
 let⟨v,t⟩:=x;let⟨u,s⟩:=y;simp[TA,xh]
def uN{x y:Nd}:MS x y=true↔x=y:=by
 let⟨v,t,p⟩:=x;let⟨u,s,q⟩:=y;simp[MS,nmE_iff,ig,and_assoc]
theorem vY{l a:List Py}:vX l a=true↔l=a:=AI NU λ_ _=>ig
theorem pH{a:List (List Nm)}:NT l a=true↔l=a:=AI ([]) λ_ _=>wa
variable{a:List Nd}
theorem oK{l:List Nd}:kk l a=true↔l=a:=AI Eh λ_ _=>uN
theorem sameB_iff{x y:PV}:ZS x y=true↔x=y:=by
 let⟨c,d,e,f,g,h,i,j,k,a⟩:=x;let⟨b1,b2,b3,b4,l,m,n,o,p,b⟩:=y
 grind[ZS,nmE_iff,sX,pH,vY,oK]
def Cp(z:Int):o3:=[.int .i64 z]
def BX(z:Int):(Cp z).length=1:=rfl
def nq(z:Int)(u:y9)(h:u∈Cp z):u.oneCell'=true:=by
 obtain rfl:=Ly.1 h;rfl
def NM(S:List Int):Int:=S.getD (S.length-1) 0
def Nc(n:Nd)(S:List Int):List Int:=bif n.split==0 then S.take (S.length-1)else S.take (S.length-1)++[IntKind.i64.wrap (NM S+1),IntKind.i64.wrap (NM S+1)]
def YM(a:List Nd):Nat->List Int
 |0=>[0]
 |k+1=>Nc (Qn a k) (YM a k)
def OH(a:List Nd):Nat->Int
 |0=>0
 |k+1=>bif (Qn a k).split==0 then IntKind.i64.wrap (OH a k+1)else OH a k
def PH(a:List Nd):Nat->Int
 |0=>0
 |k+1=>max (PH a k) (NM (YM a k))
def IB(a:List Nd):∀k,(YM a k).length<=k+1
 |0=>L4 _
 |k+1=>by
  have:=IB a k;show(Nc (Qn a k) (YM a k)).length<=_;unfold Nc;cases (Qn a k).split==0 with
  |true=>simp;omega
  |false=>simp;omega
def NB(a:List Nd):Bool:=bif decide ((a.length:Int)>4096)then false else bif XQ a.length (λj=>(((YM a j).length:Nat):Int)==0)then false else(((YM a a.length).length:Nat):Int)==0
def qu(a:List Nd):y9:=.tuple #[.int .i64 (bif NB a then OH a a.length else 0),.int .i64 (bif NB a then PH a a.length else 0),.bool (NB a)]
def Gs(η:Int)(a:List Nd):Bool:=bif (a.length:Int)==0 then true else bif NB a then !XQ a.length (λj=>Zm η (Qn a j))else false
theorem iC(h:((Qn a k).split==0)=true):YM a (k+1)=(YM a k).take ((YM a k).length-1):=by
 show Nc _ _=_
 grind[Nc]
theorem iB(h:((Qn a k).split==0)=false):YM a (k+1)=(YM a k).take ((YM a k).length-1)++[IntKind.i64.wrap (NM (YM a k)+1),IntKind.i64.wrap (NM (YM a k)+1)]:=by
 show Nc _ _=_
 grind[Nc]
def QdD(h:((Qn a k).split==0)=true):OH a (k+1)=IntKind.i64.wrap (OH a k+1):=by
 show(bif _ then _ else _)=_;rw[h];rfl
def QdC(h:((Qn a k).split==0)=false):OH a (k+1)=OH a k:=by
 show(bif _ then _ else _)=_;rw[h];rfl
theorem MJ{S:List Int}(h:(((S.length:Int))==0)=false):0<S.length:=by
 grind
section
variable{P:xO}{w0:xH}
theorem fJ(w0:xH)(P:xO)(t e:Nat)(m:Nat){v:Option Bool}{q:TI}(z:Yw P t=some q)(B:q.k=.slice e k v)(C:k≠0){c:α->o3}(j:∀x,(c x).length=k)(l:List α)(A:xN)(cp:Nat)(D:m<=l.length)(N:0<l.length):
  ∀W,Below w0.heap.size w0 W->∀x S,(Qc e k c l A cp).φ x S W->Gc P W (λy:Hp=>.slice y.1 (l.take m).length y.2) (λy:Hp=>Qc e k c (l.take m) y.1 y.2) x S (Instr.sliceAt t (.slice A l.length cp) none (some (.int .i64 (m:Int))) none):=λW _ x S E=>by
 let⟨F,r,s⟩:=(show _/\_/\_ from E)
 rcases r.2 with⟨i,O⟩|⟨g,cap,d,i,G,H,Q,I,J,p⟩
 ·omega
 injection i with i _ K
 subst i;subst K;have a:(l.take m).length=m:=by rw[Ll];omega
 refine⟨(some ⟨g,0,none⟩,cp),S,W,?_,Trn.refl _ _,(show _/\_/\_ from⟨F,⟨?_,.inr ⟨g,cp,d,rfl,G,H,by rw[a];omega,I,J,?_⟩⟩,s⟩),λb f=>⟨.inl f,?_⟩⟩
 ·have h:=JO P W g 0 l.length cp 0 m none (some (.int .i64 (m:Int))) z B C (.inl ⟨rfl,rfl⟩) (.inr ⟨.i64,rfl⟩) (L7 _) x3
  grind
 ·rw[QT j,a]
 ·rw[a];have L:m*k<=l.length*k:=Lt _ D;have u:((d.toList.take (l.length*k)).take (m*k))=(l.flatMap c).take (m*k):=by rw[p]
  rw[List.take_take,Tg L]at u;rw[u];have M:l.flatMap c=(l.take m).flatMap c++(l.drop m).flatMap c:=by rw[<- Sj,List.take_append_drop]
  rw[M,List.take_append_of_le_length (by rw[QT j,a];exact L4 _),Rh (by rw[QT j,a];exact L4 _)]
 ·exact(r.lt b ((s b).1 f)).2
end
abbrev QQ:Type:=Py×xN×Nat
def Zn(x:QQ):o3:=[.int .i64 x.1.vars,.slice x.2.1 x.1.ts.length x.2.2]
def Zb(x:QQ):(Zn x).length=2:=rfl
def EL(x:QQ)(u:y9)(h:u∈Zn x):u.oneCell'=true:=by
 simp only[Zn,Lb,Ri,or_false]at h;rcases h with rfl|rfl<;>rfl
def XM:QQ:=(NU,none,0)
variable{e bytes:Nat}
section
variable{P:xO}{w0:xH}
def NW{c:α->o3}(b:∀x,(c x).length=k)(d:0<k)(a:α)(n:Nat):(Builtin.zeroCells (c a).toArray n).toList=(List.replicate n a).flatMap c:=by
 have m:((List.replicate n a).flatMap c).length=n*k:=by rw[QT b,Sl]
 apply List.ext_getElem?;intro j;unfold Builtin.zeroCells;by_cases e:j<n*k
 ·have o:j=j / k*k+j % k:=by rw[Ls];exact(Tc j k).symm
  have p:j / k<n:=(Lr d).2 e;have f:j % k<k:=Re _ d;have g:=Jv (c:=c) b (l:=List.replicate n a) (j:=j / k) (i:=j % k) (l3 p) f;rw[<- o,List.getElem_replicate]at g;rw[g];have q:j<n*(c a).toArray.size:=by rw[Rs,b];exact e
  rw[Array.toList_map,List.getElem?_map];have r:(Array.range (n*(c a).toArray.size)).toList[j]?=some j:=by
   rw[Array.toList_range,List.getElem?_range q]
  rw[r];simp only[Option.map_some,Rs,b];have h:j % k<(c a).length:=by rw[b];exact f
  rw[p6 h];simp[h]
 ·rw[a8 (by simp[b];omega),a8 (by rw[m];omega)]
def HJ{t u ty e:o0}{i:TypeInfo}{z:y9}(j:P.underlying t=some (.slice e))(k:P.underlying u=some (.int .i64))(l:P.info? e=some i)(m:i.zero=some z){n:Nat}(o:0<n)(p:0<i.size)(q:n<=4294967296)(x:n*i.bytes<=140737488355328)(w:xH):
  (Builtin.append_ #[t,u] ty #[.slice none 0 0,.int .i64 (n:Int)]).run P w=.ok (.slice (some ⟨w.heap.size,0,none⟩) n (grownCap w n 0 e)) (w.drew.alloc (.cells (Builtin.zeroCells z.cells n++Builtin.zeroCells z.cells (grownCap w n 0 e-n)) e)):=by
 have g:n≠0:=x3;have r:IntKind.i64.wrap (n:Int)=(n:Int):=Le _ x3;have s:¬((n:Int)<0):=x3;have v:¬(281474976710656<(n:Int)*(i.bytes:Int)):=by
  omega
 have a:¬(9223372036854775807<(n:Int)):=x3;have b:¬(281474976710656<Builtin.nextslicecap n 0*i.bytes):=by rw[nextslicecap_zero o];omega
 have c:i.size≠0:=x3;have d:¬((n:Int)<=0):=x3;have f:max (n:Int) 0=n:=x3;simp[Builtin.append_,run_underlying j,run_underlying k,sizeOf,typeInfo,zeroValue,l,m,Builtin.lenOf,Builtin.firstCells,g,s,v,a,b,c,r,asInt,asIntOf,f,d,Question.forced,newRow,grownCap];intro h;exact absurd ((Nat.mul_eq_zero.1 h).resolve_left g) c
theorem uL{t u ty:Nat}{c:α->o3}(d:RowT P t t e k bytes)(v:P.underlying u=some (.int .i64))(o:∀x,(c x).length=k)(p:α)(w:∀i z,P.info? e=some i->i.zero=some z->z.cells=(c p).toArray){n:Nat}(A:0<n)(f:n<=4294967296)(q:n*bytes<=140737488355328):
  II P w0 [] (λy:Hp=>.slice y.1 n y.2) (λy:Hp=>Qc e k c (List.replicate n p) y.1 y.2) (Zo .append #[t,u] ty [.slice none 0 0,.int .i64 (n:Int)]):=λW _=>by
 let⟨g,z,r,s,B,C,E⟩:=d.info;have j:=w g z r s;have D:=d.hk;have a:=HJ (P:=P) (ty:=ty) d.ht v r s A (by rw[B];exact D) f (by rw[C];exact q) W;have l:=grownCap_ge W n 0 e;have m:grownCap W n 0 e<=maxLen:=grownCap_le_maxLen W n 0 e (by simp only[maxLen];omega);show Pf P W _ _ _;refine⟨(some ⟨W.heap.size,0,none⟩,grownCap W n 0 e),.bool false,λb=>b=W.heap.size,_,a,((p5 _ W).drew).alloc (L4 _) _,(show _/\_/\_ from⟨rfl,⟨by rw[QT o],.inr ⟨W.heap.size,_,_,by rw[Sl],L7 _,heap_alloc_new W.drew _,by rw[Sl];exact l,m,?_,?_⟩⟩,λb=>⟨λh=>by rw[h];rfl,λh=>(o7 h).symm⟩⟩),λb q=>?_⟩
 ·rw[j];simp only[Array.size_append,size_zeroCells,Rs,o,<- S8]
  grind
 all_goals simp_all[NW]
end
theorem pR(i:TypeInfo)(z:y9)(a:prog.info? 47=some i)(b:i.zero=some z):z.cells=(Zn XM).toArray:=by
 have c:((prog.info? 47).bind λi=>i.zero).map (λz=>z.cells)=some (Zn XM).toArray:=x5
 grind
def CJ:Code->Code
 |.block _ b=>b
 |_=>.skip
def uI:Code->Nat
 |.block i _=>i
 |_=>0
def bb:Code->Code
 |.loop b=>b
 |_=>.skip
def rU:Code->x0h
 |.cond c _ _=>c
 |_=>.tmp 0
def YB:Code->Array Oper
 |.region _ o _=>o
 |_=>#[]
def ed:Code->Nat
 |.region i _ _=>i
 |_=>0
def U9(c:Code):Code:=Zs (bb (CJ c))
def oR(c:Code):x0h:=rU (Zs (QE (bb (CJ c))))
def pc(c:Code):Code:=Zs (QE (QE (bb (CJ c))))
def U0(c:Code):Code:=Zs (CJ (pc c))
def C3(c:Code):Code:=Zs (QE (CJ (pc c)))
def sI(c:Code):x0h:=rU (QE (QE (CJ (pc c))))
def kM(c:Code):Code:=QE (QE (QE (bb (CJ c))))
def su(c:Code):Code:=.block (uI c) (.loop (.seq (U9 c) (.seq (.cond (oR c) .skip (.exit (uI c))) (.seq (.block (uI (pc c)) (.seq (U0 c) (.seq (.region (ed (C3 c)) (YB (C3 c)) false) (.cond (sI c) .ret .skip)))) (kM c)))))
def Ps(o:Oper):Option (x0h×List x0h):=match o.op,o.guard with
 |.call c,none=>(match c.callee with
  |.value f=>some (f,c.args.toList)
  |_=>none)
 |_,_=>none
def Jf(e:Ex)(p:Prop):Prop:=match e with
 |.normal=>p
 |_=>False
variable{f:x0h}{a:Act}{vs:o3}
section
variable{P:xO}{tt:List (Nat×TI)}{w0:xH}
def Qfv{n:Nat}{w:xH}{next b:Act->xH->Prop}{Q:Exit->Act->xH->Prop}(i:MF o=true)(g:∀a w,next a w->b a w)(h:o.wp P a w next Q):o.wpIn Fence.wide n P a w b Q:=by
 refine⟨λ_ _=>trivial,?_⟩;rw[Oper.semAt_eq _ _ _ (λc e=>by unfold MF at i;rw[e]at i;cases i)];revert h;unfold Oper.wp;generalize (execOp a.eval o).run P w=r;intro h;cases r with
 |halt k w=>cases k<;>first|exact h|exact False.elim h
 |ok x w =>
  cases x with
  |value v=>exact g _ _ h
  |skip=>exact g _ _ h
  |defer d=>exact g _ _ h
  |enter f args =>
   refine⟨λh=>(by cases h),(callsIn_wide.2 (show Calls P f args w _ from h)).mono λe j h=>?_⟩;cases e with
   |returned v=>exact g _ _ h
   |panicked c=>exact h
   |outgrown=>exact h
  |row row args=>exact⟨λh=>(by cases h),λc cs _=>let ⟨v,j,r,s⟩:=(show Rows P row args w _ from h) c cs;⟨v,j,g _ _ r,stepsIn_wide.2 s⟩⟩
  |_=>exact False.elim h
theorem FA{n:Nat}{ops:Array Oper}(Q Q':Exit->Act->xH->Prop){m2:List Oper}(i:¬ LetsOut Q')(g:∀c a w,¬ Q' (.panic c) a w)(j:∀a w,Q' .normal a w->wpListIn Fence.wide n P ops Q m2 a w):∀ {m:List Oper} {a:Act} {w:xH},m.all MF=true->wpList P ops Q' m a w->wpListIn Fence.wide n P ops Q (m++m2) a w
 |[],_,_,_,h=>j _ _ h
 |o::m,a,w,q,h=>by
  let⟨s,p⟩:=L5.1 (show(MF o&&m.all MF)=true from q);show wpListIn Fence.wide n P ops Q (o::(m++m2)) a w;unfold wpListIn;unfold wpList at h;split
  ·rename_i k;rw[if_pos k]at h;rcases h with h|h
   ·have d:=Qfv (n:=n) s (λa w=>FA Q _ i g j p) h;refine⟨d.1,?_⟩;revert d;rintro⟨_,d⟩;revert d;generalize (o.semAt Fence.wide.round a.eval).run P w=r;intro d;cases r with
    |halt u w=>cases u<;>first|exact absurd d (g _ _ _)|exact False.elim d
    |ok x w =>
     cases x with
     |enter f args =>
      refine⟨d.1,d.2.mono λe y h=>?_⟩;cases e with
      |returned v=>exact h
      |panicked c=>exact absurd h (g _ _ _)
      |outgrown=>exact absurd h i
     |round l f t a b =>
      refine⟨d.1,d.2.mono λe y h=>?_⟩;cases e with
      |returned v=>exact h
      |panicked c=>exact absurd h (g _ _ _)
      |outgrown=>exact absurd h i
     |_=>exact d
   grind
  ·rename_i k;rw[if_neg k]at h;exact⟨λ_ _=>trivial,FA _ _ i g j p h⟩
def Sat.rebase{w:xH}(h:Sat w0 τ r a w)(e:τ.bs=[])(c:τ.rs=[])(V:xH):Sat V τ e0 a V:=by
 have d:Ag τ r e0:=⟨λi b=>by rw[e]at b;exact absurd b (R4 _),λi b=>by rw[c]at b;exact absurd b (R4 _)⟩
 refine⟨⟨p5 _ _,h.see.size,λk s g=>?_,λi t cs b=>?_,λi R b=>?_,λi b=>?_⟩,⟨λi p b=>?_,λi j p q b=>?_,λi R b=>?_,λi j R R' b=>?_,λi j p R b=>?_⟩,h.defers⟩
 ·let⟨l,f⟩:=h.see.ts k s g;exact⟨by rw[d.den f];exact l,f⟩
 all_goals first|(rw[e]at b;cases b;done)|(rw[c]at b;cases b;done)|(rw[c]at b;exact absurd b (R4 _))
def Pd{l:Nat}{args:List x0h}(b:Ps o=some (f,args))(e:a.eval f=.func (.yield l) #[] #[])(g:args.map a.eval=vs)(W:xH):
  (execOp a.eval o).run P W=(Instr.yield l vs.toArray).run P W/\o.guard=none/\MF o=true:=by
 unfold Ps at b;split at b
 ·rename_i c d h;split at b
  ·rename_i j i;simp only[Option.some.injEq,Prod.mk.injEq]at b;obtain⟨rfl,rfl⟩:=b;refine⟨?_,h,by unfold MF;rw[d]⟩;unfold execOp;rw[d];simp only[resolve,i,e,Deferred.ofValue,xQ,Sem.run_pure,xT,invoke];rw[Kg _ _ _ g];simp
  ·cases b
 ·cases b
end
def QX(fn:Func):Code:=fn.body.getD .skip
def AS{a:xH}(h:Below W.heap.size W a):KpC W a:=⟨h.size,λk o b _=>(h.block k (b8.1 b).1).trans b⟩
def YU{B:Nat}{J:β->xH->Prop}(b:AbidesFrom B J){s:β}{a:xH}(h:Below W.heap.size W a)(c:J s W):J s a :=
 b s W a none c ⟨h.os,h.tape,h.output,h.size,λk d _=>h.block k d⟩ λ_ e=>by cases e
def FU{α:Type}:∀ {l:List α} {i:Nat} {o:α},l[i]?=some o->l=l.take i++o::l.drop (i+1)
 |[],_,_,h=>by simp at h
 |x::l,0,o,h=>by simp at h;simp[h]
 |x::l,i+1,o,h=>by
  have a:l[i]?=some o:=l3 h;show x::l=x::(l.take i++o::l.drop (i+1));rw[<- FU a]
section
variable{P:xO}{tt:List (Nat×TI)}{w0:xH}
def OR(o:YF P tt)(q:P.follows .mixedOrders=true){n:Nat}{c:Code}{d:List Dir}{p:St->List Dir->Prop}{X:Act->xH->Prop}{Q:Exit->Act->xH->Prop}{w:xH}(h:XE P tt (Kj P tt w0) (0,0) w0 c σ d λe g j=>Jf e (p g j))(s:Sat w0 σ r a w)(t:∀g j r' b f,p g j->Sat w0 g r' b f->X b f):c.wpIn Fence.wide n P (Exit.then X Q) a w:=by
 refine wpIn_wide.2 (wp_mono (fL o q (JV o q 9) (0,0) c σ d _ h ⟨L7 _,L7 _⟩ r a w s (λe b f=>e=.normal/\X b f) (λ_ _ _ _ _ h=>by cases h.1) (λ_ _ _ _ _ _ h=>False.elim h) λe g j r' b f k l _ _=>?_) λe b f m=>?_)
 ·cases e with
  |normal=>exact⟨rfl,t g j r' b f k l⟩
  |ret=>exact False.elim k
  |exit i=>exact False.elim k
 ·obtain⟨rfl,m⟩:=m;exact m
def Ny(C:YF P tt)(R:P.follows .mixedOrders=true){c:Code}(hc:su c=c){τ:Nat->St}(g:∀k,(τ k).bs=[]/\(τ k).rs=[]){xs:List α}{l m n:Nat}{enc:α->y9}(df:α)(cl:m+n<=xs.length){F:xH->Prop}(S:∀W O,F W->KpC W O->F O){ci dst:Nat}(ho:(YB (C3 c)).toList[ci]?=some o){args:List x0h}(D:Ps o=some (f,args))(T:o.dst=some dst)(bl:∀k,BF (some dst) (τ k).n=true)(bm:(YB (C3 c)).toList.all MF=true)(h1:∀k W,k<=n->F W->∃d,XE P tt (Kj P tt W) (0,0) W (U9 c) (τ k) d λe σ _=>Jf e (Vz σ (oR c) λs=>s=.val (.bool (decide ((k:Int)<(n:Int))))/\Yb σ (τ k) True))(h2:∀k W,k<n->F W->∃d,XE P tt (Kj P tt W) (0,0) W (U0 c) (τ k) d λe σ d=>Jf e (KC P tt (Kj P tt W) W (ed (C3 c)) (YB (C3 c)) ((YB (C3 c)).toList.take ci) 0 σ d λσ _=>v1 σ f λfv=>vL σ args λvs=>fv=.func (.yield l) #[] #[]/\vs=[enc (xs.getD (m+k) df)]/\Yb σ (τ k) True))(h3:∀k W b,k<n->∃d,KC P tt (Kj P tt W) W (ed (C3 c)) (YB (C3 c)) ((YB (C3 c)).toList.drop (ci+1)) (ci+1) ((τ k).push (some dst) (bV b)) d λσ _=>Vz σ (sI c) λs=>s=.val (.bool (!b))/\Yb σ (τ k) True)(h4:∀k W,k<n->∃d,XE P tt (Kj P tt W) (0,0) W (kM c) (τ k) d λe σ _=>Jf e (Yb σ (τ (k+1)) True)){J Jx:List {x // x∈xs}->xH->Prop}{B:Nat}(hJ:AbidesFrom B J)(bn:AbidesFrom B Jx)(hY:∀pre x W1,J pre W1->pre.length<xs.length->YieldAt Fence.wide 7 P l #[enc x.1] W1 λe O=>(e=.returned (.bool true)/\J (pre++[x]) O/\KpC W1 O)\/(e=.returned (.bool false)/\Jx (pre++[x]) O)){Q:Exit->Act->xH->Prop}{w:xH}(hS:Sat w0 (τ 0) r a w)(y:F w)(E:J (xs.attach.take m) w)(G:∀U W,Sat W (τ n) e0 U W->F W->J (xs.attach.take (m+n)) W->Q .normal U W)(H:∀U W pre,Jx pre W->U.defers=[]->Q .ret U W):c.wpIn Fence.wide 8 P Q a w:=by
 rw[<- hc];unfold su;refine wpIn_block (Du (λk a w=>k<=n/\Sat w (τ k) e0 a w/\F w/\J (xs.attach.take (m+k)) w) (λk=>n-k) (λk a w bp=>?_) 0 ⟨L7 _,hS.rebase (g 0).1 (g 0).2 w,y,E⟩);let⟨hk,hS,y,E⟩:=bp;let⟨d1,e1⟩:=h1 k w hk y;refine wpIn_seq (OR C R e1 hS λσ1 _ r1 a1 I hp K=>?_);let⟨s,q1,q2,q3⟩:=QI hp;have he:=(QB K.see q1).1;rw[q2]at he;have X:=((Q3 w q3).2 _ _ _ K).rebase (g k).1 (g k).2 I;have Y:=K.see.low;have L:=S _ _ y (AS Y);have Z:=YU hJ Y E;by_cases q:k<n
 ·refine wpIn_seq (wpIn_cond_true (by rw[he];simp[SV.den,q]) (wpIn_skip ?_));refine wpIn_seq (wpIn_block ?_);let⟨d2,e2⟩:=h2 k I q L;refine wpIn_seq (OR C R e2 X λσ2 d2 r2 a2 w2 bq bu=>?_);refine wpIn_seq (wpIn_region_list ?_);have t:=bm;have bv:=FU ho;generalize YB (C3 c)=j at *;rw[bv]at t ⊢;rw[List.all_append,Lx]at t;let⟨n1,n2⟩:=t;let⟨_,n3⟩:=L5.1 (show(MF o&&(j.toList.drop (ci+1)).all MF)=true from n2);refine FA _ (λe a w=>e=.normal/\wpListIn Fence.wide 8 P j _ (o::j.toList.drop (ci+1)) a w) (λ⟨_,_,h,_⟩=>by cases h) (λ_ _ _ h=>by cases h.1) (λ_ _ h=>h.2) n1 (VA C (JV C R 9) _ 0 σ2 d2 _ bq r2 a2 w2 bu _ (λ_ _ _ _ _ _ h=>False.elim h) λσ3 d3 r3 a3 w3 M z _ _=>⟨rfl,?_⟩);let⟨fv,M,bX⟩:=Xr I M;obtain⟨vs,⟨rfl,rfl,ad⟩,bY⟩:=Br I M;have ag:=z.see.low;have ca:=S _ _ L (AS ag);have cb:=YU hJ ag Z;let⟨y1,y2,y3⟩:=Pd (P:=P) D (bX r3 a3 w3 z.see) (bY r3 a3 w3 z.see) w3;let⟨fn,tmps,assign,body,y4,y5⟩:=hY _ ⟨xs[m+k],Rr x3⟩ w3 cb (by rw[Ll,List.length_attach];omega);unfold wpListIn;rw[if_pos (by unfold Region.wanted;rw[y2])];refine⟨λ_ _=>trivial,?_⟩;rw[Oper.semAt_eq _ _ _ (λc e=>by unfold MF at y3;rw[e]at y3;cases y3),y1,show xs.getD (m+k) df=xs[m+k]from YZ x3,y4];refine⟨λh=>(by cases h),y5.mono λe v hr=>?_⟩;have ao:=λV=>((Q3 I ad).2 _ _ _ z).rebase (g k).1 (g k).2 V
  have after:∀(b:Bool) (v:xH) {Qr:Exit->Act->xH->Prop},(∀N r5 A p,Vz N (sI c) (λs=>s=.val (.bool (!b))/\Yb N (τ k) True)->Sat v N r5 A p->Qr .normal A p)->wpListIn Fence.wide 8 P j Qr (j.toList.drop (ci+1)) (a3.put o.dst (.bool b)) v:=λb v Qr hq=>by
   let⟨d5,e5⟩:=h3 k v b q;have cc:=(ao v).put (s:=bV b) (bl k) rfl;have h6:=FA Qr (λe a w=>e=.normal/\Qr .normal a w) (λ⟨_,_,h,_⟩=>by cases h) (λ_ _ _ h=>by cases h.1) (λ_ _ h=>h.2) (n:=8) (P:=P) (ops:=j) (m2:=[]) n3 (VA C (JV C R 9) _ (ci+1) _ d5 _ e5 e0 _ v cc _ (λ_ _ _ _ _ _ h=>False.elim h) λN d5 r5 A p u i _ _=>⟨rfl,hq N r5 A p u i⟩);rw[Rq]at h6;rw[T];exact h6
  rcases hr with⟨rfl,cd,cf⟩|⟨rfl,aw⟩
  ·refine after true v λN r5 A p u i=>?_
   let⟨s,u1,u2,u3⟩:=QI u;have hu:=(QB i.see u1).1;rw[u2]at hu;refine wpIn_cond_false (by rw[hu];rfl) (wpIn_skip ?_);have aB:=((Q3 v u3).2 _ _ _ i).rebase (g k).1 (g k).2 p;have bc:=i.see.low;have ch:=S _ _ (S _ _ ca cf) (AS bc);have cj:=YU hJ bc cd;let⟨d6,e6⟩:=h4 k p q;show(kM c).wpIn Fence.wide 8 P _ A p;refine OR C R e6 aB λσ6 _ r6 a6 w6 ck bd=>?_
   have bi:=bd.see.low;refine⟨k+1,⟨q,((Q3 p ck).2 _ _ _ bd).rebase (g (k+1)).1 (g (k+1)).2 w6,S _ _ ch (AS bi),?_⟩,x3⟩;have h7:=YU hJ bi cj;rw[show m+(k+1)=m+k+1 by omega,Rj (by rw[List.length_attach];omega),List.getElem_attach];exact h7
  ·refine after false v λN r5 A p u i=>?_
   let⟨s,u1,u2,u3⟩:=QI u;have hu:=(QB i.see u1).1;rw[u2]at hu;refine wpIn_cond_true (by rw[hu];rfl) (wpIn_ret ?_);show Q .ret A p;exact H A p _ (YU bn i.see.low aw) i.defers
 ·have bk:k=n:=x3;subst bk;refine wpIn_seq (wpIn_cond_false (by rw[he];simp[SV.den]) (wpIn_exit ?_));show(if uI c=uI c then Q .normal a1 I else _);rw[if_pos rfl];exact G a1 I X L Z
end
def oX(c:Code)(i:Nat):Oper:=((YB c).toList[i]?).getD default
variable{b:Array Oper}
theorem E5{i:Nat}{K:Act->xH->Prop}(c:b[i]?=some o)(d:o.guard=none)(h:o.wp P a w K Q):wpOp P b Q i K a w:=by
 grind[wpOp,Region.wanted]
section
variable{P:xO}{Q:Exit->Act->xH->Prop}
theorem gO(t x d:Nat)(v:y9){a:Act}{w:xH}{K:Act->xH->Prop}(b:o.op=.load t (.tmp x))(c:o.dst=some d)(h:(Instr.loadAt t (a.tmps.getD x undef)).run P w=.ok v w)(f:K (a.put (some d) v) w):o.wp P a w K Q:=by
 unfold Oper.wp;have e:(execOp a.eval o).run P w=.ok (.value v) w:=by
  unfold execOp;rw[b];simp only[xQ];rw[show a.eval (.tmp x)=a.tmps.getD x undef from rfl,h];rfl
 rw[e];show K (a.put o.dst v) w
 grind
def WN(t x y:Nat){a:Act}{w b:xH}{K:Act->xH->Prop}(c:o.op=.store t (.tmp x) (.tmp y))(d:o.dst=none)(h:(Instr.storeAt t (a.tmps.getD x undef) (a.tmps.getD y undef)).run P w=.ok () b)(f:K a b):o.wp P a w K Q:=by
 unfold Oper.wp;have e:(execOp a.eval o).run P w=.ok .skip b:=by
  unfold execOp;rw[c];simp only[xQ];rw[show a.eval (.tmp x)=a.tmps.getD x undef from rfl,show a.eval (.tmp y)=a.tmps.getD y undef from rfl,h];rfl
 rw[e];show K (a.put o.dst undef) b;rw[d];exact f
theorem oY{a:Act}{w:xH}{K:Act->xH->Prop}(b:o.op=.assign (.const v))(c:o.dst=some d)(f:K (a.put (some d) v) w):o.wp P a w K Q:=by
 unfold Oper.wp;have e:(execOp a.eval o).run P w=.ok (.value v) w:=by
  unfold execOp;rw[b];rfl
 rw[e];show K (a.put o.dst v) w
 grind
end
structure ShK (W:World) (N b1 b2:Nat) (lv dp:Int) (l0 l1 l4:Bool) (a:Act) (w:World):Prop where
 sz:a.tmps.size=N
 df:a.defers=[]
 p2:a.tmps.getD 2 undef=.pointer (some ⟨b1,0,none⟩)
 p3:a.tmps.getD 3 undef=.pointer (some ⟨b2,0,none⟩)
 v0:l0=true->a.tmps.getD 10 undef=.int .i64 lv
 v1:l1=true->a.tmps.getD 11 undef=.int .i64 dp
 v4:l4=true->a.tmps.getD 4 undef=.bool true
 x1:Bx w b1 3 #[.int .i64 lv]
 x2:Bx w b2 3 #[.int .i64 dp]
 lo:Below W.heap.size W w
 n1:W.heap.size<=b1
 n2:W.heap.size<=b2
theorem Z5(h:d≠k):(a.put (some d) v).tmps.getD k undef=a.tmps.getD k undef:=by
 show(a.tmps.setIfInBounds d v).getD k undef=_;simp_all
theorem BV(h:d<a.tmps.size):(a.put (some d) v).tmps.getD d undef=v:=by
 show(a.tmps.setIfInBounds d v).getD d undef=_;simp_all
section
variable{W:xH}{N b1 b2:Nat}{lv dp:Int}{l0 l1 l4:Bool}{a:Act}{w:xH}
def ShK.s0(h:ShK W N b1 b2 lv dp l0 l1 l4 a w)(b:12<=N):ShK W N b1 b2 lv dp true l1 l4 (a.put (some 10) (.int .i64 lv)) w :=
 ⟨by simp[Act.put,h.sz],h.df,(Z5 x4).trans h.p2,(Z5 x4).trans h.p3,λ_=>BV (by rw[h.sz];omega),λe=>(Z5 x4).trans (h.v1 e),λe=>(Z5 x4).trans (h.v4 e),h.x1,h.x2,h.lo,h.n1,h.n2⟩
def ShK.s1(h:ShK W N b1 b2 lv dp l0 l1 l4 a w)(b:12<=N):ShK W N b1 b2 lv dp l0 true l4 (a.put (some 11) (.int .i64 dp)) w :=
 ⟨by simp[Act.put,h.sz],h.df,(Z5 x4).trans h.p2,(Z5 x4).trans h.p3,λe=>(Z5 x4).trans (h.v0 e),λ_=>BV (by rw[h.sz];omega),λe=>(Z5 x4).trans (h.v4 e),h.x1,h.x2,h.lo,h.n1,h.n2⟩
def ShK.s4(h:ShK W N b1 b2 lv dp l0 l1 l4 a w)(b:12<=N):ShK W N b1 b2 lv dp l0 l1 true (a.put (some 4) (.bool true)) w :=
 ⟨by simp[Act.put,h.sz],h.df,(Z5 x4).trans h.p2,(Z5 x4).trans h.p3,λe=>(Z5 x4).trans (h.v0 e),λe=>(Z5 x4).trans (h.v1 e),λ_=>BV (by rw[h.sz];omega),h.x1,h.x2,h.lo,h.n1,h.n2⟩
def ShK.put(h:ShK W N b1 b2 lv dp l0 l1 l4 a w)(b:xH)(c:Bx b b1 3 #[.int .i64 lv])(d:Bx b b2 3 #[.int .i64 dp])(e:Below W.heap.size W b):ShK W N b1 b2 lv dp l0 l1 l4 a b :=
 ⟨h.sz,h.df,h.p2,h.p3,h.v0,h.v1,h.v4,c,d,e,h.n1,h.n2⟩
theorem Na{b:Nat}{z:Int}{w:xH}(h:Bx w b 3 #[.int .i64 z]):∃c,(Instr.storeAt 3 (.pointer (some ⟨b,0,none⟩)) (.int .i64 z)).run prog w=.ok () c/\(∀g t cs,Bx w g t cs->Bx c g t cs)/\(∀B,B<=b->Below B w c):=by
 have a:=Vo prog 3 0 (.int .i64 z) (Qm 3 _ rfl) h rfl (L4 1) (λv i=>by obtain rfl:=Ly.1 (show v∈[Value.int .i64 z]from i);rfl);refine⟨_,a,λg t cs d=>?_,λB l=>?_⟩
 ·by_cases e:g=b
  ·subst e;have j:=h.stores [.int .i64 z] 0;have f:=(show w.heap[g]?=some (.cells #[.int .i64 z] 3 (0,0))from h).symm.trans (show w.heap[g]?=some (.cells cs t (0,0))from d);simp only[Option.some.injEq,Obj.cells.injEq,and_true]at f;obtain⟨rfl,rfl⟩:=f;exact j
  ·exact d.farN e _ _
 ·refine⟨rfl,rfl,rfl,?_,λk m=>?_⟩;all_goals grind[Jd,JC]
end
theorem wz{N b1 b2:Nat}{lv dp:Int}(h:ShK W N b1 b2 lv dp true true true a w)(m:b1≠b2):
  Sat W (⟨N,[(2,.ptr 0 0),(3,.ptr 1 0),(4,bV true)],[some (3,[iV lv]),some (3,[iV dp])],[]⟩:St) ⟨λi=>if i=0 then b1 else b2,λ_=>.bool false,λ_ _=>False⟩ a w:=by
 have g:∀i p,Xq [some (3,[SV.val (.int .i64 lv)]),some (3,[SV.val (.int .i64 dp)])] i=some p->(i=0/\p=(3,[SV.val (.int .i64 lv)]))\/(i=1/\p=(3,[SV.val (.int .i64 dp)])):=λi p b=>by
  match i,b with
  |0,b=>exact .inl ⟨rfl,(o7 b).symm⟩
  |1,b=>exact .inr ⟨rfl,(o7 b).symm⟩
  |n+2,b=>cases b
 refine⟨⟨h.lo,h.sz,λk s c=>?_,λi t cs b=>?_,(λi R b=>nomatch b),(λi b=>absurd b (R4 _))⟩,⟨λi p b=>?_,λi j p q b l o=>?_,(λi R b=>nomatch b),(λi j R R' b=>nomatch b),(λi j p R b l=>nomatch l)⟩,h.df⟩
 ·match k,c with
  |0,c=>cases c
  |1,c=>cases c
  |2,c=>obtain rfl:=o7 c;exact⟨h.p2,rfl⟩
  |3,c=>obtain rfl:=o7 c;exact⟨h.p3,rfl⟩
  |4,c=>obtain rfl:=o7 c;exact⟨h.v4 rfl,rfl⟩
  |n+5,c=>cases c
 ·rcases g i _ b with⟨rfl,e⟩|⟨rfl,e⟩
  ·injection e with d f;subst d;subst f;exact⟨h.x1,rfl⟩
  ·injection e with d f;subst d;subst f;exact⟨h.x2,rfl⟩
 ·rcases g i p b with⟨rfl,_⟩|⟨rfl,_⟩
  ·exact h.n1
  ·exact h.n2
 grind
noncomputable def shT:Code:=K7 3 f102
def kH(W:xH)(N b1 b2:Nat)(lv dp:Int)(l:12<=N)(h:ShK W N b1 b2 lv dp false false false a w)(z:∀b c,ShK W N b1 b2 lv dp true true true b c->Q .ret b c):shT.wp prog Q a w:=by
 rw[show shT=.seq (.region 4 (YB (Zs shT)) true) .ret from x5];have A:(YB (Zs shT))[0]?=some (oX (Zs shT) 0):=x5;have B:(YB (Zs shT))[1]?=some (oX (Zs shT) 1):=x5;have C:(YB (Zs shT))[2]?=some (oX (Zs shT) 2):=x5;have D:(YB (Zs shT))[3]?=some (oX (Zs shT) 3):=x5;have E:(YB (Zs shT))[4]?=some (oX (Zs shT) 4):=x5;refine wp_seq (wp_region_any QU ?_);rw[show(YB (Zs shT)).size=5 from x5];have k:∀ {K:Act->xH->Prop} {l0 l1 l4:Bool} {a:Act} {w:xH},ShK W N b1 b2 lv dp l0 l1 l4 a w->(∀c,ShK W N b1 b2 lv dp l0 l1 l4 a c->K a c)->(l0=true->wpOp prog (YB (Zs shT)) (Exit.then (Code.ret.wp prog Q) Q) 2 K a w)/\(l1=true->wpOp prog (YB (Zs shT)) (Exit.then (Code.ret.wp prog Q) Q) 3 K a w):=λ{K l0 l1 l4 a w} h g=>by
  constructor
  ·intro m;let⟨c,r1,j,n⟩:=Na h.x1;refine E5 C x5 (WN 3 2 10 x5 x5 (by rw[h.p2,h.v0 m];exact r1) (g c (h.put c (j _ _ _ h.x1) (j _ _ _ h.x2) (h.lo.trans (n _ h.n1)))))
  ·intro m;let⟨c,r1,j,n⟩:=Na h.x2;refine E5 D x5 (WN 3 3 11 x5 x5 (by rw[h.p3,h.v1 m];exact r1) (g c (h.put c (j _ _ _ h.x1) (j _ _ _ h.x2) (h.lo.trans (n _ h.n2)))))
 have q:∀ {K:Act->xH->Prop} {l0 l1 l4:Bool} {a:Act} {w:xH},ShK W N b1 b2 lv dp l0 l1 l4 a w->(∀b,ShK W N b1 b2 lv dp true l1 l4 b w->K b w)->wpOp prog (YB (Zs shT)) (Exit.then (Code.ret.wp prog Q) Q) 0 K a w:=λ{K l0 l1 l4 a w} h g =>
  E5 A x5 (gO 3 2 10 (.int .i64 lv) x5 x5 (by rw[h.p2];exact Ze _ h.x1 rfl (cs:=[.int .i64 lv]) _ (p5 _ _)) (g _ (h.s0 l)))
 have k1:∀ {K:Act->xH->Prop} {l0 l1 l4:Bool} {a:Act} {w:xH},ShK W N b1 b2 lv dp l0 l1 l4 a w->(∀b,ShK W N b1 b2 lv dp l0 true l4 b w->K b w)->wpOp prog (YB (Zs shT)) (Exit.then (Code.ret.wp prog Q) Q) 1 K a w:=λ{K l0 l1 l4 a w} h g =>
  E5 B x5 (gO 3 3 11 (.int .i64 dp) x5 x5 (by rw[h.p3];exact Ze _ h.x2 rfl (cs:=[.int .i64 dp]) _ (p5 _ _)) (g _ (h.s1 l)))
 have F:∀a w,ShK W N b1 b2 lv dp true true false a w->wpAny prog .any (YB (Zs shT)) (Exit.then (Code.ret.wp prog Q) Q) 1 #[true,true,true,true,false] a w:=λa w h =>
  wpAny_all (rs:=[4]) x5 x6 λi e=>by
   obtain rfl:=Ly.1 e;refine E5 E x5 (oY (d:=4) (v:=.bool true) x5 x5 ?_);exact wpAny_done x5 (wp_ret (z _ _ (h.s4 l))) 0
 have r:∀a w,ShK W N b1 b2 lv dp true true false a w->wpAny prog .any (YB (Zs shT)) (Exit.then (Code.ret.wp prog Q) Q) 2 #[true,true,true,false,false] a w:=λa w h =>
  wpAny_all (rs:=[3]) x5 x6 λi e=>by
   obtain rfl:=Ly.1 e;exact(k h λc f=>F a c f).2 rfl
 have s:∀a w,ShK W N b1 b2 lv dp true true false a w->wpAny prog .any (YB (Zs shT)) (Exit.then (Code.ret.wp prog Q) Q) 3 #[true,true,false,false,false] a w:=λa w h =>
  wpAny_all (rs:=[2]) x5 x6 λi e=>by
   obtain rfl:=Ly.1 e;exact(k h λc f=>r a c f).1 rfl
 have o:∀a w,ShK W N b1 b2 lv dp true false false a w->wpAny prog .any (YB (Zs shT)) (Exit.then (Code.ret.wp prog Q) Q) 3 #[true,false,true,false,false] a w:=λa w h =>
  wpAny_all (rs:=[1]) x5 x6 λi e=>by
   obtain rfl:=Ly.1 e;exact k1 h λb f=>r b w f
 have G:∀a w,ShK W N b1 b2 lv dp true false false a w->wpAny prog .any (YB (Zs shT)) (Exit.then (Code.ret.wp prog Q) Q) 4 #[true,false,false,false,false] a w:=λa w h =>
  wpAny_all (rs:=[1,2]) x5 x6 λi e=>by
   rcases Lb.1 e with rfl|e
   ·exact k1 h λb f=>s b w f
   ·obtain rfl:=Ly.1 e;exact(k h λc f=>o a c f).1 rfl
 have p:∀a w,ShK W N b1 b2 lv dp false true false a w->wpAny prog .any (YB (Zs shT)) (Exit.then (Code.ret.wp prog Q) Q) 4 #[false,true,false,false,false] a w:=λa w h =>
  wpAny_all (rs:=[0]) x5 x6 λi e=>by
   obtain rfl:=Ly.1 e;exact q h λb f=>s b w f
 have u:ShK W N b1 b2 lv dp false false false a { w with drawn:=w.drawn+1 }:=h.put _ h.x1.drew h.x2.drew h.lo.drew;refine wpAny_all (rs:=[0,1]) x5 x6 λi e=>?_
 rcases Lb.1 e with rfl|e
 ·exact q u λb f=>G b _ f
 ·obtain rfl:=Ly.1 e;exact k1 u λb f=>p b _ f
def Hs(o i:Bool)(nb:Nat)(t b:Int):Int:=bif !o then 1 else bif !i then 3 else bif (nb:Int)==0 then t else b
def tg{e:xN}{f:Nat}{vs h k l:y9}(o i:Bool)(t:Int)(x:PV)(p:x.box.length<=4294967296)(m:∀s,s∈x.box->okN s.1/\okN s.2)(w:xH)(n:QV w)(q:RdK w e x.box.length 6 (λj=>JR (QN x.box j)))(r:∀W,Below w.heap.size w W->RetAt prog W 26 #[yA x (Ω e x.box.length f) vs h k l] (Ξ o))(u:∀W,Below w.heap.size w W->(!o)=false->RetAt prog W 27 #[yA x (Ω e x.box.length f) vs h k l] (Ξ i))(v:∀W,Below w.heap.size w W->(!o)=false->(!i)=false->((x.box.length:Int)==0)=true->RetAt prog W 28 #[vs] (Θ t)):RetAt prog w 16 #[yA x (Ω e x.box.length f) vs h k l] (Θ (Hs o i x.box.length t (Xc x.box))) :=
 rk [x04 1 1 (bV o),.both [] [x04 3 1 (bV i),.both [] [.both [x04 6 3 (iV t)] [x04 7 3 (iV (Xc x.box))]]]] λW b z=>have y:=q.up b (λ_=>rfl);(λ(n:QV W)=>ai (r W b)<|Xi (!o) (λa=>(show(Θ 1:y9)=Θ (Hs o i x.box.length t (Xc x.box))from by unfold Hs;rw[a];rfl)) λa=>ai (u W b a)<|Xi (!i) (λd=>(show(Θ 3:y9)=Θ (Hs o i x.box.length t (Xc x.box))from by unfold Hs;rw[a,d];rfl)) λd=>Xi ((x.box.length:Int)==0) (λg=>ai (v W b a d g)<|(show(Θ t:y9)=Θ (Hs o i x.box.length t (Xc x.box))from by unfold Hs;rw[a,d,g];rfl)) λg=>ai (zh (c:=f) p m W n y)<|(show(Θ (Xc x.box):y9)=Θ (Hs o i x.box.length t (Xc x.box))from by unfold Hs;rw[a,d,g];rfl)) (Ql n b)
def Zx(e k:Nat)(c:α->o3)(l:List α)(A:xN)(cp:Nat):Res where
 φ x S w:=(Qc e k c l A cp).φ x S w\/(x.oneCell'=true/\l=[]/\cp=0/\(∃g,A=some ⟨g,0,none⟩)/\∀b,¬ S b)
 one x S w h:=by
  rcases h with h|h
  ·exact(Qc e k c l A cp).one x S w h
  ·exact h.1
 loc x S w w' h hφ:=by
  rcases hφ with a|a
  ·exact .inl ((Qc e k c l A cp).loc x S w w' h a)
  ·exact .inr a
variable{cp:Nat}
def l5{c:α->o3}{l:List α}{A:xN}{x a:y9}(b:a.oneCell'=true)(h:(Zx e k c l A cp).φ x S w):(Zx e k c l A cp).φ a S w:=by
 rcases(show _\/_ from h)with h|h
 ·exact(show _\/_ from .inl (Ak b h))
 ·exact(show _\/_ from .inr ⟨b,h.2⟩)
theorem IU{c:α->o3}{l a:List α}{A:xN}(b:l=a){x:y9}(h:(Zx e k c l A cp).φ x S w):(Zx e k c a A cp).φ x S w:=by
 grind
theorem l6{c:α->o3}(a:∀x,(c x).length=k){l:List α}(d:α){A:xN}{x:y9}(h:(Zx e k c l A cp).φ x S w):RdK w A l.length k (λj=>c (l.getD j d)):=by
 rcases(show _\/_ from h)with h|h
 ·have b:=Mh (L:=LP.known λj=>c (l.getD j d)) a d (λi o S w=>rfl) h;let⟨f,p,_,g,m,_⟩:=PP b;exact RdK.congr g λj n=>m j n
 ·intro q
  grind
variable{u:y9}
section
variable{P:xO}{w0:xH}
def Ff(w0:xH)(e k:Nat)(c:α->o3)(a:∀x,(c x).length=k)(l:List α)(d:α)(A:xN)(cp:Nat){M:Sem y9}{R:y9}(h:∀W,RdK W A l.length k (λj=>c (l.getD j d))->Qp P W M R):GJ P w0 [Zx e k c l A cp] M R:=λW _ x S b=>h W (l6 a d b) W (p5 _ _)
theorem N1{t o:Nat}(ty:Nat){c:α->o3}{a:List α}(d:RowT P t o e k bytes)(p:∀x,(c x).length=k)(Q:∀x u,u∈c x->u.oneCell'=true)(H:a.length*bytes<=140737488355328){W:xH}(B:BO c a W u)(g:Nat):
  ∃r f q,(Builtin.append_ #[t,o] ty #[.slice (some ⟨g,0,none⟩) 0 0,u]).run P W=.ok (.slice r a.length f) q/\W.grownBy q none/\((a=[]/\r=some ⟨g,0,none⟩/\f=0/\q=W)\/q.ownsRow W.heap.size e k (.slice r a.length f) a.length (a.flatMap c)):=by
 let⟨b,z,s,I,J,K,L⟩:=d.info;let⟨M,i⟩:=d.ht2;by_cases C:a=[]
 ·subst C;refine⟨some ⟨g,0,none⟩,0,W,?_,⟨rfl,rfl,rfl,L4 _,λ_ _ _=>rfl⟩,.inl ⟨rfl,rfl,rfl,rfl⟩⟩;rcases B with⟨D,m,n,_⟩|⟨n,_⟩
  ·rw[n];refine run_append_nothing (P:=P) W t o ty e b d.ht s _ 0 0 (L4 _) _ ⟨.inl ⟨_,i⟩,λ_=>?_,?_,?_,?_,λu w=>(by cases w)⟩
   ·simp[Builtin.lenOf]
   ·simp[Builtin.firstCells,loadCells,loadCellsFrom]
   ·simp[Builtin.firstCells,loadCells,loadCellsFrom]
   ·simp
  ·rw[n];refine run_append_nothing (P:=P) W t o ty e b d.ht s _ 0 0 (L4 _) _ ⟨.inl ⟨_,i⟩,λ_=>?_,?_,?_,?_,λu w=>(by cases w)⟩;all_goals simp[Builtin.lenOf,Builtin.firstCells]
 ·have E:0<a.length:=by
   grind
  rcases B with⟨D,m,n,l⟩|⟨_,e0⟩
  ·have y:(a.flatMap c).length=a.length*b.size:=by rw[QT p,J]
   have F:a.length<=maxLen:=by
    have R:a.length<=a.length*bytes:=Rz _ d.hb;simp only[maxLen];omega
   have A:(0+a.length)*b.bytes<=140737488355328:=by rw[Lm,K];exact H
   have G:=run_append_grow (P:=P) W t ty e b z d.ht s I ⟨g,0,none⟩ 0 0 [] x6 (λj v h=>by cases j<;>cases h) D a.length m (a.flatMap c) y l x3 (by simp only[maxLen]at F;omega) (growslice_fits x3 A)
   rw[Lm]at G;refine⟨some ⟨W.heap.size,0,none⟩,grownCap W a.length 0 e,W.drew.alloc (.cells (([]:o3).toArray++(a.flatMap c).toArray++Builtin.zeroCells z.cells (grownCap W a.length 0 e-a.length)) e),?_,?_,.inr ⟨QT p a,.inr ⟨W.heap.size,_,_,rfl,L4 _,heap_alloc_new W.drew _,grownCap_ge W a.length 0 e,grownCap_le_maxLen W a.length 0 e F,?_,?_⟩⟩⟩
   ·rw[n,Dw d.ht i];exact G
   ·exact⟨rfl,rfl,rfl,x6,λk N _=>heap_alloc_old W.drew _ N⟩
   ·have O:=grownCap_ge W a.length 0 e;simp only[Array.size_append,Rs,size_zeroCells,L,QT p a,S9,Lm,<- S8];congr 1;omega
   ·simp only[Array.toList_append,V2];rw[show a.length*k=(a.flatMap c).length from(QT p a).symm];exact List.take_left
  ·exact absurd e0 C
def sP{t m:Nat}(ty:Nat)(c:α->o3)(l2:List α)(o:RowT P t m e k bytes)(p:∀x,(c x).length=k)(q:∀x u,u∈c x->u.oneCell'=true)(i:l2.length*bytes<=140737488355328){W:xH}(r:BO c l2 W u)(g:Nat):
  Pf P W (λy:Hp=>.slice y.1 l2.length y.2) (λy:Hp=>Zx e k c l2 y.1 y.2) (Zo .append #[t,m] ty [.slice (some ⟨g,0,none⟩) 0 0,u]):=by
 let⟨j,d,l,n,s,f⟩:=N1 ty o p q i r g;have a:Below W.heap.size W l:=by
  let⟨v,w,z,A,B⟩:=s;exact⟨v,w,z,A,λk C=>B k C x6⟩
 rcases f with⟨D,E,F,G⟩|f
 ·exact⟨(j,d),.bool false,λ_=>False,l,n,a,(show _\/_ from .inr ⟨rfl,D,F,⟨g,E⟩,λ_ h=>h⟩),λ_ h=>h.elim⟩
 ·refine⟨(j,d),.bool false,λb=>(Value.slice j l2.length d).ownBlock=some b,l,n,a,(show _\/_ from .inl (show _/\_/\_ from⟨rfl,f.mono (L7 _),λb=>Iff.rfl⟩)),λb i=>f.lt b i⟩
theorem fu{t w q:Nat}{c:α->o3}{l m f:List α}{A:xN}(z:RowT P t w e k bytes)(B:∀x,(c x).length=k)(C:∀x u,u∈c x->u.oneCell'=true)(D:l++m=f)(i:f.length*bytes<=140737488355328){W:xH}(E:BO c m W u){x:y9}(F:(Zx e k c l A cp).φ x S W):Gc P W (λy:Hp=>.slice y.1 f.length y.2) (λy:Hp=>Zx e k c f y.1 y.2) x S (Zo .append #[t,w] q [.slice A l.length cp,u]):=by
 rcases(show _\/_ from F)with h|⟨j,G,H,⟨g,I⟩,N⟩
 ·let⟨y,J,n,k1,o,p,a⟩:=Ih (ty:=q) z B C D i E h;exact⟨y,J,n,k1,o,(show _\/_ from .inl p),a⟩
 ·subst G H I;have r:m=f:=D;subst r;let⟨s,d,n,o,p,a⟩:=N1 q z B C i E g;rcases a with⟨K,L,M,O⟩|a
  ·exact⟨(s,d),λ_=>False,n,o,Trn.of_grown p (λk v=>nomatch v),(show _\/_ from .inr ⟨j,K,M,⟨g,L⟩,λ_ h=>h⟩),λ_ h=>h.elim⟩
  ·exact⟨(s,d),λb=>(Value.slice s m.length d).ownBlock=some b,n,o,Trn.of_grown p (λk v=>nomatch v),(show _\/_ from .inl (show _/\_/\_ from⟨j,a.mono (L7 _),λb=>Iff.rfl⟩)),λb i=>⟨.inr (a.lt b i).1,(a.lt b i).2⟩⟩
theorem tm(w0:xH){t a:Nat}(ty:Nat)(c:α->o3)(l l2 l':List α)(A:xN)(cp:Nat)(u:y9)(b:RowT P t a e k bytes)(d:∀x,(c x).length=k)(f:∀x u,u∈c x->u.oneCell'=true)(g:l++l2=l')(h:l'.length*bytes<=140737488355328)(i:∀W,Below w0.heap.size w0 W->BO c l2 W u):
 ∀W,Below w0.heap.size w0 W->∀x S,(Zx e k c l A cp).φ x S W->Gc P W (λy:Hp=>.slice y.1 l'.length y.2) (λy:Hp=>Zx e k c l' y.1 y.2) x S (Zo .append #[t,a] ty [.slice A l.length cp,u]):=by grind[fu]
theorem tn(w0:xH){t b:Nat}(ty:Nat)(bt m cp2:Nat)(c:α->o3)(l l2 l':List α)(A:xN)(cp:Nat)(cs:o3)(d:RowT P t b e k bytes)(f:∀x,(c x).length=k)(h:∀x u,u∈c x->u.oneCell'=true)(i:l++l2=l')(n:l'.length*bytes<=140737488355328)(a:cs=l2.flatMap c)(o:m=l2.length):
  ∀W,Below w0.heap.size w0 W->∀g,Bx W g bt cs.toArray->∀x S,(Zx e k c l A cp).φ x S W->Gc P W (λy:Hp=>.slice y.1 l'.length y.2) (λy:Hp=>Zx e k c l' y.1 y.2) x S (Zo .append #[t,b] ty [.slice A l.length cp,.slice (some ⟨g,0,none⟩) m cp2]) :=
 λW _ g p x S q=>by
  subst o;refine fu d f h i n (.inl ⟨⟨g,0,none⟩,cp2,rfl,λj u r=>?_⟩) q;rw[add_plain,Lm,p.cel,a]
  grind
end
def Mg{l:List α}{f g:α->List β}(h:∀a,a∈l->f a=g a):l.flatMap f=l.flatMap g:=by
 induction l with
 |nil=>rfl
 |cons a l c=>rw[Sn,Sn,h a x6,c λb d=>h b (by simp[d])]
def Da(e k:Nat)(c:α->o3)(pre:Nat->o3)(ls:Nat->List α)(post:Nat->o3):LP where
 p j S w cs:=∃A cp a,(∀b,a b->S b)/\cs=pre j++.slice A (ls j).length cp::post j/\(Zx e k c (ls j) A cp).φ (.bool false) a w
 loc:=by
  rintro j S w l cs h ⟨A,cp,a,d,f,g⟩;exact⟨A,cp,a,d,f,(Zx e k c (ls j) A cp).loc _ _ _ _ (λb i=>h b (d b i)) g⟩
 mono:=by
  rintro j S m w cs h ⟨A,cp,a,d,f,g⟩;exact⟨A,cp,a,λb i=>h b (d b i),f,g⟩
abbrev VU{α:Type}(e k:Nat)(c:α->o3)(pre:Nat->o3)(ls:Nat->List α):LP:=Da e k c pre ls λ_=>[]
theorem ft{c:α->o3}{l:List α}{A:xN}:Pe (Zx e k c l A cp):=λx S w h b a=>by
 rcases(show _\/_ from h)with h|h
 ·exact Ca _ _ _ h b a
 grind
def Qc8{m n:Nat}{L:LP}{A:xN}{x a:y9}(b:a.oneCell'=true)(h:(Qx e m n L A cp).φ x S w):(Qx e m n L A cp).φ a S w:=by
 let⟨_,c⟩:=(show _/\_ from h)
 exact(show _/\_ from⟨b,c⟩)
section
variable{P:xO}{w0:xH}
theorem Wf(w0:xH){t t2:Nat}(ty:Nat){m:Nat}(bt e2 k n n' cp2:Nat)(c:α->o3)(pre:Nat->o3)(ls:Nat->List α)(post:Nat->o3)(A A2:xN)(cp cq:Nat)(cs:o3)(R3:Res)(T:∀x S w,R3.φ x S w->(Zx e2 k c (ls n) A2 cq).φ x S w)(p:RowT P t t2 e m bytes)(hp:∀u,u∈pre n->u.oneCell'=true)(hq:∀u,u∈post n->u.oneCell'=true)(H:n'=n+1)(a:(n+1)*bytes<=140737488355328)(I:cs=pre n++.slice A2 (ls n).length cq::post n)(hm:cs.length=m):
  ∀W,Below w0.heap.size w0 W->∀g,Bx W g bt cs.toArray->∀x S,(Qj (Qx e m n (Da e2 k c pre ls post) A cp) R3).φ x S W->Gc P W (λy:Hp=>.slice y.1 n' y.2) (λy:Hp=>Qx e m n' (Da e2 k c pre ls post) y.1 y.2) x S (Zo .append #[t,t2] ty [.slice A n cp,.slice (some ⟨g,0,none⟩) 1 cp2]):=λW _ g hg x S hφ=>by
 subst H;let⟨S1,J,x2,hG,U,q,D⟩:=(show ∃S1 E x2,_ from hφ)
 have V:=T _ _ _ U;let⟨X,f,E,h0,r,h3,R,K⟩:=(show _/\_ from hG)
 let⟨Y,z,e1,L,e3,e4,e5⟩:=p.info;let⟨bd,Z⟩:=p.ht2;have s:∀u∈cs,u.oneCell'=true:=λu hu=>by
  rw[I]at hu;rcases Lo.1 hu with h|h
  ·exact hp u h
  ·rcases Lb.1 h with rfl|h
   ·rfl
   grind
 have l:∀j u,cs[j]?=some u->W.cell? ((⟨g,0,none⟩:Addr).add j)=some u:=λj u hj=>by
  rw[add_plain,Lm,hg.cel]
  grind
 have v:n+1<=maxLen:=by
  have h2:=p.hb;have h3:n+1<=(n+1)*bytes:=Rz _ h2
  grind[maxLen]
 have M:cs.length=1*m:=by rw[hm,Tl]
 let⟨v',G,B,d,ad,_⟩:=run_append_own (P:=P) W 0 t ty e Y z m bytes p.ht e1 L e3 e4 e5 p.hk _ _ _ r ⟨g,0,none⟩ 1 cp2 cs M l s v a (L7 _);obtain⟨N,o,rfl⟩:∃N o,v'=.slice N (n+1) o:=by
  rcases d.2 with⟨rfl,e6⟩|⟨g,cap,bi,rfl,_⟩
  all_goals grind
 have i:Trn (λb=>(Value.slice A n cp).ownBlock=some b) W G:=Trn.of_grown ad λk hk=>hk
 have O:=Fa p.ht e1 L e3 e4 e5 p.hk r M l s v a B;have F:∀b,b<W.heap.size->(Value.slice A n cp).ownBlock≠some b->G.heap[b]?=W.heap[b]?:=λb a H=>i.block b a H
 have ag:∀b,E b->G.heap[b]?=W.heap[b]?:=λb a=>F b (R b a).2 (R b a).1
 have ao:∀b,J b->G.heap[b]?=W.heap[b]?:=λb a=>F b (ft _ _ _ V b a) λe=>q b ((K b).2 (.inl e)) a
 have C:∀b,E b\/J b->(Value.slice N (n+1) o).ownBlock≠some b/\b<G.heap.size:=λb a=>by
  have aw:b<W.heap.size:=a.elim (λh=>(R b h).2) (λh=>ft _ _ _ V b h);have aB:(Value.slice A n cp).ownBlock≠some b:=a.elim (λh=>(R b h).1) (λh e=>q b ((K b).2 (.inl e)) h);refine⟨λe=>?_,L9 aw i.size⟩;rcases O b e with h|h|h
  ·exact aB h
  ·omega
  ·omega
 have bc:((List.range n).flatMap f++cs)=(List.range (n+1)).flatMap (λj=>if j=n then cs else f j):=by
  rw[S7,Sj];congr 1
  ·refine Mg λj hj=>?_
   rw[if_neg (x8 (R7.1 hj))]
  ·simp
 rw[bc]at d;refine⟨(N,o),λb=>(Value.slice N (n+1) o).ownBlock=some b\/E b\/J b,G,?_,⟨i.os,i.tape,i.output,i.size,λb a H=>F b a λe=>H ((D b).2 (.inl ((K b).2 (.inl e))))⟩,(show _/\_ from⟨X,λj=>if j=n then cs else f j,λb=>E b\/J b,λj=>?_,d,λj hj=>?_,C,λb=>Iff.rfl⟩),λb a=>?_⟩
 ·simp only[Zo];rw[Dw p.ht Z];exact B
 ·dsimp only;split
  ·exact hm
  ·exact h0 j
 ·dsimp only;by_cases Q:j=n
  ·subst Q;rw[if_pos rfl];exact⟨A2,cq,J,λb a=>.inr a,I,(Zx e2 k c (ls j) A2 cq).loc _ _ _ _ ao (l5 rfl V)⟩
  ·rw[if_neg Q];exact(Da e2 k c pre ls post).mono j E _ _ _ (λb a=>.inl a) ((Da e2 k c pre ls post).loc j E W _ _ ag (h3 j x3))
 ·rcases a with a|a
  ·refine⟨?_,(d.lt b a).2⟩;rcases O b a with h|h|h
   ·exact .inl ((D b).2 (.inl ((K b).2 (.inl h))))
   ·exact .inr (Su h.symm)
   ·exact .inr h
  ·refine⟨.inl ((D b).2 (a.elim (λh=>.inl ((K b).2 (.inr h))) .inr)),(C b a).2⟩
def JJ(w0:xH){t:Nat}(ty:Nat){m:Nat}(bt e2 k n n' cp2:Nat)(c:α->o3)(pre:Nat->o3)(ls:Nat->List α)(A A2:xN)(cp cq:Nat)(cs:o3)(R3:Res)(a:∀x S w,R3.φ x S w->(Zx e2 k c (ls n) A2 cq).φ x S w)(f:RowT P t d e m bytes)(i:∀u,u∈pre n->u.oneCell'=true)(j:n'=n+1)(l:(n+1)*bytes<=140737488355328)(b:cs=pre n++[.slice A2 (ls n).length cq])(o:cs.length=m):
  ∀W,Below w0.heap.size w0 W->∀g,Bx W g bt cs.toArray->∀x S,(Qj (Qx e m n (VU e2 k c pre ls) A cp) R3).φ x S W->Gc P W (λy:Hp=>.slice y.1 n' y.2) (λy:Hp=>Qx e m n' (VU e2 k c pre ls) y.1 y.2) x S (Zo .append #[t,d] ty [.slice A n cp,.slice (some ⟨g,0,none⟩) 1 cp2]) :=
 Wf _ _ _ _ _ _ _ _ _ _ _ (λ_=>[]) _ _ _ _ _ _ a f i (λ_ h=>nomatch h) j l b o
end
def tp{a m:Nat}{c:α->o3}{l:List α}{A:xN}(f:∀x,(c x).length=m)(d:α){x:y9}(i:(Zx e m c l A cp).φ x S w)(j:∀b,S b->a<=b):SlV a m (λ_ x cs=>cs=c x) w l (.slice A l.length cp):=by
 rcases(show _\/_ from i)with h|⟨_,rfl,rfl,⟨g,rfl⟩,_⟩
 ·exact im f d h j
 ·exact⟨_,_,rfl,L4 _,λh=>(nomatch h),λh=>absurd h (T4 _)⟩
def CP{a m n:Nat}{p:Rdg β}{l:List β}{c:α->o3}{pre:Nat->o3}{ls:Nat->List α}{A:xN}{x:y9}(i:∀x,(c x).length=k)(d:α)(o:n=l.length)(q:(Qx e m n (VU g k c pre ls) A cp).φ x S w)(r:∀b,S b->a<=b)(s:∀j (h:j<l.length) v,SlV a k (λ_ x cs=>cs=c x) w (ls j) v->p w l[j] (pre j++[v])):SlV a m p w l (.slice A n cp) :=
 fV o q r λj h C cs f t=>by
  let⟨D,u,E,k1,y,z⟩:=t;rw[y];exact s j h _ (tp i d z λb B=>f b (k1 b B))
section
variable{α:Type}{e k cp:Nat}{c:α->List y9}{l:List α}{A:xN}{x:y9}{S:Nat->Prop}{w:xH}
def il(h:(Qc e k c l A cp).φ x S w)(s:0<l.length):x.oneCell'=true/\∃g a,A=some ⟨g,0,none⟩/\Bx w g e a/\l.length<=cp/\cp<=maxLen/\a.size=cp*k/\a.toList.take (l.length*k)=l.flatMap c/\∀b,S b↔b=g:=by
 let⟨f,i,j⟩:=(show _/\_/\_ from h)
 rcases i.2 with⟨_,t⟩|⟨g,cap,a,d,_,m,n,o,p,q⟩
 ·omega
 ·injection d with d _ r
  subst d;subst r;exact⟨f,g,a,rfl,(by simpa [Bx]using m),n,o,p,q,λb=>by rw[j];exact⟨λh=>(o7 h).symm,λh=>by rw[h];rfl⟩⟩
def ee{cur:x0g}{g:Nat}(a:x.oneCell'=true)(d:Bx w g e cur)(f:l.length<=cp)(i:cp<=maxLen)(j:∀x,(c x).length=k)(m:cur.size=cp*k)(n:cur.toList.take (l.length*k)=l.flatMap c)(o:∀b,S b↔b=g):(Qc e k c l (some ⟨g,0,none⟩) cp).φ x S w :=
 (show _/\_/\_ from⟨a,⟨by rw[QT j],.inr ⟨g,cp,cur,rfl,L7 _,(by simpa [Bx]using d),f,i,m,n⟩⟩,λb=>by rw[o];exact⟨λh=>by rw[h];rfl,λh=>(o7 h).symm⟩⟩)
end
section
variable{P:xO}{w0:xH}{α:Type}{e k cp:Nat}{c:α->List y9}{A:xN}
theorem mY(a:∀x,(c x).length=k)(d:α){l:List α}{i o:Nat}(h:i<l.length){y:α}(e:CD (c (l.getD i d)) o vs=c y)(b:o+vs.length<=k):CD (l.flatMap c) (i*k+o) vs=(l.set i y).flatMap c:=by
 rw[<- CW c l d,an (f:=λj=>c (l.getD j d)) (λj=>a _) h b,<- CW c (l.set i y) d,List.length_set]
 grind
theorem Iz(P:xO)(w0:xH)(e k cp:Nat)(c:α->o3)(A:xN)(t i o:Nat){m:TI}(l l':List α)(v:y9)(y:α)(z:∀x,(c x).length=k)(d:α)(D:Yw P t=some m)(E:CD (c (l.getD i d)) o v.cells.toList=c y)(n:v.cells.toList.length=m.size)(F:o+m.size<=k)(h:i<l.length)(G:∀u,u∈v.cells.toList->u.oneCell'=true)(H:l.set i y=l'):
  ∀W,Below w0.heap.size w0 W->∀x S,(Qc e k c l A cp).φ x S W->Gc P W (λ_:Unit=>undef) (λ_:Unit=>Qc e k c l' A cp) x S (GZ t [.pointer (some (Q5 A (i*k+o))),v]):=λW _ x S I=>by
 subst H;obtain⟨J,g,a,rfl,p,B,K,q,L,r⟩:=il I x3;have s:(i+1)*k<=l.length*k:=Lt _ x3;rw[Ru]at s;have w:l.length*k<=cp*k:=Lt _ B;have f:a.toList.length=cp*k:=by rw[Si,q]
 have C:=Vo P t (i*k+o) v D (show Bx W g e a.toList.toArray from p) (by rw[<- Si];exact n) (by rw[f];omega) G;refine⟨(),S,_,?_,Vm ((r g).2 rfl) v.cells.toList (i*k+o),ee (cur:=(CD a.toList (i*k+o) v.cells.toList).toArray) J (Bx.setL _ _ (show Bx W g e a.toList.toArray from p)) (by rw[List.length_set];exact B) K z (by rw[Rs,Gv,f]) ?_ r,λb j=>⟨.inl j,?_⟩⟩
 ·unfold GZ;simp_all[Q5]
 ·show(CD a.toList (i*k+o) v.cells.toList).take ((l.set i y).length*k)=_;rw[List.length_set,ap _ _ _ _ (by rw[n];omega) (by rw[f];exact w),L,mY z d h E (by rw[n];exact F)]
 ·rw[Jd,(r b).1 j];exact p.lt
end
def F7(l D:Nat)(rc:Loop):Res where
 φ x S w:=x.oneCell'=true/\w.heap[l]?=some (.loop rc)/\w.heap[D]?=some (.deferred (some []))/\∀b,S b↔b=l\/b=D
 one _ _ _ h:=h.1
 loc x S w w' h hφ:=⟨hφ.1,(h l ((hφ.2.2.2 l).2 (.inl rfl))).trans hφ.2.1,(h D ((hφ.2.2.2 D).2 (.inr rfl))).trans hφ.2.2.1,hφ.2.2.2⟩
def Hg(D:Nat):Res where
 φ x S w:=x.oneCell'=true/\w.heap[D]?=some (.deferred (some []))/\∀b,S b↔b=D
 one _ _ _ h:=h.1
 loc x S w w' h hφ:=⟨hφ.1,(h D ((hφ.2.2 D).2 rfl)).trans hφ.2.1,hφ.2.2⟩
def Nb{α:Type}(y z:α):∀l:List (Option α),GX (l++[some y]) l.length z=l++[some z]
 |[]=>rfl
 |x::l=>Lu (x::·) (Nb y z l)
def gL{α:Type}(y:α):∀l:List (Option α),Xq (l++[some y]) l.length=some y
 |[]=>rfl
 |_::l=>gL y l
section
variable{P:xO}{tt:List (Nat×TI)}{w0:xH}{τ:St}{R R':Res}{r r':Env}{a:Act}{w:xH}{l D n:Nat}{rc:Loop}
theorem o8:XL τ.rs.length R' (Vk R τ)=Vk R' τ:=by simp[XL,Vk,Yj,Nb]
def gK:Xq (Vk R τ).rs τ.rs.length=some R:=by simp[Vk,Yj,gL]
def len_N:(Vk R τ).rs.length=τ.rs.length+1:=by simp[Vk,Yj]
theorem AB(d:l≠D)(c:Loop)(h:Sat w0 (Vk (F7 l D rc) τ) r a w):Sat w0 (Vk (F7 l D c) τ) ⟨r.b,r.x,Zg r.S τ.rs.length (r.S τ.rs.length)⟩ a (w.putObj l (.loop c))/\w.heap[l]?=some (.loop rc):=by
 let⟨⟨m,f,n,g⟩,o⟩:=h.see.rs _ _ gK;have i:=grownBy_putObj' w l (.loop c);refine⟨?_,f⟩;have p:=h.turn (R':=F7 l D c) (S':=r.S τ.rs.length) gK (Trn.of_grown i λk e=>(g k).2 (.inl (o7 e).symm)) ⟨m,World.putObj_heap_same (b8.1 f).1,(World.putObj_heap_other d.symm).trans n,g⟩ λb j=>⟨.inl j,L9 (o b j) i.size⟩
 grind[o8]
theorem ji(h:Sat w0 (Vk (F7 l D rc) τ) r a w):Sat w0 (Vk (Hg D) τ) ⟨r.b,r.x,Zg r.S τ.rs.length (λb=>b=D)⟩ a w:=by
 let⟨⟨e,i,f,c⟩,g⟩:=h.see.rs _ _ gK;have j:=h.turn (R':=Hg D) (S':=λb=>b=D) gK (Trn.refl _ _) ⟨e,f,λ_=>Iff.rfl⟩ λb d=>⟨.inl ((c b).2 (.inr d)),g b ((c b).2 (.inr d))⟩
 grind[o8]
def JA{V:Code->(Exit->Act->xH->Prop)->Act->xH->Prop}(l:Rules P V)(k:YF P tt)(m:P.follows .mixedOrders=true){f:Nat×Nat}{c:Code}{σ:St}{d:List Dir}{p:Ex->St->Prop}(h:XE P tt (Kj P tt w0) f w0 c σ d λe b _=>p e b)(n:FlOk f σ)(o:Sat w0 σ r a w){Q:Exit->Act->xH->Prop}(q:DV Q)(s:∀e b r' g i,p e b->Sat w0 b r' g i->AgN f r r'->Q e.to g i):V c Q a w :=
 G9 l k (JV k m 9) f c σ d _ h n r a w o Q q (λ_ _ _ _ _ _ h=>False.elim h) λe b _ r' g i t j _ u=>s e b r' g i t j u
end
abbrev mS{β:Type}(bs:β->List (Option (o0×List SV)))(rs:β->List (Option Res))(n:Nat)(ts:List (Nat×SV))(R:Res)(y:β):St:=Vk R ⟨n,ts,bs y,rs y⟩
def MemJ(w0:xH)(bs:β->List (Option (o0×List SV)))(rs:β->List (Option Res))(a:Nat×Nat)(R:Res)(b:Env)(y:β)(W:xH):Prop:=∃r,Cu w0 (mS bs rs 0 [] R y) r W/\AgN a b r
section
variable{P:xO}{tt:List (Nat×TI)}{w0:xH}{α β:Type}{bs:β->List (Option (o0×List SV))}{rs:β->List (Option Res)}{nb nr:Nat}
def MemJ.to(b:∀y,(bs y).length=nb/\(rs y).length=nr){n:Nat}{ts:List (Nat×SV)}{R:Res}{f r1:Env}{e y:β}{w W:xH}(k:Sat w0 (mS bs rs n ts R e) r1 a w)(j:AgN (nb,nr+1) f r1)(h:MemJ w0 bs rs (nb,nr+1) R f y W):∃r,Sat w0 (mS bs rs n ts R y) r a W/\AgN (nb,nr+1) f r:=by
 let⟨r,l,g⟩:=h;have d:∀z,(mS bs rs n ts R z).bs.length=nb/\(mS bs rs n ts R z).rs.length=nr+1:=λz=>⟨(b z).1,len_N.trans (Lu Nat.succ (b z).2)⟩
 exact⟨r,k.back (σ':=mS bs rs n ts R y) l ⟨Su ((d e).1.trans (d y).1.symm),Su ((d e).2.trans (d y).2.symm)⟩ ⟨λi c=>by rw[(d e).1]at c;exact(g.1 i c).trans (j.1 i c).symm,λi c=>by rw[(d e).2]at c;exact(g.2 i c).trans (j.2 i c).symm⟩,g⟩
def Bw(a:∀y,(bs y).length=nb/\(rs y).length=nr){n:Nat}{ts:List (Nat×SV)}{R:Res}{y:β}:FlOk (nb,nr+1) (mS bs rs n ts R y):=⟨Su (a y).1.symm,Su ((Lu Nat.succ (a y).2.symm).trans (len_N (τ:=⟨n,ts,bs y,rs y⟩)).symm)⟩
def ka(I:YF P tt)(m:P.follows .mixedOrders=true)(b:∀y,(bs y).length=nb/\(rs y).length=nr){n p l D f:Nat}{ts:List (Nat×SV)}{enc:α->y9}{body:Code}{C:β->α->Prop}{N:β->α->β->Prop}{k:β->α->List (Nat×SV)}(K:BF (some p) n=true)(o:HI assign=true)(q:HI body=true)(u:∀y x R,C y x->∃d,XE P tt (Kj P tt w0) (nb,nr+1) w0 assign ((mS bs rs n ts R y).push (some p) (.val (enc x))) d λe σ _=>Jf e (Yb σ (mS bs rs n (k y x) R y) True))(z:∀y x R,C y x->∃d,XE P tt (Kj P tt w0) (nb,nr+1) w0 body (mS bs rs n (k y x) R y) d λe σ _=>Jf e (∃c,N y x c/\Yb σ (mS bs rs n ts R c) True)){L:β}{A:Env}{w:xH}(j:l≠D)(M:Sat w0 (mS bs rs n ts (F7 l D { state:=.ready,pending:=none,fn:=f,tmps:=a.tmps,params:=#[p],assign:=assign,body:=body,defers:=D }) L) A a w){y:β}{x:α}{W:xH}(O:MemJ w0 bs rs (nb,nr+1) (F7 l D { state:=.ready,pending:=none,fn:=f,tmps:=a.tmps,params:=#[p],assign:=assign,body:=body,defers:=D }) A y W)(J:C y x):
  YieldAt Fence.wide 7 P l #[enc x] W λe Q=>e=.returned (.bool true)/\∃c,N y x c/\MemJ w0 bs rs (nb,nr+1) (F7 l D { state:=.ready,pending:=none,fn:=f,tmps:=a.tmps,params:=#[p],assign:=assign,body:=body,defers:=D }) A c Q:=by
 obtain⟨r,B,S⟩:=O.to b M (AgN.refl _ _);have e0:({ tmps:=(#[p].zip #[enc x]).foldl (λt (p,v)=>t.setIfInBounds p v) a.tmps,defers:=[] }:Act)=a.put (some p) (enc x):=by
  unfold Act.put;rw[<- B.defers];simp
 have hx:∀y,(⟨n,ts,bs y,rs y⟩:St).rs.length=nr:=λy=>(b y).2
 refine⟨f,_,assign,body,run_yield (AB j ⟨.ready,none,f,a.tmps,#[p],assign,body,D⟩ B).2 rfl,roundIn_of_wpIn trivial ?_⟩;rw[e0];obtain⟨d,T⟩:=u y x _ J;refine JA (EP m) I m (p:=λe σ=>Jf e (Yb σ _ True)) T (Bw b) (B.put (s:=.val (enc x)) K rfl) (λ_ _ _ _ _ h=>h) (λe U r1 a1 W1 g E F=>?_) o (λ⟨_,_,h⟩=>h);cases e with
 |exit i=>exact False.elim g
 |ret=>exact False.elim g
 |normal =>
  obtain⟨V,X⟩:=AB j { state:=.busy,pending:=none,fn:=f,tmps:=a.tmps,params:=#[p],assign:=assign,body:=body,defers:=D } ((Q3 w0 (show Yb U _ True from g)).2 _ _ _ E);refine⟨_,run_beginRound X rfl,?_⟩;obtain⟨d2,Y⟩:=z y x _ J;refine JA (EP m) I m (p:=λe σ=>Jf e (∃c,N y x c/\Yb σ _ True)) Y (Bw b) V (λ_ _ _ _ _ h=>h) (λe σ3 r3 a3 W3 g G H=>?_) q (λ⟨_,_,h⟩=>h);cases e with
  |exit i=>exact False.elim g
  |ret=>exact False.elim g
  |normal =>
   obtain⟨c,Z,g⟩:=(show ∃c,_ from g)
   obtain⟨h4,h5⟩:=AB j { state:=.ready,pending:=none,fn:=f,tmps:=a.tmps,params:=#[p],assign:=assign,body:=body,defers:=D } ((Q3 w0 g).2 _ _ _ G);exact⟨_,_,run_endRound none h5,rfl,c,Z,_,h4.mem,S.trans (F.trans (H.trans ⟨λ_ _=>rfl,λ_ _=>rfl⟩))⟩
def mem_range(V:YF P tt)(X:P.follows .mixedOrders=true)(c:∀y,(bs y).length=nb/\(rs y).length=nr){n p s:Nat}{ts:List (Nat×SV)}{enc:α->Value}{g:Operand}{assign body:Code}{C:β->α->Prop}{N:β->α->β->Prop}{E:β->Prop}{ts1:β->α->List (Nat×SV)}(Y:BF (some p) n=true)(B:HI assign=true)(G:HI body=true)(H:∀y x R,C y x->∃d,XE P tt (Kj P tt w0) (nb,nr+1) w0 assign ((mS bs rs n ts R y).push (some p) (.val (enc x))) d λe σ _=>Jf e (Yb σ (mS bs rs n (ts1 y x) R y) True))(I:∀y x R,C y x->∃d,XE P tt (Kj P tt w0) (nb,nr+1) w0 body (mS bs rs n (ts1 y x) R y) d λe σ _=>Jf e (∃t,N y x t/\Yb σ (mS bs rs n ts R t) True)){k:β}{r:Env}{a:Act}{w:World}(hS:Sat w0 ⟨n,ts,bs k,rs k⟩ r a w){A:Array Value}(Z:a.eval g=.func (.func s) #[] A)(he:Xt P s)(hit:∀l R r1 W,Cu w0 (mS bs rs 0 [] R k) r1 W->AgN (nb,nr) r r1->(∀y x i,MemJ w0 bs rs (nb,nr+1) R r1 y i->C y x->YieldAt Fence.wide 7 P l #[enc x] i λe J=>e=.returned (.bool true)/\∃t,N y x t/\MemJ w0 bs rs (nb,nr+1) R r1 t J)->CallsIn Fence.wide 8 P s (#[.func (.yield l) #[] #[]]++A) W λe J=>(∃v,e=.returned v)/\∃y,E y/\MemJ w0 bs rs (nb,nr+1) R r1 y J){U:List Deferred}{Q:Exit->Act->World->Prop}(o:∀D r' W y,E y->Sat w0 (mS bs rs n ts (Hg D) y) r' a W->Q .normal (YA ({ target:=.collected D,args:=#[] }::U) a) W):(Code.rangeFunc g #[p] assign body).wp P Q (YA U a) w:=by
 have K:=hS.defers;refine wpIn_wide.1 (wpIn_rangeFunc (F:=Fence.wide) (n:=9) λf _=>?_);obtain⟨i,m⟩:∃i,(w.alloc (.deferred (some []))).alloc (.loop { state:=.ready,pending:=none,fn:=f,tmps:=a.tmps,params:=#[p],assign:=assign,body:=body,defers:=w.heap.size })=i:=⟨_,rfl⟩
 have u:i.heap[w.heap.size+1]?=some (.loop { state:=.ready,pending:=none,fn:=f,tmps:=a.tmps,params:=#[p],assign:=assign,body:=body,defers:=w.heap.size }):=by
  rw[<- m];have:=World.alloc_heap_new (w.alloc (.deferred (some []))) (.loop { state:=.ready,pending:=none,fn:=f,tmps:=a.tmps,params:=#[p],assign:=assign,body:=body,defers:=w.heap.size });rwa [World.size_alloc]at this
 have L:i.heap[w.heap.size]?=some (.deferred (some [])):=by
  rw[<- m];exact(U7 _ _ _ x6).trans (World.alloc_heap_new w _)
 have M:Below w.heap.size w i:=by
  rw[<- m];exact((p5 _ w).alloc (L4 _) _).alloc x6 _
 have z:w.heap.size+1≠w.heap.size:=x3;have j:=hS.fresh (R:=F7 (w.heap.size+1) w.heap.size { state:=.ready,pending:=none,fn:=f,tmps:=a.tmps,params:=#[p],assign:=assign,body:=body,defers:=w.heap.size }) (x:=.bool false) (S:=λb=>b=w.heap.size+1\/b=w.heap.size) M ⟨rfl,u,L,λ_=>Iff.rfl⟩ λb hb=>by
  have h1:=(b8.1 u).1;rcases hb with rfl|rfl<;>omega
 have q:=(Ag.add (⟨n,ts,bs k,rs k⟩:St) r ⟨0,.bool false,λb=>b=w.heap.size+1\/b=w.heap.size⟩).n (fl:=(nb,nr)) ⟨Su (c k).1.symm,Su (c k).2.symm⟩;revert j q;generalize r.add' (⟨n,ts,bs k,rs k⟩:St) ⟨0,.bool false,λb=>b=w.heap.size+1\/b=w.heap.size⟩=r1;intro j q;refine⟨w.heap.size+1,[{ target:=.collected w.heap.size,args:=#[] }],i,{ target:=.fn (.func s) A,args:=#[.func (.yield (w.heap.size+1)) #[] #[]] },i,s,#[.func (.yield (w.heap.size+1)) #[] #[]]++A,i,?_,?_,λ_ _=>trivial,?_,λ_=>x4,?_⟩
 ·rw[<- m];exact run_enterLoop_outer _ _ _ _ _
 ·simp only[resolve,E9,Z];simp[go_sem]
 ·simp[invoke,go_sem,he _ _]
 ·refine(hit _ _ r1 i j.mem q λy x W O hC=>ka V X c Y B G H I z j O hC).mono ?_
  rintro e W2 ⟨⟨v,rfl⟩,y,hE,O⟩;let⟨r2,h2,_⟩:=O.to c j (AgN.refl _ _);let⟨h3,h4⟩:=AB z { state:=.exhausted,pending:=none,fn:=f,tmps:=a.tmps,params:=#[p],assign:=assign,body:=body,defers:=w.heap.size } h2;refine⟨none,_,run_endLoop h4 x6,?_⟩;have T:=o w.heap.size _ _ y hE (ji h3);unfold YA at T ⊢;rw[K]at T ⊢;exact T
def sv(z:YF P tt)(S:P.follows .mixedOrders=true)(i:∀y,(bs y).length=nb/\(rs y).length=nr){id ci dst l n:Nat}{ts:List (Nat×SV)}{args:List x0h}{x:y9}(ho:b.toList[ci]?=some o)(k:Ps o=some (f,args))(q:o.dst=some dst)(C:BF (some dst) n=true)(D:b.toList.all MF=true){R:Res}{y:β}{d:List Dir}{N:β->Prop}{X:β->St->Prop}(h2:KC P tt (Kj P tt w0) w0 id b (b.toList.take ci) 0 σ d λσ _=>v1 σ f λT=>vL σ args λvs=>T=.func (.yield l) #[] #[]/\vs=[x]/\Yb σ (mS bs rs n ts R y) True)(h3:∀y,N y->∃d,KC P tt (Kj P tt w0) w0 id b (b.toList.drop (ci+1)) (ci+1) ((mS bs rs n ts R y).push (some dst) (bV true)) d λσ _=>X y σ){A:Env}{w:xH}(hS:Sat w0 σ r a w)(hf:FlOk (nb,nr+1) σ)(hg:AgN (nb,nr+1) A r)(hY:∀W,MemJ w0 bs rs (nb,nr+1) R A y W->YieldAt Fence.wide 7 P l #[x] W λe W'=>e=.returned (.bool true)/\∃t,N t/\MemJ w0 bs rs (nb,nr+1) R A t W'){Q:Exit->Act->xH->Prop}(hX:∀y σ r a w,N y->X y σ->Sat w0 σ r a w->AgN (nb,nr+1) A r->Q .normal a w):(Code.region id b false).wpIn Fence.wide 8 P Q a w:=by
 refine wpIn_region_list ?_
 have g:=D;have E:=FU ho;rw[E]at g ⊢;rw[List.all_append,Lx]at g;let⟨n1,n2⟩:=g;let⟨_,n3⟩:=L5.1 (show(MF o&&(b.toList.drop (ci+1)).all MF)=true from n2);refine FA _ (λe a w=>e=.normal/\wpListIn Fence.wide 8 P b _ (o::b.toList.drop (ci+1)) a w) (λ⟨_,_,h,_⟩=>by cases h) (λ_ _ _ h=>by cases h.1) (λ_ _ h=>h.2) n1 (VA z (JV z S 9) _ 0 σ d _ h2 r a w hS _ (λ_ _ _ _ _ _ h=>False.elim h) λσ3 d3 F U B m p G _=>⟨rfl,?_⟩);let⟨T,m,H⟩:=Xr w0 m;obtain⟨vs,⟨rfl,rfl,u⟩,I⟩:=Br w0 m;have v:=(Q3 w0 u).2 _ _ _ p;have j:=hg.trans (G.n hf);let⟨y1,y2,J⟩:=Pd (P:=P) k (H F U B p.see) (I F U B p.see) B;let⟨fn,tmps,assign,body,y4,y5⟩:=hY B ⟨F,v.mem,j⟩;unfold wpListIn;rw[if_pos (by unfold Region.wanted;rw[y2])];refine⟨λ_ _=>trivial,?_⟩;rw[Oper.semAt_eq _ _ _ (λc e=>by unfold MF at J;rw[e]at J;cases J),y1,y4];refine⟨λh=>(by cases h),y5.mono ?_⟩;rintro e W4 ⟨rfl,t,V,hJ⟩;let⟨r4,h4,K⟩:=hJ.to i v j;let⟨Y,e5⟩:=h3 t V;have Z:=FA Q (λe a w=>e=.normal/\Q .normal a w) (λ⟨_,_,h,_⟩=>by cases h) (λ_ _ _ h=>by cases h.1) (λ_ _ h=>h.2) (n:=8) (P:=P) (ops:=b) (m2:=[]) n3 (VA z (JV z S 9) _ (ci+1) _ Y _ e5 r4 _ W4 (h4.put (s:=bV true) C rfl) _ (λ_ _ _ _ _ _ h=>False.elim h) λσ5 Y r5 a5 w5 L M O _=>⟨rfl,hX t σ5 r5 a5 w5 V L M (K.trans (O.n (Bw i)))⟩);rw[Rq]at Z;rw[q];exact Z
theorem bB(g:YF P tt)(i:P.follows .mixedOrders=true){f:FuncId}(j:P.funcs[f]?=some fn)(k:Nat.ble args.length fn.ntmps=true){R:Ending->xH->Prop}{d:List Dir}(h:BQ P tt w0 fn E (SH fn.ntmps args) d λ_ _ _=>False)(l:∀b σ r a w,E b σ->Sat w0 σ r a w->b.wp P (Aa (bodyPostM Fence.wide 9 P fn R)) a w):Calls P f args.toArray w0 R:=by
 unfold BQ at h;split at h
 ·rename_i c m;refine callsIn_wide.1 (callsIn_of_wp_marks (F:=Fence.wide) (n:=9) j m trivial (wpIn_wide.2 ?_) rfl);exact wp_mono (Mc g i (JV g i 9) (0,0) (WE _) l c _ d _ h ⟨L7 _,L7 _⟩ _ _ _ (qm (L8 k) w0) (λ_ _ _ _ _ _ h=>False.elim h) λe t u r' o p q _ _ _=>q.elim) λe o p s=>WF s
 grind
def dj{R:Res}{D n t:Nat}{w:xH}{g:Ending->xH->Prop}(d:Sat w0 ⟨n,[(t,.val v)],[],[some R,some (Hg D)]⟩ r a w)(i:fn.results=#[.tmp t])(j:∀x S f,R.φ x S f->(∀b,S b->w0.heap.size<=b/\b<f.heap.size)->Below w0.heap.size w0 f->g (.returned v) f):
  Aa (bodyPostM Fence.wide 9 P fn g) .ret (YA [{ target:=.collected D,args:=#[] }] a) w:=by
 show LeavesInM Fence.wide 9 P fn a.tmps _ (a.defers++[{ target:=.collected D,args:=#[] }]) .returning w;rw[d.defers];let⟨⟨_,l,h⟩,y⟩:=d.see.rs 1 _ rfl;let⟨m,o⟩:=d.see.rs 0 _ rfl;have p:∀b,r.S 0 b->b≠D:=λb c e=>d.sep.disj 0 1 _ _ rfl rfl x4 b c ((h b).2 e)
 have q:(results fn a.tmps).run P (w.putObj D (.deferred none))=.ok v (w.putObj D (.deferred none)):=by
  have s:=(d.see.ts t (.val v) (by simp[Yv])).1;rw[results_tmp i];exact Lu (λv=>Result.ok v _) s
 refine⟨x6,.inl ⟨D,_,rfl,run_takeDeferred l,⟨v,q,j (r.x 0) (r.S 0) _ (R.loc _ _ _ _ (λb c=>World.putObj_heap_other (p b c)) m) (λb c=>⟨d.sep.ownS 0 _ rfl b c,by rw[World.putObj_size];exact o b c⟩) ?_⟩⟩⟩;have c:=d.see.low;exact⟨c.os,c.tape,c.output,by rw[World.putObj_size];exact c.size,λk u=>(World.putObj_heap_other λe=>x8 (d.sep.ownS 1 _ rfl D ((h D).2 rfl))).trans (c.block k u)⟩
end
