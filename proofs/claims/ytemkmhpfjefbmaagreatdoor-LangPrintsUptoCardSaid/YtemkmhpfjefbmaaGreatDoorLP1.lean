/- Laws beneath the statement. -/
import Derived.Lib.BitFns
import Derived.Lib.TrailingZeros
import Derived.Lib.Hide
import Derived.WalkSpells
import Derived.WalkLawsBesides
import Derived.Deep.OwnRows
import Derived.Laws.CopyOwn
import Derived.StillTail
import Derived.OrdersHeld
namespace Go.Proofs.YtemkmhpfjefbmaaGreatDoor
set_option linter.defProp false
open Go Go.RowKit
variable{p:Prop}
def x3(h:p:=by omega):p:=h
def x4(h:p:=by decide):p:=h
def x5(h:p:=by kernel_rfl):p:=h
def x6(h:p:=by simp):p:=h
def x7(h:p:=by simp;omega):p:=h
def xq{n m:Nat}(h:Nat.ble n m=true:=by exact rfl):n<=m:=Nat.le_of_ble_eq_true h
def xM0(m:Nat){n:Nat}(h:Nat.ble n m=true:=by exact rfl):n<=m:=Nat.le_of_ble_eq_true h
variable{q:Prop}
def x8(a:p)(h:p->q:=by intro _;omega):q:=h a
def xF{r:Prop}(a:p)(b:q)(h:p->q->r:=by intro _ _;omega):r:=h a b
def l3(a:p)(h:p->q:=by intro h;simpa using h):q:=h a
abbrev xH:=World
abbrev y9:=Value
abbrev xM:=ByteArray
abbrev xN:=Option Addr
abbrev o0:=TypeId
abbrev xO:=Program
abbrev o3:=List Value
abbrev x0g:=Array Value
abbrev x0h:=Operand
abbrev xP(P:Program)(f:FuncId)(a:Array Value)(w:World)(r:Value):Prop:=Calls P f a w λe z=>e=.returned r/\Below w.heap.size w z
def x0f:=@Lib.hid
def o7:=@Option.some.inj
def p0:=@And.intro
theorem p5:type_of% @Below.refl:=@Below.refl
def p6:=@List.getElem?_eq_getElem
def a8:=@List.getElem?_eq_none
def b7:=@IntKind.wrap_u64
def b8:=@Array.getElem?_eq_some_iff
def b9:=@List.getElem?_take_of_lt
def xQ:=@Sem.run_bind
def xT:=@Result.andThen_ok
def xU:=@List.getElem?_eq_some_iff
def p7:=@Array.getElem?_eq_none
def sT:=@List.getElem?_append_right
def Δ:=@Array.getD_eq_getD_getElem?
abbrev Θ(n:Int):Value:=.int .i64 n
abbrev Ξ(b:Bool):Value:=.bool b
abbrev Ψ(s:ByteArray):Value:=.string s
abbrev Ω(a:Option Addr)(n c:Nat):Value:=.slice a n c
abbrev x00:Value:=.string ⟨#[]⟩
abbrev x01:Value:=.slice none 0 0
abbrev x02(g:Nat):Value:=.pointer (some ⟨g,0,none⟩)
theorem L8:type_of% @Nat.le_of_ble_eq_true:=@Nat.le_of_ble_eq_true
def L0:=@of_decide_eq_true
def L1:=@of_decide_eq_false
def L4:=@Nat.le_refl
def L6:=@Nat.le_trans
def L7:=@Nat.zero_le
def L5:=@Bool.and_eq_true_iff
theorem L9:type_of% @Nat.lt_of_lt_of_le:=@Nat.lt_of_lt_of_le
theorem Lj:type_of% @cell_later:=@cell_later
def La:=@List.length_append
theorem Le:type_of% @IntWalk.i64_in:=@IntWalk.i64_in
theorem Lh:type_of% @Nat.pow_le_pow_right:=@Nat.pow_le_pow_right
def Lm:=@Nat.zero_add
def Lu:=@congrArg
def Ls:=@Nat.mul_comm
def Lc:=@decide_eq_false
def Lw:=@Nat.lt_of_le_of_lt
def Lr:=@Nat.div_lt_iff_lt_mul
def Lz:=@Nat.pow_add
def Lt:=@Nat.mul_le_mul_right
def Lg:=@List.all_eq_true
def Rm:=@Nat.le_add_right
def R6:=@Nat.two_pow_pos
def Lp:=@beq_eq_false_iff_ne
def Lv:=@List.mem_map
def Rk:=@Nat.div_div_eq_div_mul
def R8:=@Nat.pow_succ
def Rc:=@Nat.mod_eq_of_lt
def R5:=@Nat.lt_or_ge
def Lq:=@Classical.choose_spec
theorem Ld:type_of% @Nat.eq_of_beq_eq_true:=@Nat.eq_of_beq_eq_true
def Rb:=@Nat.mul_le_mul_left
def Re:=@Nat.mod_lt
theorem R9:type_of% @Nat.mul_assoc:=@Nat.mul_assoc
def R7:=@List.mem_range
def Li:=@List.length_cons
def Lb:=@List.mem_cons
def R4:=@Nat.not_lt_zero
def Lk:=@decide_eq_true
def Ly:=@List.mem_singleton
def Sw:=@Nat.succ_pos
def Rt:=@Nat.mul_lt_mul_of_pos_right
def Lo:=@List.mem_append
def Rg:=@List.length_map
theorem Rj:type_of% @List.take_succ_eq_append_getElem:=@List.take_succ_eq_append_getElem
def Rp:=@Nat.mul_add
def T7:=@Int.le_trans
def Rf:=@Bool.or_eq_false_iff
def Lx:=@Bool.and_eq_true
def Sg:=@Nat.div_eq_of_lt
theorem Rh:type_of% @List.take_of_length_le:=@List.take_of_length_le
def Rn:=@Nat.div_le_self
def Sk:=@beq_iff_eq
def Ra:=@Nat.le_antisymm
def Se:=@Nat.pow_pos
def Tu:=@Nat.pow_one
def Rx:=@Eq.refl
def Sm:=@Int.toNat_natCast
def Sb:=@List.length_range
def S8:=@Nat.add_mul
def Rz:=@Nat.le_mul_of_pos_right
def Lf:=@List.length_drop
def Ll:=@List.length_take
def Rs:=@List.size_toArray
def Ss:=@Nat.add_mul_div_left
theorem T1:type_of% @Nat.pow_mul:=@Nat.pow_mul
def Ri:=@List.not_mem_nil
def Sq:=@Nat.add_sub_cancel_left
def Tx:=@Nat.pow_zero
theorem Ru:type_of% @Nat.succ_mul:=@Nat.succ_mul
def Sr:=@Below.heap_setCell
def L2:=@Nat.add_le_add
def Tc:=@Nat.div_add_mod
def Sv:=@Nat.le_of_lt
theorem S5:type_of% @ByteArray.toList_eq:=@ByteArray.toList_eq
def Rl:=@List.append_assoc
def L3:=@Int.tmod_eq_emod_of_nonneg
def Sx:=@Nat.le_of_not_lt
def Sf:=@Nat.add_assoc
def Sc:=@Nat.ne_of_lt
def S9:=@List.length_nil
def Td:=@Nat.mod_add_div
theorem So:type_of% @List.length_eq_zero_iff:=@List.length_eq_zero_iff
def U8:=@List.flatMap_def
def Sh:=@Nat.lt_succ_self
def T3:=@Nat.succ_le_succ
def Uy:=@Nat.succ_lt_succ
def Sz:=@Nat.mul_one
def Sj:=@List.flatMap_append
def U4:=@List.isEmpty_eq_false_iff
def Rv:=@List.map_append
def S7:=@List.range_succ
def Te:=@Nat.le_div_iff_mul_le
def Ry:=@List.eq_nil_of_length_eq_zero
def Sa:=@List.mem_flatMap
def T4:=@Nat.lt_irrefl
def Sy:=@Array.mem_toList_iff
def Ty:=@Int.natCast_mul
theorem Th:type_of% @List.getElem_of_mem:=@List.getElem_of_mem
def S6:=@List.map_congr_left
def U1:=@Nat.mod_mul_right_div_self
def V4:=@List.getElem_map
def Ti:=@Option.bind_some
def Sl:=@List.length_replicate
theorem Tj:type_of% @Int.natAbs_ediv_le_natAbs:=@Int.natAbs_ediv_le_natAbs
theorem Tb:type_of% @List.drop_eq_getElem_cons:=@List.drop_eq_getElem_cons
def V5:=@Nat.add_mul_mod_self_left
def Tl:=@Nat.one_mul
def V6:=@List.mem_append_left
def T8:=@Nat.add_comm
def Su:=@Nat.le_of_eq
def Si:=@Array.length_toList
def Tw:=@List.getElem_range
def Uj:=@Nat.add_sub_cancel
def T9:=@Nat.add_zero
def Ut:=@Nat.lt_trans
def Rq:=@List.append_nil
def Ro:=@List.length_singleton
def Tn:=@List.mem_filter
def Tg:=@Nat.min_eq_left
def V7:=@List.setIfInBounds_toArray
def U2:=@Bool.not_eq_true'
def Sn:=@List.flatMap_cons
def T6:=@List.mem_cons_of_mem
def V0:=@Nat.mod_one
def Uo:=@Int.natAbs_mul
def U7:=@Below.heap_alloc
def Uw:=@Nat.lt_of_not_le
def Ud:=@Nat.pow_lt_pow_iff_right
def V8:=@Bool.eq_iff_iff
def Tv:=@Bool.false_eq_true
def V2:=@List.nil_append
def T5:=@Nat.eq_zero_or_pos
def V9:=@Nat.sub_le
def Va:=@ByteArray.data_extract
def U6:=@Int.neg_neg
def Ul:=@Nat.add_mod
def Vb:=@List.mem_append_right
def Vc:=@Nat.mod_mul_right_mod
def Vd:=@Int.natCast_ediv
theorem Ve:type_of% @List.ext_getElem:=@List.ext_getElem
def Rr:=@List.getElem_mem
def Ux:=@Nat.mul_lt_mul''
def Sd:=@Int.le_refl
def Vf:=@Nat.div_one
def Vg:=@Nat.mul_pos
def V3:=@List.nodup_cons
def Ue:=@Nat.zero_mul
def Tr:=@eq_of_beq
def LB:Nat:=18446744073709551616
theorem Jo:LB=18446744073709551616:=rfl
def Yk:LB=2^64:=rfl
def QF:0<LB:=x4
def QG(B v j:Nat):Nat:=v / B^j % B
variable{B:Nat}
def YO(h:0<B)(v j:Nat):QG B v j<B:=Re _ h
def Vx(B j:Nat):QG B 0 j=0:=by simp[QG]
variable{v j:Nat}
def PE(h:v<B^j):QG B v j=0:=by
 unfold QG;rw[Sg h];simp
def ZH{n:Nat}(a:0<B)(h:v<B^n)(b:n<=j):QG B v j=0 :=
 PE (L9 h (Lh a b))
def J8(B v k:Nat):v % B^(k+1)=v % B^k+B^k*QG B v k:=by
 unfold QG;rw[R8,Nat.mod_mul]
def SG(B v k:Nat):v=v % B^k+B^k*(QG B v k+B*(v / B^(k+1))):=by
 have c:=Td v (B^k);have b:=Td (v / B^k) B;rw[Rk,<- R8]at b;have a:QG B v k+B*(v / B^(k+1))=v / B^k:=b;rw[a];exact c.symm
def Ge{n:Nat}(h:j<n):QG B (v % B^n) j=QG B v j:=by
 unfold QG;obtain⟨d,rfl⟩:∃d,n=j+(d+1):=⟨n-j-1,x3⟩
 rw[Lz,U1,R8,Ls (B^d),Vc]
def AH:∀ {n u v:Nat},u<B^n->v<B^n->(∀j,j<n->QG B u j=QG B v j)->u=v:=by
 intro n;induction n with
 |zero=>intro u v c d _;simp at c d;omega
 |succ n k =>
  intro u v c d h;have a:u % B^(n+1)=u:=Rc c;have b:v % B^(n+1)=v:=Rc d;rw[J8]at a b;by_cases f:B=0
  ·subst f;simp at c
  have g:0<B^n:=Se (Nat.pos_of_ne_zero f);have e:u % B^n=v % B^n:=k (Re _ g) (Re _ g) λj i=>by
   rw[Ge i,Ge i];exact h j x3
  rw[<- a,<- b,e,h n x3]
def Vq(B v n j:Nat):QG B (v / B^n) j=QG B v (n+j):=by
 unfold QG;rw[Rk,<- Lz]
def JE(B v n j:Nat)(a:0<B):QG B (B^n*v) (n+j)=QG B v j:=by
 unfold QG;rw[Lz,Nat.mul_div_mul_left _ _ (Se a)]
def D1(B v n j:Nat)(h:j<n)(a:0<B):QG B (B^n*v) j=0:=by
 unfold QG;obtain⟨d,rfl⟩:∃d,n=j+(d+1):=⟨n-j-1,x3⟩
 rw[Lz,R9,Nat.mul_div_cancel_left _ (Se a),R8,Ls (B^d),R9,Nat.mul_mod_right]
variable{u d k:Nat}
def Ie(a:0<B)(c:u<B^k)(b:d<B)(j:Nat):
  QG B (u+B^k*d) j=if j<k then QG B u j else if j=k then d else 0:=by
 by_cases h:j<k
 ·rw[if_pos h,<- Ge h,V5,Ge h]
 ·rw[if_neg h];by_cases e:j=k
  ·subst e;rw[if_pos rfl];unfold QG;rw[Ss _ _ (Se a),Sg c,Lm,Rc b]
  ·rw[if_neg e];refine ZH (n:=k+1) a ?_ x3;rw[R8]
   calc u+B^k*d<B^k+B^k*d:=x3
    _=B^k*(d+1):=by rw[Rp,Sz,T8]
    _<=B^k*B:=Rb _ b
def KL(B x y k:Nat):Nat:=(x % B^k+y % B^k) / B^k
def bD(B x y:Nat):KL B x y 0=0:=by simp[KL,V0]
def UB(b:0<B)(x y k:Nat):KL B x y k<=1:=by
 unfold KL;have a:=Nat.pow_pos (n:=k) b;have c:=Re x a;have d:=Re y a;have:(x % B^k+y % B^k) / B^k<2:=by rw[Lr a];omega
 omega
def bC(a:0<B)(x y k:Nat):KL B x y (k+1)=(QG B x k+QG B y k+KL B x y k) / B:=by
 unfold KL;have b:=Nat.pow_pos (n:=k) a;rw[J8,J8,show x % B^k+B^k*QG B x k+(y % B^k+B^k*QG B y k)=(x % B^k+y % B^k)+B^k*(QG B x k+QG B y k)by rw[Rp];omega,
  R8,<- Rk,Ss _ _ b,T8]
def fH(a:0<B)(x y k:Nat):QG B (x+y) k=(QG B x k+QG B y k+KL B x y k) % B:=by
 have b:=Nat.pow_pos (n:=k) a;have e:x+y=(x % B^k+y % B^k)+B^k*(x / B^k+y / B^k):=by
  have d:=Td x (B^k);have f:=Td y (B^k);rw[Rp];omega
 have c:(x+y) / B^k=KL B x y k+(x / B^k+y / B^k):=by
  unfold KL;rw[e,Ss _ _ b]
 unfold QG;rw[c,T8 (KL B x y k),Ul (x / B^k+y / B^k),Ul (x / B^k),Ul (x / B^k % B+y / B^k % B)]
def Jr(B x y k:Nat):Nat:=if x % B^k<y % B^k then 1 else 0
def TO(B x y:Nat):Jr B x y 0=0:=by simp[Jr,V0]
def jj(B x y k:Nat):Jr B x y k<=1:=by unfold Jr;split<;>omega
def TN(i:0<B)(x y k:Nat):Jr B x y (k+1)=if QG B x k<QG B y k+Jr B x y k then 1 else 0:=by
 have g:=Nat.pow_pos (n:=k) i;unfold Jr;rw[J8,J8];have j:=Re x g;have l:=Re y g;generalize QG B x k=a;generalize QG B y k=b;generalize x % B^k=p at *;generalize y % B^k=q at *;generalize B^k=m at *;have key:(p+m*a<q+m*b)↔(a<b+if p<q then 1 else 0):=by
  by_cases c:p<q
  ·rw[if_pos c];constructor
   ·intro h;apply Uw;intro f;obtain⟨d,rfl⟩:∃d,a=b+1+d:=⟨a-b-1,x3⟩
    rw[Rp,Rp,Sz]at h;have:0<=m*d:=L7 _;omega
   ·intro h;have:m*a<=m*b:=Rb _ x3;omega
  ·rw[if_neg c];constructor
   ·intro h;apply Uw;intro f;have:m*b<=m*a:=Rb _ x3;omega
   ·intro h;have:m*(a+1)<=m*b:=Rb _ x3;rw[Rp,Sz]at this;omega
 by_cases e:p+m*a<q+m*b
 ·rw[if_pos e,if_pos (key.1 e)]
 ·rw[if_neg e,if_neg (λh=>e (key.2 h))]
def tE(f:0<B){x y:Nat}(l:y<=x)(k:Nat):QG B (x-y) k=(QG B x k+B-QG B y k-Jr B x y k) % B:=by
 have h:=Nat.pow_pos (n:=k) f;obtain⟨z,rfl⟩:∃z,x=z+y:=⟨x-y,x3⟩
 rw[Uj];have g:=fH f z y k;have j:=YO f z k;have r:=YO f y k;have s:=UB f z y k;have i:Jr B (z+y) y k=KL B z y k:=by
  unfold Jr KL;have t:=Re z h;have u:=Re y h;rw[Ul];generalize z % B^k=p at *;generalize y % B^k=q at *;generalize B^k=m at *;by_cases d:p+q<m
  ·rw[Rc d,Sg d,if_neg x3]
  ·have e:(p+q) % m=p+q-m:=by
    rw[Nat.mod_eq_sub_mod x3,Rc (show p+q-m<m by omega)]
   have o:(p+q) / m=1:=by
    rw[Nat.div_eq_sub_div h x3,Sg (show p+q-m<m by omega)]
   rw[e,o,if_pos x3]
 rw[g,i];generalize QG B z k=a at *;generalize QG B y k=b at *;generalize KL B z y k=c at *;by_cases d:a+b+c<B
 ·rw[Rc d,show a+b+c+B-b-c=a+B by omega,Nat.add_mod_right,Rc j]
 ·rw[Nat.mod_eq_sub_mod (by omega:a+b+c>=B),Rc (by omega:a+b+c-B<B)];rw[show a+b+c-B+B-b-c=a by omega,Rc j]
def Jw(B x y m k:Nat):Nat:=(x % B^k+y % B^k*m) / B^k
def Wv(B x y m:Nat):Jw B x y m 0=0:=by simp[Jw,V0]
def Wu(a:0<B)(x y m k:Nat):Jw B x y m (k+1)=(QG B x k+QG B y k*m+Jw B x y m k) / B:=by
 unfold Jw;have b:=Nat.pow_pos (n:=k) a;rw[J8,J8,show x % B^k+B^k*QG B x k+(y % B^k+B^k*QG B y k)*m=(x % B^k+y % B^k*m)+B^k*(QG B x k+QG B y k*m)by
   rw[S8,Rp,R9];omega,
  R8,<- Rk,Ss _ _ b,T8]
def OI(b:0<B){m:Nat}(c:m<B)(x y k:Nat):Jw B x y m k<B:=by
 unfold Jw;have a:=Nat.pow_pos (n:=k) b;have e:=Re x a;have d:=Re y a;rw[Lr a]
 calc x % B^k+y % B^k*m<B^k+y % B^k*m:=x3
  _<=B^k+B^k*m:=Nat.add_le_add_left (Lt _ (Sv d)) _
  _=(m+1)*B^k:=by rw[S8,Tl,Ls];omega
  _<=B*B^k:=Lt _ c
def bR(a:0<B)(x y m k:Nat):QG B (x+y*m) k=(QG B x k+QG B y k*m+Jw B x y m k) % B:=by
 have b:=Nat.pow_pos (n:=k) a;have c:(x+y*m) / B^k=Jw B x y m k+(x / B^k+y / B^k*m):=by
  have d:=Td x (B^k);have f:=Td y (B^k);have e:x+y*m=(x % B^k+y % B^k*m)+B^k*(x / B^k+y / B^k*m):=by
   rw[Rp,<- R9]
   calc x+y*m=(x % B^k+B^k*(x / B^k))+(y % B^k+B^k*(y / B^k))*m:=by rw[d,f]
    _=_:=by rw[S8];omega
  unfold Jw;rw[e,Ss _ _ b]
 unfold QG;rw[c,T8 (Jw B x y m k),Ul (x / B^k+y / B^k*m),Ul (x / B^k),Nat.mul_mod (y / B^k) m,Ul (x / B^k % B+y / B^k % B*m),
  Ul (x / B^k % B) (y / B^k % B*m),Nat.mod_mod,Nat.mul_mod (y / B^k % B) m,Nat.mod_mod]
def nd(k v:Nat):Nat:=if v=0 then 0 else Nat.log2 v / k+1
theorem EF(k:Nat):nd k 0=0:=rfl
def X9(k n:Nat):(2^k)^n=2^(k*n):=(T1 2 k n).symm
def B9(k:Nat)(b:0<k)(v:Nat):v<(2^k)^nd k v:=by
 unfold nd;split
 ·rename_i h;subst h;simp
 ·rename_i h;rw[X9];refine(Nat.log2_lt h).1 ?_
  have:=Nat.lt_div_mul_add (a:=Nat.log2 v) b;rw[Rp,Sz,Ls];omega
def MH(k:Nat)(v:Nat)(h:v≠0):(2^k)^(nd k v-1)<=v:=by
 unfold nd;rw[if_neg h,Uj,X9];refine(Nat.le_log2 h).1 ?_
 rw[Ls];exact Nat.div_mul_le_self _ _
def Xf{n:Nat}(d:0<k)(h:v<(2^k)^n):nd k v<=n:=by
 by_cases a:v=0
 ·subst a;simp[EF]
 ·have b:=MH k v a;have c:1<2^k:=Nat.one_lt_two_pow x3;have e:=(Ud c).1 (Lw b h);omega
def GV(k:Nat)(h:v≠0):0<nd k v:=by unfold nd;rw[if_neg h];exact Sw _
def QdB{n:Nat}(a:0<k)(h:(2^k)^n<=v):n<nd k v:=by
 have b:=B9 _ a v;have c:1<2^k:=Nat.one_lt_two_pow x3;exact(Ud c).1 (Lw h b)
def WD(k:Nat){n:Nat}(a:0<k)(h:v<(2^k)^n)(c:0<n->(2^k)^(n-1)<=v):nd k v=n:=by
 have d:=Xf a h;rcases T5 n with b|b
 ·omega
 ·have:=QdB a (c b);omega
def AY(a:0<k)(h:u<=v):nd k u<=nd k v :=
 Xf a (Lw h (B9 _ a v))
def tF(c:0<k)(h:v≠0):QG (2^k) v (nd k v-1)≠0:=by
 have d:=MH k v h;have f:=B9 _ c v;have g:=GV k h;unfold QG;have e:(2^k)^nd k v=2^k*(2^k)^(nd k v-1):=by
  rw[<- Nat.pow_succ'];congr 1;omega
 have b:0<(2^k)^(nd k v-1):=Se (R6 k);have a:v / (2^k)^(nd k v-1)<2^k:=(Lr b).2 (by rw[<- e];exact f);rw[Rc a];have:=Nat.div_pos d b;omega
def MI(k:Nat){n m:Nat}(f:0<k)(h:v<(2^k)^n)(b:m<=n)(g:∀j,m<=j->j<n->QG (2^k) v j=0)(i:0<m->QG (2^k) v (m-1)≠0):nd k v=m:=by
 have a:=R6 k;have l:v<(2^k)^m:=by
  have e:v=v % (2^k)^m:=by
   refine AH h (L9 (Re _ (Se a)) (Lh a b)) λj o=>?_
   by_cases c:j<m
   ·rw[Ge c]
   ·rw[g j x3 o,ZH a (Re _ (Se a)) x3]
  rw[e];exact Re _ (Se a)
 refine WD _ f l λp=>?_
 apply Sx;intro d;exact i p (PE d)
def Hf(k u v:Nat)(b:0<k)(h:nd k u<nd k v):u<v:=by
 apply Uw;intro a;have:=AY b a;omega
def j9{n:Nat}(a:0<B)(c:u<B^n)(d:v<B^n)(_hkn:k<n)(f:∀j,k<j->j<n->QG B u j=QG B v j)(i:QG B u k<QG B v k):u<v:=by
 have e:u / B^(k+1)=v / B^(k+1):=by
  refine AH (n:=n) (Lw (Rn _ _) c) (Lw (Rn _ _) d) λj l=>?_
  rw[Vq,Vq];by_cases b:k+1+j<n
  ·exact f _ x3 b
  ·rw[ZH a c x3,ZH a d x3]
 rw[SG B u k,SG B v k,e];have g:=Nat.pow_pos (n:=k) a;have m:=Re u g;have h:B^k*(QG B u k+B*(v / B^(k+1))+1)<=B^k*(QG B v k+B*(v / B^(k+1))):=Rb _ x3;rw[Rp _ _ 1,Sz]at h;generalize u % B^k=p at *;generalize v % B^k=q at *;generalize B^k*(QG B u k+B*(v / B^(k+1)))=r at *;generalize B^k*(QG B v k+B*(v / B^(k+1)))=s at *;omega
def KH(l:List UInt8):Nat:=l.foldl (λa c=>a*256+c.toNat) 0
variable{α:Type}
def ak{motive:List α->Prop}(nil:motive [])(Gt:∀l a,motive l->motive (l++[a])):∀l:List α,motive l.reverse:=by
 intro l;induction l with
 |nil=>exact nil
 |cons a l b=>rw[List.reverse_cons];exact Gt _ _ b
def SC{motive:List α->Prop}(l:List α)(nil:motive [])(Gt:∀l a,motive l->motive (l++[a])):motive l:=by
 have:=ak nil Gt l.reverse;rwa [List.reverse_reverse]at this
def Fc(l:List UInt8)(c:UInt8):KH (l++[c])=KH l*256+c.toNat:=by simp[KH,List.foldl_append]
def AC(l:List UInt8):KH l<256^l.length:=by
 induction l using SC with
 |nil=>decide
 |Gt l c a =>
  rw[Fc,La,Ro,R8];have:=c.toNat_lt;omega
def Ec(l:List UInt8)(i:Nat)(h:i<l.length):QG 256 (KH l) i=(l[l.length-1-i]' x3).toNat:=by
 induction l using SC generalizing i with
 |nil=>simp at h
 |Gt l c a =>
  have d:=c.toNat_lt;rw[Fc];rcases i with _|i
  ·simp[QG]
  ·have e:QG 256 (KH l*256+c.toNat) (i+1)=QG 256 (KH l) i:=by
    unfold QG;rw[Nat.pow_succ',<- Rk];congr 2;omega
   have b:i<l.length:=l3 h;rw[e,a i b];congr 1;rw[List.getElem_append_left x7];congr 1;simp only[La,Ro];omega
def my(u q e d f:Nat)(r:u<LB^q*2^e)(s:d<2^f)(i:e+f<=64)(j:Nat):
  QG LB (u+LB^q*(2^e*d)) j=if j=q then QG LB u q ||| (d*2^e)else QG LB u j:=by
 have o:=Nat.pow_pos (n:=q) QF;have p:=Td u (LB^q);have a:=Re u o;have k:u / LB^q<2^e:=(Lr o).2 (by rw[Ls];exact r);generalize u % LB^q=t at *;generalize u / LB^q=h at *;have l:2^e*2^f<=LB:=by rw[Yk,<- Lz];exact Lh x4 i
 have b:2^e<=LB:=L6 (Rz _ (R6 f)) l;have c:h+2^e*d<LB:=by
  have:2^e*(d+1)<=2^e*2^f:=Rb _ s;rw[Rp,Sz]at this;omega
 have v:u+LB^q*(2^e*d)=t+LB^q*(h+2^e*d):=by rw[Rp,<- p];omega
 rw[v,Ie QF a c,<- p,Ie QF a (L9 k b),Ie QF a (L9 k b)];by_cases m:j=q
 ·subst m;simp only[T4,if_false,if_true];rw[Nat.or_comm,Ls d,<- Nat.two_pow_add_eq_or_of_lt k d];omega
 ·by_cases g:j<q
  ·simp[m,g]
  ·simp[m,g]
def mv(V k j:Nat):QG LB (V % 256^(k+1)) j=if j=k / 8 then QG LB (V % 256^k) (k / 8) ||| (QG 256 V k*2^(k % 8*8))else QG LB (V % 256^k) j:=by
 have e:256^k=LB^(k / 8)*2^(k % 8*8):=by
  rw[Yk,show 256=2^8 from rfl,<- T1,<- T1,<- Lz];congr 1;omega
 have h:=my (V % 256^k) (k / 8) (k % 8*8) (QG 256 V k) 8 (by rw[<- e];exact Re _ (Se x4)) (YO (B:=256) x4 _ _) x3 j;rw[<- h,J8,e,R9]
variable{r:Nat}
def TY(b:d<256)(c:r<8):d*2^(r*8)<LB:=by
 have a:d*2^(r*8)<2^8*2^(r*8):=Rt b (R6 _);rw[<- Lz]at a;exact L9 a (by rw[Yk];exact Lh x4 x3)
def oI{m:Nat}(h:v / 2^m≠0):nd 1 v=m+nd 1 (v / 2^m):=by
 have a:=B9 1 x4 (v / 2^m);have b:=MH 1 (v / 2^m) h;have d:=GV 1 h;have c:=R6 m;simp only[Tu]at a b;refine WD 1 x4 ?_ (λ_=>?_)
 ·rw[Tu,Lz,Ls];exact(Lr c).1 a
 ·rw[Tu,show m+nd 1 (v / 2^m)-1=m+(nd 1 (v / 2^m)-1)by omega,Lz,Ls];exact(Te c).1 b
def Fb(x:Nat)(a:x<2^64):Lib.bitLen x=nd 1 x:=by
 by_cases b:x=0
 ·subst b;decide
 ·have d:=B9 1 x4 x;have c:=MH 1 x b;have g:=GV 1 b;have e:nd 1 x<=64:=Xf x4 (l3 a);simp only[Tu]at d c;have h:=Lib.bitLen_le x (nd 1 x) e d;have i:=Lib.bitLen_shift _ x c a;have f:x / 2^(nd 1 x-1)≠0:=by
   have:=Nat.div_pos c (R6 _);omega
  have j:=Lib.bitLen_half _ f (Lw (Rn _ _) a);omega
def gA(h:v≠0):nd 1 v=64*(nd 64 v-1)+nd 1 (QG LB v (nd 64 v-1)):=by
 have b:=B9 64 x4 v;have a:=MH 64 v h;have c:=GV 64 h;have e:QG LB v (nd 64 v-1)=v / 2^(64*(nd 64 v-1)):=by
  unfold QG;rw[Yk,X9];refine Rc ?_
  rw[Lr (R6 _),<- Lz];rw[X9]at b;rwa [show 64+64*(nd 64 v-1)=64*nd 64 v by omega]
 rw[e];refine oI ?_
 rw[X9]at a;have:=Nat.div_pos a (R6 _);omega
def oG(v:Nat):(nd 1 v+7) / 8=nd 8 v:=by
 by_cases h:v=0
 ·subst h;simp[EF]
 ·unfold nd;rw[if_neg h,if_neg h];omega
def UP(v i:Nat):QG LB v (i / 8) / 2^(i % 8*8) % 256=QG 256 v i:=by
 unfold QG;have e:256^i=LB^(i / 8)*2^(i % 8*8):=by
  rw[Yk,show 256=2^8 from rfl,<- T1,<- T1,<- Lz];congr 1;omega
 rw[e,<- Rk];generalize v / LB^(i / 8)=x;have b:i % 8<8:=Re _ x4;generalize i % 8=r at *;have a:LB=2^(r*8)*(256*2^(64-8-r*8)):=by
  rw[Yk,show 256=2^8 from rfl,<- Lz,<- Lz];congr 1;omega
 rw[a,U1,Vc]
def VX(v:Nat):List UInt8:=(List.range (nd 8 v)).map λj=>UInt8.ofNat (QG 256 v (nd 8 v-1-j))
def QL(v:Nat):xM:=⟨(VX v).toArray⟩
def Xe(u v:Nat):Int:=if u<v then -1 else if u=v then 0 else 1
def Hh{s:Nat}(a:s<=64):d*2^s % LB=d % 2^(64-s)*2^s:=by
 have e:LB=2^(64-s)*2^s:=by rw[Yk,<- Lz];congr 1;omega
 rw[e,Nat.mul_mod_mul_right]
variable{at_:Nat}
def zD{s:Nat}(i:u<LB^at_*2^s)(l:d<LB)(r:s<64)(j:Nat):
  QG LB (u+LB^at_*(2^s*d)) j=if j=at_ then QG LB u at_ ||| (d*2^s % LB)else if j=at_+1 then d / 2^(64-s)else QG LB u j:=by
 have t:=Nat.pow_pos (n:=at_) QF;have m:2^s*d=2^s*(d % 2^(64-s))+LB*(d / 2^(64-s)):=by
  have h:=Td d (2^(64-s));have e:LB=2^s*2^(64-s):=by rw[Yk,<- Lz];congr 1;omega
  rw[e,R9,<- Rp,h]
 have a:d % 2^(64-s)<2^(64-s):=Re _ (R6 _);have o:=λj=>my u at_ s (d % 2^(64-s)) (64-s) i a x3 j
 have p:u+LB^at_*(2^s*(d % 2^(64-s)))<LB^(at_+1):=by
  have e:LB=2^s*2^(64-s):=by rw[Yk,<- Lz];congr 1;omega
  rw[R8];have:LB^at_*(2^s*(d % 2^(64-s)+1))<=LB^at_*LB:=Rb _ (by rw[e];exact Rb _ a);rw[Rp,Rp,Sz]at this;omega
 have b:d / 2^(64-s)<LB:=Lw (Rn _ _) l;rw[m,Rp,<- Sf,<- R9 (LB^at_) LB,<- R8,Ie QF p b,o,Hh x3];by_cases c:j=at_
 ·subst c;simp
 ·by_cases g:j=at_+1
  ·subst g;simp
  ·by_cases k:j<at_+1
   ·simp[c,g,k]
   ·simp only[c,g,k,if_false];rw[ZH (n:=at_+1) QF ?_ x3];rw[R8];refine L9 i (Rb _ ?_);rw[Yk];exact Lh x4 x3
def mw(v q s i:Nat)(l:s<64):QG LB (v / 2^(64*q+s)) i=(QG LB v (q+i) / 2^s) ||| (QG LB v (q+i+1)*2^(64-s) % LB):=by
 have e:LB=2^s*2^(64-s):=by rw[Yk,<- Lz];congr 1;omega
 have c:v / 2^(64*q+s) / LB^i=v / LB^(q+i) / 2^s:=by
  rw[Rk,Rk];congr 1;rw[Yk,X9,X9,<- Lz,<- Lz];congr 1;omega
 have d:QG LB v (q+i+1)=v / LB^(q+i) / LB % LB:=by unfold QG;rw[R8,Rk]
 have f:QG LB v (q+i)=v / LB^(q+i) % LB:=rfl;unfold QG at *;rw[c,d,f];generalize v / LB^(q+i)=y;have h:=Td y LB;have g:y % LB<LB:=Re _ QF;generalize y % LB=a at *;generalize y / LB=z at *;rw[<- h,Hh x3,show 64-(64-s)=s by omega];have j:(a+LB*z) / 2^s=a / 2^s+2^(64-s)*z:=by
  rw[e,R9,Ss _ _ (R6 s)]
 have b:a / 2^s<2^(64-s):=(Lr (R6 s)).2 (by rw[Ls,<- e];exact g);rw[j];have k:(a / 2^s+2^(64-s)*z) % LB=2^(64-s)*(z % 2^s)+a / 2^s:=by
  rw[e,Ls (2^s) (2^(64-s)),Nat.mod_mul,V5,Rc b,Ss _ _ (R6 _),Sg b,Lm];omega
 rw[k,Nat.two_pow_add_eq_or_of_lt b,Nat.or_comm,Ls (2^(64-s)),Nat.mod_mod_of_dvd z (Nat.pow_dvd_pow 2 (by omega:s<=64) |> λh=>by rw[Yk];exact h)]
variable{i:Nat}
def I1{X Z:Nat}(h:j<i):QG B (X+B^i*Z) j=QG B X j:=by
 rw[<- Ge h,V5,Ge h]
def I0{X Z:Nat}(a:0<B):QG B (X+B^i*Z) (i+k)=QG B (X / B^i+Z) k:=by
 rw[<- Vq,Ss _ _ (Se a)]
def uO(l:List UInt8):nd 64 (KH l)<=(l.length+7) / 8:=by
 refine Xf x4 (L9 (AC l) ?_);rw[X9,show 256=2^8 from rfl,<- T1];exact Lh x4 x3
def cmpI_lt:Xe u v<0↔u<v:=by unfold Xe;split<;>(try split)<;>omega
def cmpI_gt:0<Xe u v↔v<u:=by unfold Xe;split<;>(try split)<;>omega
def Gb(f:Nat->Nat):Nat->Nat|0=>0|k+1=>Gb f k+f k
def az{f:Nat->Nat}{M:Nat}(h:∀j,f j<LB^M):∀k,Gb f k<LB^(M+k)
 |0=>by show 0<_;exact Se QF
 |k+1=>by
  have a:=az h k;have b:=h k;have c:LB^M<=LB^(M+k):=Lh QF x3;show Gb f k+f k<LB^(M+k+1);rw[R8];have d:LB^(M+k)*2<=LB^(M+k)*LB:=Rb _ x4;omega
def xj{a b m n:Nat}(h:2^a*(2*m+1)=2^b*(2*n+1)):a=b:=by
 rcases Nat.lt_trichotomy a b with c|c|c
 ·exfalso;obtain⟨d,rfl⟩:∃d,b=a+(d+1):=⟨b-a-1,x3⟩
  rw[Lz,R9]at h;have e:=Nat.eq_of_mul_eq_mul_left (R6 a) h;rw[R8,Ls (2^d) 2,R9]at e;omega
 ·exact c
 ·exfalso;obtain⟨d,rfl⟩:∃d,a=b+(d+1):=⟨a-b-1,x3⟩
  rw[Lz,R9]at h;have e:=Nat.eq_of_mul_eq_mul_left (R6 b) h;rw[R8,Ls (2^d) 2,R9]at e;omega
def tz(v:Nat):Nat:=if v=0 then 0 else Lib.ctzFrom v v
def Ck(h:v≠0):∃m,v=2^tz v*(2*m+1):=by
 let⟨m,a,_⟩:=Lib.ctzFrom_spec v v x3 Nat.lt_two_pow_self;exact⟨m,by unfold tz;rw[if_neg h];exact a⟩
def yZ{m:Nat}(h:v=2^k*(2*m+1)):tz v=k:=by
 have a:v≠0:=by have:=R6 k;rw[h];exact Nat.ne_of_gt (Vg this x3)
 let⟨n,b⟩:=Ck a;exact xj (b.symm.trans h)
def Qb7{x:Nat}(a:x≠0)(b:x<2^64):Lib.ctz 64 x=tz x:=by
 let⟨m,c,_⟩:=Lib.ctzFrom_spec 64 x x3 b;unfold Lib.ctz;rw[if_neg a];exact(yZ c).symm
def xp(c:v % LB^i=0)(d:QG LB v i≠0):tz v=64*i+tz (QG LB v i):=by
 let⟨m,b⟩:=Ck d;have f:tz (QG LB v i)<64:=by
  have g:=YO QF v i;apply Uw;intro a;have j:2^64<=2^tz (QG LB v i):=Lh x4 a;have l:2^tz (QG LB v i)<=QG LB v i:=by
   conv=>rhs;rw[b]
   exact Rz _ x3
  have n:=Yk;omega
 have h:=SG LB v i;rw[c,Lm]at h;generalize tz (QG LB v i)=k at *;have e:LB=2^k*(2*2^(63-k)):=by rw[Yk,<- Nat.pow_succ',<- Lz];congr 1;omega
 refine yZ (m:=m+2^(63-k)*(v / LB^(i+1))) ?_
 rw[Lz,<- X9,<- Yk,R9]
 conv=>lhs;rw[h]
 congr 1;rw[b]
 conv=>lhs;rhs;lhs;rw[e]
 rw[R9,<- Rp];congr 1;rw[Rp,R9];omega
def IQ(l:List UInt8):KH (0::l)=KH l:=by simp[KH]
def Dp(v:Nat):(VX v).length=nd 8 v:=by simp[VX]
def TV(v:Nat):KH (VX v)=v:=by
 have a:=Dp v;refine AH (B:=256) (n:=nd 8 v) (by have:=AC (VX v);rwa [a]at this) (B9 8 x4 v) λj b=>?_
 rw[Ec _ _ x3];simp only[VX,V4,Tw,Rg,Sb];rw[show nd 8 v-1-(nd 8 v-1-j)=j by omega];have:=YO (B:=256) x4 v j;simp;omega
def FK(v:Nat):KH (QL v).data.toList=v:=by show KH (VX v)=v;exact TV v
def kg{l:List UInt8}(h:∀c,l.head?=some c->c≠0):VX (KH l)=l:=by
 have f:nd 8 (KH l)=l.length:=by
  refine WD 8 x4 (AC l) λm=>?_
  rcases l with _|⟨c,l⟩
  ·simp at m
  ·have n:c≠0:=h c rfl;have a:=Ec (c::l) l.length x6;simp at a;have b:c.toNat≠0:=λe=>n (by rw[<- UInt8.toNat_inj];simpa using e)
   show 256^(l.length+1-1)<=_;rw[Uj];apply Sx;intro d;rw[PE d]at a;exact b a.symm
 apply Ve
 ·rw[Dp,f]
 ·intro i a o;simp only[VX,V4,Tw];rw[f,Ec l _ x3];have e:∀j (g:j<l.length),j=i->l[j]'g=l[i]'o:=λj g e=>by subst e;rfl
  rw[e _ _ x3];simp
def FJ(l:List UInt8):VX (KH l)=l.dropWhile (·==0):=by
 induction l with
 |nil=>rfl
 |cons c l e =>
  by_cases a:c=0
  ·subst a;rw[IQ,e];simp
  ·rw[List.dropWhile_cons_of_neg (l3 a)];exact kg λd b=>by simp at b;subst b;exact a
def GE(v:Nat):(QL v).size=nd 8 v:=by show(VX v).toArray.size=_;simp[Dp]
theorem YV(v:Nat):v<LB^nd 64 v:=B9 64 x4 v
def Rd(w:xH)(A:xN)(n:Nat)(f:Nat->y9):Prop:=0<n->∃b off,A=some ⟨b,off,none⟩/\∀j,j<n->w.cell? ⟨b,off+j,none⟩=some (f j)
def Off(A:xN)(g:Nat):Prop:=∀a,A=some a->a.block≠g
def Cel(w:xH)(g:Nat)(t:o0)(T:Nat)(f:Nat->y9):Prop:=∃cs:x0g,w.heap[g]?=some (.cells cs t (0,0))/\cs.size=T/\∀j,j<T->cs[j]?=some (f j)
def CT(o n:Nat)(h f:Nat->y9)(j:Nat):y9:=if o<=j/\j<o+n then h (j-o)else f j
variable{o:Nat}{h f:Nat->y9}
def FI{n:Nat}(a:i<n):CT o n h f (o+i)=h i:=by unfold CT;rw[if_pos ⟨x3,x3⟩,Sq]
def GD{n:Nat}{a:Nat->y9}(b:∀i,i<n->h i=a i)(j:Nat):CT o n h f j=CT o n a f j:=by
 unfold CT;split
 ·exact b _ x3
 ·rfl
def AW{n:Nat}{a:Nat->y9}{u:y9}(b:i<n)(c:a i=u)(d:∀j,j<n->j≠i->h j=a j)(j:Nat):(if j=o+i then u else CT o n h f j)=CT o n a f j:=by
 by_cases e:j=o+i
 ·subst e;rw[if_pos rfl,FI b,c]
 ·rw[if_neg e];unfold CT;split
  ·exact d _ x3 x3
  ·rfl
variable{p:Addr}{w:xH}
def G7{u:y9}(h:w.cell? p=some u):p.block<w.heap.size:=by
 unfold World.cell? at h;split at h
 ·rename_i c;rcases R5 p.block w.heap.size with a|b
  ·exact a
  ·rw[p7 b]at c;cases c
 ·cases h
variable{a b:xH}
section
variable{w w':World}{A:Option Addr}{n n' g:Nat}{t:TypeId}{T:Nat}{f f':Nat->Value}
def Rd.of_le(h:Rd w A n f)(c:n'<=n):Rd w A n' f:=λd=>by
 let⟨b,off,e,a⟩:=h x3;exact⟨b,off,e,λj g=>a j x3⟩
def Rd.congr(h:Rd w A n f)(c:∀j,j<n->f j=f' j):Rd w A n f':=λd=>by
 let⟨b,off,e,g⟩:=h d;exact⟨b,off,e,λj a=>by rw[g j a,c j a]⟩
theorem Rd.nil_:Rd w A 0 f:=λh=>absurd h x3
def Rd.keep(h:Rd w A n f)(g:∀p:Addr,p.block<w.heap.size->(∀a,A=some a->p.block=a.block)->w'.cell? p=w.cell? p):Rd w' A n f:=λi=>by
 obtain⟨b,off,rfl,d⟩:=h i;exact⟨b,off,rfl,λj e=>by rw[g _ (G7 (d j e)) (λa c=>by injection c with c;subst c;rfl)];exact d j e⟩
def Rd.below(h:Rd w A n f)(a:Below w.heap.size w w'):Rd w' A n f:=h.keep λ_ b _=>a.cell b
def Rd.drew(h:Rd w A n f):Rd w.drew A n f:=h
def Rd.drewN(h:Rd w A n f)(k:Nat):Rd (w.drewN k) A n f:=h
def Rd.alloc(h:Rd w A n f)(o:Obj):Rd (w.alloc o) A n f:=h.keep λp a _=>World.cell?_alloc_lt w o p a
def Rd.grown(h:Rd w A n f)(k:w.grownBy w' (some g))(l:Off A g):Rd w' A n f:=λm=>by
 obtain⟨b,off,rfl,d⟩:=h m;refine⟨b,off,rfl,λj i=>?_⟩;have c:=G7 (d j i);exact(World.cell?_of_block (a:=⟨b,off+j,none⟩) (k.block b c (λe=>l _ rfl (by injection e)))).trans (d j i)
def Cel.lt(h:Cel w g t T f):g<w.heap.size:=by
 let⟨cs,c,_,_⟩:=h;rcases R5 g w.heap.size with a|b
 ·exact a
 ·rw[p7 b]at c;cases c
def Cel.cell(h:Cel w g t T f){i:Nat}(a:i<T):w.cell? ⟨g,i,none⟩=some (f i):=by
 let⟨cs,b,d,c⟩:=h;rw[cell_of_row w g i cs t (0,0) b];exact c i a
def Cel.frozen(h:Cel w g t T f)(i:Nat):w.frozen? ⟨g,i,none⟩=false:=by
 let⟨cs,a,b,c⟩:=h;simp[World.frozen?,a]
def Cel.congr(h:Cel w g t T f)(b:∀j,j<T->f j=f' j):Cel w g t T f':=by
 let⟨cs,c,d,e⟩:=h;exact⟨cs,c,d,λj a=>by rw[e j a,b j a]⟩
def Cel.drew(h:Cel w g t T f):Cel w.drew g t T f:=h
def Cel.drewN(h:Cel w g t T f)(n:Nat):Cel (w.drewN n) g t T f:=h
def Cel.below{B:Nat}(h:Cel w g t T f)(a:Below B w w')(b:g<B):Cel w' g t T f:=by
 let⟨cs,c,d,e⟩:=h;exact⟨cs,(a.block g b).trans c,d,e⟩
def Cel.bel(h:Cel w g t T f)(a:Below w.heap.size w w'):Cel w' g t T f:=h.below a h.lt
def Cel.alloc(h:Cel w g t T f)(o:Obj):Cel (w.alloc o) g t T f:=by
 have:=h.lt;let⟨cs,a,b,c⟩:=h;exact⟨cs,(U7 w o g this).trans a,b,c⟩
def Cel.grown{row:Option Nat}(h:Cel w g t T f)(a:w.grownBy w' row)(b:some g≠row):Cel w' g t T f:=by
 have:=h.lt;let⟨cs,c,d,e⟩:=h;exact⟨cs,(a.block g this b).trans c,d,e⟩
def Cel.set_(h:Cel w g t T f)(i:Nat)(u:y9):Cel (w.setCell ⟨g,i,none⟩ u) g t T (λj=>if j=i then u else f j):=by
 let⟨cs,c,a,d⟩:=h;refine⟨cs.setIfInBounds i u,?_,l3 a,λj b=>?_⟩
 ·simp[World.setCell,Array.getElem?_modify,c]
 ·rw[Array.getElem?_setIfInBounds];by_cases e:i=j
  ·subst e;simp[a,b]
  ·have k:¬ j=i:=λh=>e h.symm
   simp only[if_neg e,if_neg k,d j b]
def Cel.far(h:Cel w g t T f){p:Addr}(a:g≠p.block)(u:y9):Cel (w.setCell p u) g t T f:=by
 let⟨cs,b,c,d⟩:=h;exact⟨cs,(Sr w p u g a).trans b,c,d⟩
def Cel.new(w:xH)(t:o0)(cs:x0g):Cel (w.alloc (.cells cs t)) w.heap.size t cs.size (λj=>cs.getD j undef) :=
 ⟨cs,heap_alloc_new w _,rfl,λj a=>by simp[Array.getD,a]⟩
def Cel.rd(h:Cel w g t T f){o n:Nat}(a:o+n<=T):Rd w (some ⟨g,o,none⟩) n (λj=>f (o+j)):=λ_=>⟨g,o,rfl,λj b=>h.cell x3⟩
def Off.some_{b o:Nat}(h:b≠g):Off (some ⟨b,o,none⟩) g:=λa c=>by injection c with c;subst c;exact h
def Vr{c:xH}{row:Option Nat}(h:a.grownBy b row)(k:b.grownBy c row):a.grownBy c row :=
 ⟨k.os.trans h.os,k.tape.trans h.tape,k.output.trans h.output,L6 h.size k.size,λi e d=>(k.block i (L9 e h.size) d).trans (h.block i e d)⟩
def CB{row:Option Nat}(h:a.grownBy b row)(k:Nat):a.grownBy (b.drewN k) row:=⟨h.os,h.tape,h.output,h.size,h.block⟩
def grownBy_alloc{w:xH}{row:Option Nat}(h:a.grownBy w row)(o:Obj):a.grownBy (w.alloc o) row :=
 ⟨h.os,h.tape,h.output,L6 h.size x6,λi c b=>(U7 w o i (L9 c h.size)).trans (h.block i c b)⟩
def Zj{w:xH}(h:a.grownBy w (some g)){p:Addr}(c:p.block=g\/a.heap.size<=p.block)(u:y9):a.grownBy (w.setCell p u) (some g) :=
 ⟨h.os,h.tape,h.output,by simpa [World.setCell]using h.size,λi d b=>(Sr w p u i (by
  rintro rfl;rcases c with c|c
  ·exact b (by rw[c])
  ·omega)).trans (h.block i d b)⟩
def Vj{w:xH}(h:Below a.heap.size a w)(row:Option Nat):a.grownBy w row:=⟨h.os,h.tape,h.output,h.size,λi b _=>h.block i b⟩
def CA{w:xH}{row:Option Nat}(h:a.grownBy w row)(k:Below w.heap.size w b):a.grownBy b row:=Vr h (Vj k row)
def Zu{w:xH}{B:Nat}(h:Below B a w)(k:w.grownBy b (some g))(d:B<=w.heap.size)(e:B<=g):Below B a b:=h.grown k d (λi c=>by injection c with c;omega)
def Zk{B:Nat}{w:xH}(h:Below B a w)(n:Nat):Below B a (w.drewN n):=⟨h.os,h.tape,h.output,h.size,h.block⟩
def QW{B:Nat}{w:xH}(h:Below B a w)(k:Below w.heap.size w b)(c:B<=w.heap.size):Below B a b:=h.trans (k.mono c)
end
section
variable{P:Program}{w:World}{ops:Array Oper}{rest:List Oper}{o:Oper}{a:Act}{Q:Exit->Act->World->Prop}
def Cel.made(w:xH)(e:o0)(z:y9)(n:Nat):Cel (w.alloc (.cells (madeCells #[z] n) e)) w.heap.size e n (λ_=>z) :=
 ⟨madeCells #[z] n,heap_alloc_new w _,by simp[size_madeCells],λj a=>by
  have h:=toList_madeCells_one z n;rw[<- Array.getElem?_toList,h];simp[a]⟩
def Bk{T:o0}(s:xM)(h:P.underlying T=some .string)(k:IntKind)(i:Int)(j:Nat)(a:i=(j:Int))(b:j<s.size)(w:xH):
  (Instr.index T (.string s) (.int k i)).run P w=.ok (.int .u8 ((s.data.toList[j]'(l3 b)).toNat:Nat)) w:=by
 subst a;rw[run_index_string _ _ _ _ _ h,dif_pos ⟨x3,x3⟩];rfl
def jV(l:List Int):∀s:xM,l.foldl (λr n=>r.push (UInt8.ofNat n.toNat)) s=⟨(s.data.toList++l.map λn=>UInt8.ofNat n.toNat).toArray⟩:=by
 induction l with
 |nil=>intro s;simp
 |cons n l a =>
  intro s;rw[List.foldl_cons,a];simp[ByteArray.push]
theorem add_plain(b off j:Nat):(⟨b,off,none⟩:Addr).add j=⟨b,off+j,none⟩:=by
 unfold Addr.add;split
 ·rename_i h;subst h;rfl
 ·rfl
def EQ(d g e:o0)(i:P.underlying d=some (.slice e))(k:P.underlying e=some (.int .u8))(l:P.underlying g=some .string)(A:xN)(n c:Nat)(f:Nat->Nat)(m:Rd w A n λj=>.int .u8 (f j:Nat)):(convert d g (.slice A n c)).run P w=.ok (.string ⟨((List.range n).map λj=>UInt8.ofNat (f j)).toArray⟩) w:=by
 rw[run_convert_bytes_string w d g e A n c i k l];by_cases o:n=0
 ·subst o;rcases A with _|a
  ·simp[Conv.bytesToString];rfl
  ·rw[run_bytesToString w a 0 c [] (by have:=run_loadCells (P:=P) (w:=w) a 0 (λ_=>undef) (λj h=>x3);simpa using this)];rfl
 ·obtain⟨b,off,rfl,p⟩:=m x3;have q:=run_loadCells (P:=P) (w:=w) ⟨b,off,none⟩ n (λj=>.int .u8 (f j:Nat)) (λj h=>by rw[add_plain];exact p j h);rw[run_bytesToString w _ n c ((List.range n).map λj=>(f j:Int)) (by rw[q];simp)];rw[jV];simp
def qx(a c:Nat)(ci:Int)(b:ci=(c:Int))(h:a*2^c<LB):IntKind.u64.wrap ((a:Int)*2^ci.toNat)=((a*2^c:Nat):Int):=by
 subst b;rw[Jo]at h;rw[b7,Sm,show(2:Int)^c=((2^c:Nat):Int)by simp,<- Ty];omega
def ES(a c:Nat):IntKind.u64.wrap ((a:Int)*2^c)=((a*2^c % LB:Nat):Int):=by
 rw[b7,show(2:Int)^c=((2^c:Nat):Int)by simp,<- Ty,Jo];omega
def aj(a c:Nat):(a:Int) / 2^c=((a / 2^c:Nat):Int):=by
 rw[Vd,Int.natCast_pow];rfl
def RH(a b:Nat)(c:a<LB)(d:b<LB):bits .or .u64 (a:Int) (b:Int)=((a ||| b:Nat):Int):=u64_or_nat a b c d
def Yt(q:o.guard=none)(l c:x0h)(t:o0)(f:o.op=Op.makeSlice t l c)(e:o0)(z:y9)(bytes:Nat)(r:P.underlying t=some (.slice e))(d:(P.info? e).map (λi=>(i.zero,i.size,i.bytes))=some (some z,1,bytes))(g:z.cells=#[z])(m p:IntKind)(L C:Int)(n:Nat)(s:a.eval l=.int m L)(u:a.eval c=.int p C)(v:L=(n:Int))(x:C=(n:Int))(b2:bytes*n<=281474976710656)(b3:n<=9223372036854775807)(y:∀w',Cel w' w.heap.size e n (λ_=>z)->Below w.heap.size w w'->w.heap.size<w'.heap.size->wpList P ops Q rest (a.put o.dst (.slice (some ⟨w.heap.size,0,none⟩) n n)) w'):
  wpList P ops Q (o::rest) a w:=by
 let⟨i,A,B,h,j⟩:=info_parts d;refine wpList_plain q λK k=>?_
 have b:=run_make (P:=P) w t e i z r A B m p n n x3 x3 (by rw[j];omega) x3;simp only[Sm,h,Sz,g]at b;subst v;subst x;unfold Oper.wp;simp[execOp,f,s,u,b,Result.andThen];exact k _ _ (y _ (Cel.made w e z n) ((p5 _ w).alloc (L4 _) _) x6)
def H6(u:o.guard=none)(d s:x0h)(A B:o0)(I:o.op=.call { callee:=.builtin .copy,args:=#[d,s],argTypes:=#[A,B] })(elem:o0)(J:P.underlying A=some (.slice elem))(x:(P.info? elem).map (·.size)=some 1)(C D:xN)(c l k n:Nat)(K:a.eval d=.slice C c l)(L:a.eval s=.slice D k n)(g off T:Nat)(t:o0)(f q:Nat->y9)(M:Cel w g t T f)(m:Nat)(N:m=Nat.min k c)(E:0<m->C=some ⟨g,off,none⟩)(U:Rd w D m q)(O:off+m<=T)(F:∀j,(q j).oneCell'=true)(h:∀w',Cel w' g t T (λj=>if off<=j/\j<off+m then q (j-off)else f j)->w.grownBy w' (some g)->wpList P ops Q rest (a.put o.dst (goInt m)) w'):
  wpList P ops Q (o::rest) a w:=by
 by_cases V:m=0
 ·subst V;refine wpList_copy_nothing u d s A B I elem J x C D c l k n K L N.symm ?_
  exact h w (M.congr λj _=>by rw[if_neg x3]) (World.grownBy.refl w _)
 ·let⟨cs,R,G,S⟩:=M;have y:0<m:=x3;obtain⟨b,o',rfl,W⟩:=U y;obtain rfl:=E y;have hl:cs.toList.length=T:=l3 G;have p:((List.range m).map q).length=m:=x6;refine wpList_copy_own u d s A B I elem J x g off c l _ k n K L cs t R ((List.range m).map q) (l3 N) (λj v z=>?_) (by rw[p];omega)
   (λv z=>by obtain⟨j,_,rfl⟩:=Lv.1 z;exact F j) ?_
  ·by_cases r:j<m
   ·have e:v=q j:=by simp[r]at z;exact z.symm
    subst e;rw[<- W j r];congr 1;unfold Addr.add;split
    ·rename_i X;subst X;rfl
    ·rfl
   ·simp[r]at z
  ·rw[show goInt ((List.range m).map q).length=goInt m by simp];refine h _ ⟨_,setRow_heap w g _ _ t _ R,x7,λj r=>?_⟩ ⟨rfl,rfl,rfl,by simp[World.setRow],λi _ H=>?_⟩
   ·have e:(cs.toList.take off).length=off:=x7;simp only[List.getElem?_toArray];by_cases F:j<off
    ·rw[List.getElem?_append_left x3,b9 F,if_neg x3];simpa using S j r
    ·rw[sT x3,e];by_cases Y:j<off+m
     ·rw[List.getElem?_append_left x3,if_pos ⟨x3,Y⟩];have Z:j-off<m:=x3;simp[Z]
     ·rw[sT x3,if_neg x3,p];simp only[List.getElem?_drop];rw[show off+m+(j-off-m)=j by omega];simpa using S j r
   ·simp only[World.setRow,Array.getElem?_modify];rw[if_neg (λe=>H (by rw[e]))]
end
def Yr:Nat:=4294967296
theorem Zt:Yr=4294967296:=rfl
structure Guess (u u1 y1 y0 q r:Nat):Prop where
 eq:q*y1+r=u
 ge:(u*Yr+u1) / (y1*Yr+y0)<=q
 rlt:r<Yr
 qle:q<=Yr+1
variable{b:Nat}
def Ha(u u1:Nat){a:Nat}(h:2147483648<=a)(i:a<Yr)(j:b<Yr)(k:u<a*Yr+b)(d:u1<Yr):Guess u u1 a b (u / a) (u % a):=by
 have c:0<a:=x3;have l:=Re u c;have e:=Tc u a;refine⟨by rw[Ls];exact e,?_,x3,?_⟩
 ·apply Nat.le_of_lt_succ;rw[Lr (by have:0<a*Yr:=Vg c x4;omega)];have m:(u / a+1)*a*Yr<=(u / a+1)*(a*Yr+b):=by rw[R9];exact Rb _ x3
  have f:u+1<=(u / a+1)*a:=by rw[S8,Tl,Ls];omega
  have g:(u+1)*Yr<=(u / a+1)*a*Yr:=Lt _ f;rw[S8,Tl]at g;show _<(u / a+1)*_;omega
 ·rw[<- Nat.lt_add_one_iff,Lr c];simp only[Zt]at *;omega
variable{q:Nat}
def Mj{c a:Nat}(g:Guess u c a b q r)(d:0<a*Yr+b)(e:q*b<=Yr*r+c):q=(u*Yr+c) / (a*Yr+b):=by
 refine Ra ?_ g.ge;rw[Te d,Rp,<- R9];have h:=g.eq;have f:u*Yr=q*a*Yr+r*Yr:=by rw[<- h,S8]
 rw[Ls Yr]at e;omega
def D6{c a:Nat}(g:Guess u c a b q r)(_h0:b<Yr)(i:u<a*Yr+b)(j:c<Yr)(d:Yr<=q\/Yr*r+c<q*b):
  0<q/\(u*Yr+c) / (a*Yr+b)<=q-1/\(q-1)*a+(r+a)=u:=by
 have f:0<a*Yr+b:=x3;have e:(u*Yr+c) / (a*Yr+b)<q:=by
  rcases d with d|d
  ·refine L9 ?_ d;rw[Lr f];have:(u+1)*Yr<=Yr*(a*Yr+b):=by rw[Ls];exact Rb _ i
   rw[S8,Tl]at this;omega
  ·rw[Lr f,Rp,<- R9];have l:u*Yr=q*a*Yr+r*Yr:=by rw[<- g.eq,S8]
   rw[Ls Yr]at d;omega
 refine⟨Lw (L7 _) e,Nat.le_sub_one_of_lt e,?_⟩;have k:0<q:=Lw (L7 _) e;clear e;have h:=g.eq;obtain⟨p,rfl⟩:∃p,q=p+1:=⟨q-1,x3⟩
 rw[Uj];rw[S8]at h;omega
def Mk{c a:Nat}(g:Guess u c a b q r)(e:b<Yr)(f:u<a*Yr+b)(d:c<Yr)(h:Yr<=q\/Yr*r+c<q*b)(i:r+a<Yr):
  Guess u c a b (q-1) (r+a):=by
 let⟨_,j,k⟩:=D6 g e f d h;exact⟨k,j,i,x8 g.qle⟩
def Ot{c a:Nat}(g:Guess u c a b q r)(f:b<Yr)(h:u<a*Yr+b)(d:c<Yr)(i:Yr<=q\/Yr*r+c<q*b)(j:Yr<=r+a):
  q-1=(u*Yr+c) / (a*Yr+b):=by
 let⟨m,k,l⟩:=D6 g f h d i;refine Ra ?_ k;rw[Te x3,Rp,<- R9];have e:u*Yr=(q-1)*a*Yr+(r+a)*Yr:=by rw[<- l,S8]
 have n:=g.qle;have o:(q-1)*b<=Yr*Yr:=Nat.mul_le_mul x3 (Sv f);have p:Yr*Yr<=(r+a)*Yr:=Lt _ j;omega
def eF(u a b y:Nat)(c:0<y):(u*Yr+a) / y*Yr+((u*Yr+a) % y*Yr+b) / y=((u*Yr+a)*Yr+b) / y:=by
 have h:=Tc (u*Yr+a) y;generalize (u*Yr+a) / y=t at *;generalize (u*Yr+a) % y=r at *;rw[<- h];have e:(y*t+r)*Yr+b=(r*Yr+b)+y*(t*Yr):=by rw[S8,R9];omega
 rw[e,Ss _ _ c,T8]
def OW(u u1 y:Nat)(b:q=(u*Yr+u1) / y)(c:0<y)(a:y<LB):
  IntKind.u64.wrap (IntKind.u64.wrap (IntKind.u64.wrap ((u:Int)*4294967296)+(u1:Int))-IntKind.u64.wrap ((q:Int)*(y:Int)))=(((u*Yr+u1) % y:Nat):Int):=by
 have h:=Tc (u*Yr+u1) y;have d:=Re (u*Yr+u1) c;rw[<- b]at h;have e:((q:Int)*(y:Int))=((y*q:Nat):Int):=by rw[Ls,Ty]
 rw[e];generalize y*q=p at *;generalize (u*Yr+u1) % y=r at *;simp only[b7];rw[Zt]at h;rw[Jo]at a;omega
def I4{y:Nat}(h:9223372036854775808<=y)(a:y<LB):Lib.bitLen y=64:=by
 rw[Fb y a];exact WD 1 x4 (by rw[Tu];exact a) (λ_=>by rw[Tu];exact h)
def Hb{c a:Nat}(g:Guess u b c a q r)(e:c<4294967296)(f:a<4294967296)(d:b<4294967296):
  IntKind.u64.wrap ((r:Int)+(c:Int))=((r+c:Nat):Int)/\IntKind.u64.wrap (4294967296*(r:Int))=((Yr*r:Nat):Int)/\IntKind.u64.wrap (((Yr*r:Nat):Int)+(b:Int))=((Yr*r+b:Nat):Int) /\
   (q<4294967296->IntKind.u64.wrap ((q:Int)*(a:Int))=((q*a:Nat):Int))/\(0<q->IntKind.u64.wrap ((q:Int)-1)=((q-1:Nat):Int)):=by
 have i:=g.rlt;have j:=g.qle;simp only[b7];simp only[Zt]at *;refine⟨x3,x3,x3,λh=>?_,λh=>x3⟩;have k:q*a<=4294967295*4294967295:=Nat.mul_le_mul x3 x3;rw[<- Ty];generalize q*a=p at *;omega
def ng{R:Nat}(n top next:Nat){bt:Nat}(f:R=R % LB^n+LB^n*(next+LB*top))(d:bt*LB^n<=b)(c:0<bt):R / b<=(top*LB+next) / bt:=by
 have e:=Nat.pow_pos (n:=n) QF;have h:=Re R e;have g:0<b:=L9 (Vg c e) d;rw[Te c];apply Nat.le_of_lt_succ;apply Nat.lt_of_mul_lt_mul_right (a:=LB^n)
 calc R / b*bt*LB^n=R / b*(bt*LB^n):=R9 _ _ _
  _<=R / b*b:=Rb _ d
  _<=R:=Nat.div_mul_le_self _ _
  _<(top*LB+next).succ*LB^n:=by
   rw[Ru]
   conv=>lhs;rw[f]
   rw[Ls (LB^n),Ls LB top,T8 next];omega
def kZ{X Y nb:Nat}(j:0<nb)(k:X<Y*LB^(at_+1))(g:LB^(nb-1)*9223372036854775808<=Y)(b:Y<LB^nb):
  X / LB^at_<Y*LB/\X / LB^at_<LB^(nb+1)/\9223372036854775808<=QG LB Y (nb-1) /\
   (QG LB X (at_+nb)<QG LB Y (nb-1)->X / LB^at_ / Y<=(QG LB X (at_+nb)*LB+QG LB X (at_+nb-1)) / QG LB Y (nb-1)/\(QG LB X (at_+nb)*LB+QG LB X (at_+nb-1)) / QG LB Y (nb-1)<LB) /\
   X / LB^at_ / Y<LB/\0<Y:=by
 have l:=Nat.pow_pos (n:=at_) QF;have a:=Nat.pow_pos (n:=nb-1) QF;have c:0<Y:=L9 (Vg a x4) g;have e:X / LB^at_<Y*LB:=by
  rw[Lr l,R9,Ls LB,<- R8];exact k
 have h:X / LB^at_<LB^(nb+1):=L9 e (by rw[R8];exact Lt _ (Sv b));have d:QG LB Y (nb-1)=Y / LB^(nb-1):=by
  unfold QG;refine Rc ?_
  rw[Lr a,Ls,<- R8,show(nb-1).succ=nb by omega];exact b
 have m:9223372036854775808<=QG LB Y (nb-1):=by
  rw[d,Te a,Ls];exact g
 refine⟨e,h,m,λf=>⟨?_,?_⟩,?_,c⟩
 ·have o:QG LB X (at_+nb)=QG LB (X / LB^at_) (nb-1+1):=by rw[Vq];congr 1;omega
  have p:QG LB X (at_+nb-1)=QG LB (X / LB^at_) (nb-1):=by rw[Vq];congr 1;omega
  rw[o,p];refine ng (nb-1) (QG LB (X / LB^at_) (nb-1+1)) (QG LB (X / LB^at_) (nb-1)) ?_ ?_ x3
  ·have i:=SG LB (X / LB^at_) (nb-1);have q:X / LB^at_ / LB^(nb-1+1)=QG LB (X / LB^at_) (nb-1+1):=by
    unfold QG;refine(Rc ?_).symm;rw[Lr (Se QF),Ls,<- R8,show(nb-1+1).succ=nb+1 by omega];exact h
   rw[q]at i;exact i
  ·rw[d];exact Nat.div_mul_le_self _ _
 ·rw[Lr x3];have s:=YO QF X (at_+nb-1);have r:(QG LB X (at_+nb)+1)*LB<=QG LB Y (nb-1)*LB:=Lt _ f;rw[S8,Tl]at r;rw[Ls LB];omega
 ·rw[Lr c,Ls];exact e
def mz{X nb Z:Nat}(g:X<LB^(at_+nb+1))(k:Z<=X / LB^at_):
  QG LB (X-LB^at_*Z) j=if at_<=j/\j<at_+(nb+1)then QG LB (X / LB^at_-Z) (j-at_)else QG LB X j:=by
 have e:X-LB^at_*Z=X % LB^at_+LB^at_*(X / LB^at_-Z):=by
  have h:=Td X (LB^at_);have d:LB^at_*Z<=LB^at_*(X / LB^at_):=Rb _ k;rw[Nat.mul_sub];generalize X % LB^at_=a at *;generalize LB^at_*(X / LB^at_)=b at *;generalize LB^at_*Z=c at *;omega
 have f:X % LB^at_<LB^at_:=Re _ (Se QF);by_cases h:at_<=j/\j<at_+(nb+1)
 ·rw[if_pos h,e];obtain⟨i,rfl⟩:∃i,j=at_+i:=⟨j-at_,x3⟩
  rw[I0 QF,Sg f,Lm,Sq]
 ·rw[if_neg h];by_cases d:j<at_
  ·rw[e,I1 d,Ge d]
  ·rw[ZH QF g x3,ZH QF (Lw (V9 _ _) g) x3]
def dI(h:v≠0):
  0<nd 1 (QG LB v (nd 64 v-1))/\nd 1 (QG LB v (nd 64 v-1))<=64/\LB^(nd 64 v-1)*9223372036854775808<=v*2^(64-nd 1 (QG LB v (nd 64 v-1)))/\v*2^(64-nd 1 (QG LB v (nd 64 v-1)))<LB^nd 64 v:=by
 have d:QG LB v (nd 64 v-1)≠0:=tF (k:=64) x4 h;have f:=GV 1 d;have g:nd 1 (QG LB v (nd 64 v-1))<=64:=Xf x4 (by rw[Tu];exact YO QF _ _);have i:=gA h;have a:=B9 1 x4 v;have c:=MH 1 v h;have j:=GV 64 h;simp only[Tu]at a c;generalize nd 1 (QG LB v (nd 64 v-1))=b at *;rw[i]at a c;refine⟨f,g,?_,?_⟩
 ·have e:LB^(nd 64 v-1)*9223372036854775808=2^(64*(nd 64 v-1)+b-1)*2^(64-b):=by
   rw[Yk,X9,show 9223372036854775808=2^63 from rfl,<- Lz,<- Lz];congr 1;omega
  rw[e];exact Lt _ c
 ·have e:LB^nd 64 v=2^(64*(nd 64 v-1)+b)*2^(64-b):=by
   rw[Yk,X9,<- Lz];congr 1;omega
  rw[e];exact Rt a (R6 _)
def FP(U Y p:Nat):U % (Y*LB^(p+1)) / LB^p / Y=QG LB (U / Y) p:=by
 unfold QG;rw[Rk,Rk,Ls (LB^p),R8,<- R9,U1]
def pT(U Y p:Nat):U % (Y*LB^(p+1))-LB^p*(Y*QG LB (U / Y) p)=U % (Y*LB^p):=by
 have h:=Nat.mod_mod_of_dvd U (show Y*LB^p ∣ Y*LB^(p+1)from⟨LB,by rw[R8,R9]⟩);rw[<- FP];generalize U % (Y*LB^(p+1))=X at *;rw[<- h,Rk];have a:=Tc X (Y*LB^p);rw[Ls (LB^p) Y,<- R9,Ls (LB^p) Y];omega
def OwnR(w:xH)(base:Nat)(e:o0)(v:y9)(n:Nat)(f:Nat->y9):Prop:=w.ownsRow base e 1 v n ((List.range n).map f)
def OwnR.nil_(w:xH)(base:Nat)(e:o0)(f:Nat->y9):OwnR w base e (.slice none 0 0) 0 f:=⟨x6,.inl ⟨rfl,rfl⟩⟩
variable{v:y9}{base:Nat}{e:o0}
def OwnR.congr{n:Nat}{f':Nat->y9}(h:OwnR w base e v n f)(a:∀j,j<n->f j=f' j):OwnR w base e v n f':=by
 unfold OwnR at *;rw[show(List.range n).map f'=(List.range n).map f from S6 λj b=>(a j (l3 b)).symm];exact h
def OwnR.rd{n:Nat}(h:OwnR w base e v n f):∃A c,v=.slice A n c/\n<=c/\Rd w A n f/\(∀a,A=some a->base<=a.block):=by
 rcases h.2 with⟨rfl,rfl⟩|⟨g,cap,b,rfl,k,l,m,_,q,o⟩
 ·exact⟨none,0,rfl,L4 _,Rd.nil_,λa d=>by cases d⟩
 ·refine⟨_,cap,rfl,m,λ_=>⟨g,0,rfl,λj p=>?_⟩,λa d=>by injection d with d;subst d;exact k⟩;rw[cell_of_row w g (0+j) b e (0,0) l,Lm,<- Array.getElem?_toList];have i:(b.toList.take (n*1))[j]?=some (f j):=by rw[o];simp[p]
  rw[b9 x3]at i;exact i
variable{w':xH}
def OwnR.below{n:Nat}(h:OwnR w base e v n f)(a:Below w.heap.size w w')(_:B<=base):OwnR w' base e v n f :=
 World.ownsRow.kept (row:=none) h (Vj a none) (by
  rcases h.2 with⟨rfl,_⟩|⟨g,cap,b,rfl,_⟩
  ·exact .inl rfl
  ·exact .inr (by simp[Value.ownBlock]))
section
variable{P:Program}{w:World}{ops:Array Oper}{rest:List Oper}{o:Oper}{a:Act}{Q:Exit->Act->World->Prop}
def Ax(r:o.guard=none)(s x:x0h)(t:o0)(C:o.op=.call { callee:=.builtin .append,args:=#[s,x],argTypes:=#[t,t] })(base:Nat)(e:o0)(z:y9)(bytes:Nat)(D:P.underlying t=some (.slice e))(g:(P.info? e).map (λi=>(i.zero,i.size,i.bytes))=some (some z,1,bytes))(y:z.cells.size=1)(v:y9)(n:Nat)(f:Nat->y9)(u:y9)(E:a.eval s=v)(F:a.eval x=.slice (some ⟨w.heap.size,0,none⟩) 1 1)(d:OwnR w base e v n f)(G:u.oneCell'=true)(H:n+1<=9223372036854775807)(c:(n+1)*bytes<=140737488355328)(l:base<=w.heap.size)(h:∀q w',OwnR w' base e q (n+1) (λj=>if j=n then u else f j)->Below base w w'->w.grownBy w' v.ownBlock->wpList P ops Q rest (a.put o.dst q) w'):
  wpList P ops Q (o::rest) a (w.alloc (.cells #[u] e)):=by
 let⟨i,I,J,A,B⟩:=info_parts g;refine wpList_append_own (P:=P) _ r s x t C base e i z 1 bytes D I J A B y x4 v n ((List.range n).map f) E (d.alloc _) ⟨w.heap.size,0,none⟩ 1 1 [u] F rfl ?_ (l3 G) (by unfold maxLen;omega) c x7 ?_
 ·intro j N m;rcases j with _|j
  ·simp at m;subst m
   rw[add_plain,World.cell?_alloc_at _ _ _ _ rfl];rfl
  ·simp at m
 ·intro q w' b K _;have L:((List.range n).map f)++[u]=(List.range (n+1)).map (λj=>if j=n then u else f j):=by
   rw[S7,Rv];congr 1
   ·exact S6 λj m=>by
     have:j<n:=l3 m;rw[if_neg x3]
   ·simp
  rw[L]at b;have p:w.grownBy w' v.ownBlock:=Vr (World.grownBy_alloc w _ _) K;refine h q w' b ((p5 _ _).grown p l (λk M=>?_)) p;exact(d.lt k M).1
end
def VZ{n:Int}{m:Nat}(h:n=(m:Int))(a:m<256):IntKind.u8.wrap n=(m:Int):=by
 subst h;simp[IntKind.wrap,IntKind.signed,IntKind.bits];omega
def BL(x:Nat)(b:x<256):bits .and .u8 (x:Int) 1=((x % 2:Nat):Int):=by
 have a:(BitVec.ofInt 8 (x:Int)).toNat=x:=by rw[BitVec.ofInt_natCast,BitVec.toNat_ofNat];omega
 show IntKind.u8.wrap ((BitVec.ofInt 8 (x:Int) &&& BitVec.ofInt 8 1).toNat:Int)=_;rw[BitVec.toNat_and,a,show(BitVec.ofInt 8 1).toNat=1 from rfl,Nat.and_one_is_mod];exact VZ rfl x3
def Xn(v j:Nat):y9:=.int .u8 (QG 2 v j:Nat)
def gB(v p k:Nat)(b:k<8):QG 2 v (8*p+k)=QG 256 v p / 2^k % 2:=by
 unfold QG;rw[Lz,<- Rk,T1,show 2^8=256 from rfl];generalize v / 256^p=x;have a:256=2^k*(2*2^(7-k)):=by rw[<- Nat.pow_succ',<- Lz];rw[show k+(7-k).succ=8 by omega]
 rw[a,U1,Vc]
def Ug(v i p:Nat):QG 256 (v % 2^(i+1)) p=if p=i / 8 then QG 256 (v % 2^i) p+QG 2 v i*2^(i % 8)else QG 256 (v % 2^i) p:=by
 have e:(2:Nat)^i=256^(i / 8)*2^(i % 8):=by
  rw[show 256=2^8 from rfl,<- T1,<- Lz];congr 1;omega
 have b:v % 2^i<2^i:=Re _ (R6 i);have o:QG 2 v i<2:=YO x4 v i;rw[J8];generalize v % 2^i=u at *;generalize QG 2 v i=d at *;rw[e]at b;have s:i % 8<8:=Re _ x4;have k:u / 256^(i / 8)<2^(i % 8):=(Lr (Se x4)).2 (by rw[Ls];exact b);have c:2^(i % 8)*2<=256:=by
  have:=Nat.pow_le_pow_right (n:=2) x4 (show i % 8+1<=8 by omega);rwa [R8]at this
 have f:=Td u (256^(i / 8));have g:u % 256^(i / 8)<256^(i / 8):=Re _ (Se x4);generalize u % 256^(i / 8)=l at *;generalize u / 256^(i / 8)=h at *;generalize i % 8=r at *;generalize i / 8=q at *;have a:h+d*2^r<256:=by
  have:d*2^r<=1*2^r:=Lt _ x3;omega
 have m:u+2^i*d=l+256^q*(h+d*2^r):=by
  rw[e,Rp,<- f,R9,Ls (2^r) d];omega
 rw[m,<- f,Ie x4 g a,Ie x4 g (show h<256 by omega)];by_cases j:p=q
 ·subst j;simp
 ·simp[j]
def CV(y up i:Nat):QG 2 (y*2^up) i=if up<=i then QG 2 y (i-up)else 0:=by
 rw[Ls];by_cases h:up<=i
 ·rw[if_pos h];obtain⟨j,rfl⟩:∃j,i=up+j:=⟨i-up,x3⟩
  rw[JE _ _ _ _ x4,Sq]
 ·rw[if_neg h,D1 _ _ _ _ x3 x4]
def Bx(w:xH)(g:Nat)(t:o0)(cs:x0g):Prop:=w.heap[g]?=some (.cells cs t (0,0))
variable{g:Nat}
def Bx.lt{t:o0}{cs:x0g}(h:Bx w g t cs):g<w.heap.size:=by
 rcases R5 g w.heap.size with a|b
 ·exact a
 ·unfold Bx at h;rw[p7 b]at h;cases h
def Bx.later{t:o0}{cs:x0g}(h:Bx w g t cs)(a:Below w.heap.size w w'):Bx w' g t cs:=(a.block g h.lt).trans h
def Bx.drew{t:o0}{cs:x0g}(h:Bx w g t cs):Bx w.drew g t cs:=h
theorem Bx.new(w:xH)(t:o0)(cs:x0g):Bx (w.alloc (.cells cs t)) w.heap.size t cs:=heap_alloc_new w _
def Bx.alloc{t:o0}{cs:x0g}(h:Bx w g t cs)(o:Obj):Bx (w.alloc o) g t cs:=(U7 w o g h.lt).trans h
def Bx.at1(w:xH)(o:Obj)(t:o0)(cs:x0g):Bx ((w.alloc o).alloc (.cells cs t)) (w.heap.size+1) t cs:=by
 have:=Bx.new (w.alloc o) t cs;simpa using this
def Bx.at2(w:xH)(o p:Obj)(t:o0)(cs:x0g):Bx (((w.alloc o).alloc p).alloc (.cells cs t)) (w.heap.size+2) t cs:=by
 have:=Bx.new ((w.alloc o).alloc p) t cs;simpa using this
def Bx.at3(w:xH)(o p q:Obj)(t:o0)(cs:x0g):Bx ((((w.alloc o).alloc p).alloc q).alloc (.cells cs t)) (w.heap.size+3) t cs:=by
 have:=Bx.new (((w.alloc o).alloc p).alloc q) t cs;simpa using this
def Bx.cel{t:o0}{cs:x0g}(h:Bx w g t cs)(i:Nat):w.cell? ⟨g,i,none⟩=cs[i]?:=by
 unfold Bx at h;simp[World.cell?,h]
def Bx.free{t:o0}{cs:x0g}(h:Bx w g t cs)(i:Nat):w.frozen? ⟨g,i,none⟩=false:=by
 unfold Bx at h;simp[World.frozen?,h]
variable{y:y9}
def Bx.two{t:o0}{x:y9}(h:Bx w g t #[x,y]):w.cell? ⟨g,0,none⟩=some x/\w.cell? ⟨g,1,none⟩=some y/\w.frozen? ⟨g,0,none⟩=false/\w.frozen? ⟨g,1,none⟩=false :=
 ⟨h.cel 0,h.cel 1,h.free 0,h.free 1⟩
def Bx.three{t:o0}{x z:y9}(h:Bx w g t #[x,y,z]):w.cell? ⟨g,0,none⟩=some x/\w.cell? ⟨g,1,none⟩=some y/\w.cell? ⟨g,2,none⟩=some z/\w.frozen? ⟨g,0,none⟩=false/\w.frozen? ⟨g,1,none⟩=false/\w.frozen? ⟨g,2,none⟩=false :=
 ⟨h.cel 0,h.cel 1,h.cel 2,h.free 0,h.free 1,h.free 2⟩
def Bx.set{t:o0}{cs:x0g}(h:Bx w g t cs)(i:Nat)(u:y9):Bx (w.setCell ⟨g,i,none⟩ u) g t (cs.setIfInBounds i u):=by
 unfold Bx at *;simp[World.setCell,Array.getElem?_modify,h]
def Bx.far{t:o0}{cs:x0g}(h:Bx w g t cs)(a:g≠p.block)(u:y9):Bx (w.setCell p u) g t cs:=(Sr w p u g a).trans h
def Bx.far2{g':Nat}{t:o0}{cs:x0g}(h:Bx w g t cs)(a:g≠g')(u v:y9):Bx ((w.setCell ⟨g',i,none⟩ u).setCell ⟨g',j,none⟩ v) g t cs:=(h.far (p:=⟨g',i,none⟩) a u).far (p:=⟨g',j,none⟩) a v
def Bx.set2{t:o0}{x:y9}(h:Bx w g t #[x,y])(u v:y9):Bx ((w.setCell ⟨g,0,none⟩ u).setCell ⟨g,1,none⟩ v) g t #[u,v]:=(h.set 0 u).set 1 v
def Bx.set3{t:o0}{x z:y9}(h:Bx w g t #[x,y,z])(u v s:y9):Bx (((w.setCell ⟨g,0,none⟩ u).setCell ⟨g,1,none⟩ v).setCell ⟨g,2,none⟩ s) g t #[u,v,s]:=((h.set 0 u).set 1 v).set 2 s
def Ob(h:w.cell? ⟨b,o,none⟩=some v)(c:b≠g)(x:y9):(w.setCell ⟨g,i,none⟩ x).cell? ⟨b,o,none⟩=some v :=
 (World.cell?_of_block (a:=⟨b,o,none⟩) (Sr w ⟨g,i,none⟩ x b c)).trans h
def Jb(h:w.cell? ⟨b,o,none⟩=some v)(a:b≠g)(x y:y9):((w.setCell ⟨g,i,none⟩ x).setCell ⟨g,j,none⟩ y).cell? ⟨b,o,none⟩=some v:=Ob (Ob h a x) a y
def F5(h:Below w.drew.heap.size w.drew w'):Below w.heap.size w w':=⟨h.os,h.tape,h.output,h.size,h.block⟩
def nxt{b c:xH}(h:Below a.heap.size a b)(d:Below b.heap.size b c):Below a.heap.size a c:=QW h d h.size
def EI{b:xH}(h:Below a.heap.size a b)(o:Obj):Below a.heap.size a (b.alloc o):=h.alloc h.size o
def b1(w:xH)(o:Obj):Below w.heap.size w (w.alloc o):=EI (p5 _ _) o
def b2(w:xH)(o p:Obj):Below w.heap.size w ((w.alloc o).alloc p):=EI (b1 w o) p
def b3(w:xH)(o p q:Obj):Below w.heap.size w (((w.alloc o).alloc p).alloc q):=EI (b2 w o p) q
def b4(w:xH)(o p q r:Obj):Below w.heap.size w ((((w.alloc o).alloc p).alloc q).alloc r):=EI (b3 w o p q) r
def aq(h:Below B a w)(b:B<=g)(u v:y9):Below B a ((w.setCell ⟨g,0,none⟩ u).setCell ⟨g,1,none⟩ v):=(h.setCell b u).setCell b v
def m6(h:Below B a w)(b:B<=g)(u v s:y9):Below B a (((w.setCell ⟨g,0,none⟩ u).setCell ⟨g,1,none⟩ v).setCell ⟨g,2,none⟩ s):=((h.setCell b u).setCell b v).setCell b s
def KG(ops:Array Oper)(i:Nat):List Nat:=match ops[i]? with
 |some o=>(o.after.toList.filter (Region.binds .any)).map (·.on)
 |none=>[]
def RS(ops:Array Oper):Nat->Nat->Nat->Bool
 |0,a,i=>(KG ops a).any (·==i)
 |f+1,a,i=>(KG ops a).any λj=>j==i||RS ops f j i
def Oq(ops:Array Oper)(n:Nat)(a:Nat->Bool):Bool :=
 decide (n<=ops.size)&&Region.noSelect ops&&Region.chainB .any ops n&&(List.range n).all (λi=>n==ops.size||!a i||RS ops 6 n i) &&
 (List.range n).all (λi=>a i||(List.range ops.size).all λj=>j==i||(decide (j<n)&&a j)||Region.waitsFor .any ops j i||(match ops[i]?,ops[j]? with|some x,some y=>x.apart ops y|_,_=>false)) &&
 (List.range n).all (λi=>(KG ops i).all (·<i))&&Region.seqB .any ops (ops.size-n) n (Array.replicate n true++Array.replicate (ops.size-n) false)
def left(n:Nat)(listed:Array Bool):Nat:=((List.range n).filter λi=>!listed.getD i true).length
variable{listed:Array Bool}
def j5{n:Nat}(h:left n listed=0):∀i,i<n->listed.getD i true=true:=λi b=>by
 have a:=Ry h;rw[List.filter_eq_nil_iff]at a;have c:=a i (R7.2 b);simpa using c
def Cc(n:Nat)(listed:Array Bool)(h:left n listed≠0):∃i,i<n/\listed.getD i true=false/\∀j,j<i->listed.getD j true=true:=by
 have:∃i,i<n/\listed.getD i true=false:=by
  apply Classical.byContradiction;intro a;apply h;unfold left;rw[So,List.filter_eq_nil_iff];intro i b;have c:=R7.1 b;cases d:listed.getD i true with
  |true=>simp
  |false=>exact absurd ⟨i,c,d⟩ a
 let⟨i,b,d⟩:=this;induction i using Nat.strongRecOn with
 |_ i l =>
  by_cases k:∃j,j<i/\listed.getD j true=false
  ·let⟨j,e,f⟩:=k;exact l j e x3 f
  ·refine⟨i,b,d,λj e=>?_⟩;cases g:listed.getD j true with
   |true=>rfl
   |false=>exact absurd ⟨j,e,g⟩ k
def Wk{n:Nat}(o:i<n)(k:listed.getD i true=false):left n (listed.setIfInBounds i true)+1=left n listed:=by
 have c:i<listed.size:=by
  rcases R5 i listed.size with h|h
  ·exact h
  ·simp[p7 h]at k
 unfold left;have key:∀l:List Nat,l.Nodup->i∈l->((l.filter λj=>!(listed.setIfInBounds i true).getD j true).length+1=(l.filter λj=>!listed.getD j true).length):=by
  intro l;induction l with
  |nil=>intro _ h;cases h
  |cons x l p =>
   intro b q;rw[V3]at b;by_cases d:x=i
   ·subst d;have r:(listed.setIfInBounds x true).getD x true=true:=by simp[c]
    have s:(l.filter λj=>!(listed.setIfInBounds x true).getD j true)=(l.filter λj=>!listed.getD j true):=List.filter_congr λj t=>by
     have f:x≠j:=λe=>b.1 (e▸t)
     rw[getD_set_ne true f]
    rw[List.filter_cons_of_neg (by simp[r]),List.filter_cons_of_pos (by simp[k]),s,Li]
   ·have g:i∈l:=by
     rcases Lb.1 q with h|h
     ·exact absurd h.symm d
     ·exact h
    have m:(listed.setIfInBounds i true).getD x true=listed.getD x true:=getD_set_ne true (Ne.symm d);have:=p b.2 g;cases a:listed.getD x true with
    |true=>rw[List.filter_cons_of_neg (by simp[m,a]),List.filter_cons_of_neg (by simp[a])];exact this
    |false=>rw[List.filter_cons_of_pos (by simp[m,a]),List.filter_cons_of_pos (by simp[a]),Li,Li];omega
 exact key _ List.nodup_range (R7.2 o)
def blk:y9->Option Nat
 |.pointer (some a)=>some a.block
 |.slice (some a) _ _=>some a.block
 |_=>none
def IW(P:xO)(ops:Array Oper)(F:(Nat->y9)->Act)(G:xH->Prop)(Φ:Nat->y9->xH->Prop)(fr:Nat->Bool)(i:Nat):Prop :=
 ∀(o:Oper),ops[i]?=some o->∀(u:Nat->y9) (w:xH),G w->(∀j,j∈KG ops i->Φ j (u j) w)->∀(Q:Exit->Act->xH->Prop) (K:Act->xH->Prop),
  (∀v w',Below w.heap.size w w'->G w'->Φ i v w'->(fr i=true->∀g,blk v=some g->w.heap.size<=g)->K ((F u).put o.dst v) w')->if Region.wanted o (yielded ops (F u).tmps)=true then Oper.wp P o (F u) w K Q else K ((F u).put o.dst undef) w
variable{ops:Array Oper}
def Bs{n:Nat}(c:HeadInv .any ops n listed){a:Nat}(h:listed.getD a false=true)(b:j∈KG ops a):listed.getD j false=true:=by
 unfold KG at b;cases d:ops[a]? with
 |none=>rw[d]at b;cases b
 |some o =>
  rw[d]at b;obtain⟨e,i,rfl⟩:=Lv.1 b;let⟨f,g⟩:=Tn.1 i;exact c.closed a o d h e (Sy.1 f) g
def EN{ops:Array Oper}{n:Nat}{listed:Array Bool}(b:HeadInv .any ops n listed){i:Nat}:∀(f a:Nat),(∀j,j∈KG ops a->listed.getD j false=true)->RS ops f a i=true->listed.getD i false=true
 |0,a,h,d=>by
  let⟨j,c,e⟩:=List.any_eq_true.1 d;have:j=i:=l3 e;exact this▸h j c
 |f+1,a,h,d=>by
  let⟨j,c,e⟩:=List.any_eq_true.1 d;rcases Bool.or_eq_true_iff.1 e with e|e
  ·have:j=i:=l3 e;exact this▸h j c
  ·exact EN b f j (λk g=>Bs b (h j c) g) e
def Np{n:Nat}{v:Nat->Bool}(w:(List.range n).all (λi=>n==ops.size||!v i||RS ops 6 n i)=true)(x:Region.chainB .any ops n=true)(f:HeadInv .any ops n listed)(y:i<n)(k:v i=true)(l:listed.getD i true=false):∀t,n<=t->t ∉ Region.ready .any ops listed:=by
 intro t D z;let⟨_,A,d,a⟩:=mem_ready.1 z;have b:t<ops.size:=(b8.1 d).1;have g:∀j,j∈KG ops t->listed.getD j false=true:=λj m=>by
  unfold KG at m;rw[d]at m
  obtain⟨e,o,rfl⟩:=Lv.1 m;let⟨p,q⟩:=Tn.1 o;exact a e (Sy.1 p) q
 by_cases r:t=n
 ·subst r;have c:=Lg.1 w i (R7.2 y);rw[k,show(t==ops.size)=false by simpa using Sc b]at c;have h:=EN f 6 t g (l3 c);rw[getD_both l]at h;cases h
 ·have c:=Lg.1 x t (R7.2 b);simp only[Bool.or_eq_true,decide_eq_true_eq]at c;rcases c with c|c
  ·omega
  ·let⟨B,s,e,o,C,u⟩:=Region.waitsFor_spec c;have:B=A:=o7 (s.symm.trans d);subst this;have h:=a e o C;rw[u,getD_both (f.tail (t-1) x3 x3)]at h;cases h
def TJ(P:xO)(ops:Array Oper)(F:(Nat->y9)->Act)(Φ:Nat->y9->xH->Prop)(i:Nat):Prop :=
 ∀(o:Oper),ops[i]?=some o->∀(u:Nat->y9) (w:xH),(∀j,j∈KG ops i->Φ j (u j) w)->∃v,Yields P ops o v (F u)/\Φ i v w
variable{l:List Oper}{P:xO}{Q:Exit->Act->xH->Prop}
def NV{n:Nat}(hl:l.toArray=ops)(F:(Nat->y9)->Act)(G:xH->Prop)(Φ:Nat->y9->xH->Prop)(st:Nat->Bool)(hB:Oq ops n st=true)(hQ:∀(d:Tmp) (v:y9) c a w,Q (.panic c) (a.put (some d) v) w->Q (.panic c) a w)(bu:∀i o,i<n->ops[i]?=some o->∃d:Tmp,o.dst=some d)(T:∀(u:Nat->y9) (i:Nat) (v:y9) (o:Oper),i<n->ops[i]?=some o->(F u).put o.dst v=F (λk=>if k=i then v else u k))(bv:∀i v w w',i<n->Below w.heap.size w w'->Φ i v w->Φ i v w')(fr:Nat->Bool)(bl:∀i v w,i<n->fr i=true->Φ i v w->∃g,blk v=some g/\g<w.heap.size)(bX:∀i,i<n->IW P ops F G Φ fr i)(ad:∀i,i<n->st i=false->fr i=false/\TJ P ops F Φ i)(u0:Nat->y9)(ag:∀u w,(∀k,n<=k->u k=u0 k)->G w->(∀i,i<n->Φ i (u i) w)->(∀i j,i<n->j<n->fr i=true->fr j=true->i≠j->blk (u i)≠blk (u j))->wpList P ops Q (l.drop n) (F u) w):
  ∀(f:Nat) (listed:Array Bool) (u:Nat->y9) (w:xH),left n listed=f->HeadInv .any ops n listed->(∀k,n<=k->u k=u0 k)->G w->(∀i,i<n->listed.getD i true=true->Φ i (u i) w) ->
   (∀i j,i<n->j<n->listed.getD i true=true->listed.getD j true=true->fr i=true->fr j=true->i≠j->blk (u i)≠blk (u j)) ->
   wpAny P .any ops Q (f+(ops.size-n)) listed (F u) w:=by
 simp only[Oq,Lx,decide_eq_true_eq]at hB;let⟨⟨⟨⟨⟨⟨hn,bm⟩,hc⟩,hs⟩,ao⟩,z⟩,U⟩:=hB;intro f;induction f with
 |zero =>
  intro listed u w hf r M hG V hD;have m:=j5 hf;have N:listed=Array.replicate n true++Array.replicate (ops.size-n) false:=by
   apply Array.ext
   ·simp[r.size];omega
   ·intro i y I;by_cases J:i<n
    ·have:=m i J;rw[Array.getElem_append_left (l3 J)];simpa [y]using this
    ·have:=r.tail i x3 (by rw[<- r.size];exact y);rw[Array.getElem_append_right x7];simpa [y]using this
  rw[Lm];have W:(l.drop n).length=ops.size-n:=by rw[<- hl];simp
  rw[<- W]at U ⊢;exact wpAny_of_seq (l.drop n) n listed (F u) w (λj=>by rw[<- hl];simp[List.getElem?_drop]) (by rw[N,<- W];exact U) (ag u w M hG (λi J=>V i J (m i J)) (λi j J q=>hD i j J q (m i J) (m j q)))
 |succ f ih =>
  intro listed u w hf r M hG V hD;let⟨s,t,aw,bn⟩:=Cc n listed x3;have b:s∈Region.ready .any ops listed:=by
   have aB:s<ops.size:=x3;obtain⟨o,E⟩:∃o,ops[s]?=some o:=⟨ops[s],by simp[aB]⟩
   refine mem_ready.2 ⟨aw,o,E,λe N hb=>?_⟩;have hw:e.on∈KG ops s:=by
    unfold KG;rw[E]
    exact Lv.2 ⟨e,Tn.2 ⟨Sy.2 N,hb⟩,rfl⟩
   have K:e.on<s:=by
    have y:=Lg.1 z s (R7.2 t);simpa using Lg.1 y _ hw
   have h3:=bn _ K;have h4:e.on<listed.size:=by rw[r.size];omega
   simpa [h4]using h3
  rw[show f+1+(ops.size-n)=(f+(ops.size-n))+1 by omega];by_cases m:∃i,i<n/\st i=true/\listed.getD i true=false
  case neg =>
   have X:st s=false:=by
    cases h:st s with
    |false=>rfl
    |true=>exact absurd ⟨s,t,h,aw⟩ m
   let⟨Y,bp⟩:=ad s t X;let⟨_,o,E,A⟩:=mem_ready.1 b;have x:∀j,j∈KG ops s->Φ j (u j) w:=λj q=>by
    have bc:=q;unfold KG at q;rw[E]at q
    obtain⟨e,N,rfl⟩:=Lv.1 q;let⟨bd,bi⟩:=Tn.1 N;have y:=A e (Sy.1 bd) bi;have K:e.on<s:=by
     have y:=Lg.1 z s (R7.2 t);simpa using Lg.1 y _ bc
    refine V _ x3 ?_
    have h4:e.on<listed.size:=by rw[r.size];omega
    simpa [h4]using y
   let⟨v,hy,hv⟩:=bp o E u w x;have bY:∀c a w,Q (.panic c) (a.put o.dst v) w->Q (.panic c) a w:=by
    let⟨d,hd⟩:=bu s o t E;rw[hd];exact hQ d v
   refine wpAny_first E (Region.noSelect_spec bm) bY _ listed (F u) w (λj oj bk ca bq bs=>?_) b hy ?_
   ·have cb:j<ops.size:=(b8.1 bk).1;have y:=Lg.1 ao s (R7.2 t);rw[X,Bool.false_or]at y;have I:=Lg.1 y j (R7.2 cb);simp only[Bool.or_eq_true,Lx,decide_eq_true_eq,Sk,E,bk]at I;rcases I with((I|I)|I)|I
    ·exact absurd I ca
    ·exact absurd ⟨j,I.1,I.2,bq⟩ m
    ·let⟨o',cc,e,N,hb,cd⟩:=Region.waitsFor_spec I;have:o'=oj:=o7 (cc.symm.trans bk);subst this;exact absurd cd (bs e N hb)
    ·exact I
   ·rw[T u s v o t E];refine ih _ _ w (x8 (Wk t aw)) (r.set b t) (λk O=>by rw[if_neg x3];exact M k O) hG (λj q p=>?_) (λj k q O p B C D R=>?_)
    ·by_cases e:j=s
     ·subst e;simpa using hv
     ·rw[if_neg e];rw[getD_set_ne true (Ne.symm e)]at p;exact V j q p
    ·have ej:j≠s:=λe=>by rw[e,Y]at C;cases C
     have S:k≠s:=λe=>by rw[e,Y]at D;cases D
     rw[getD_set_ne true (Ne.symm ej)]at p;rw[getD_set_ne true (Ne.symm S)]at B;rw[if_neg ej,if_neg S];exact hD j k q O p B C D R
  let⟨is,cf,ch,cj⟩:=m;refine⟨λh0=>(by rw[h0]at b;cases b),λi J=>?_⟩;have L:i<n:=by
   rcases R5 i n with h|h
   ·exact h
   ·exact absurd J (Np hs hc r cf ch cj i h)
  let⟨ck,o,E,A⟩:=mem_ready.1 J;have x:∀j,j∈KG ops i->Φ j (u j) w:=λj q=>by
   have bc:=q;unfold KG at q;rw[E]at q
   obtain⟨e,N,rfl⟩:=Lv.1 q;let⟨bd,bi⟩:=Tn.1 N;have y:=A e (Sy.1 bd) bi;have K:e.on<i:=by
    have y:=Lg.1 z i (R7.2 L);simpa using Lg.1 y _ bc
   refine V _ x3 ?_
   have h4:e.on<listed.size:=by rw[r.size];omega
   simpa [h4]using y
  have cl:∀v w',Below w.heap.size w w'->G w'->Φ i v w'->(fr i=true->∀g,blk v=some g->w.heap.size<=g)->wpAny P .any ops Q (f+(ops.size-n)) (listed.setIfInBounds i true) ((F u).put o.dst v) w':=λv w' hb cm hv Z=>by
   rw[T u i v o L E];refine ih _ _ w' (x8 (Wk L ck)) (r.set J L) (λk O=>by rw[if_neg x3];exact M k O) cm (λj q p=>?_) (λj k q O p B C D R=>?_)
   ·by_cases e:j=i
    ·subst e;simpa using hv
    ·rw[if_neg e];rw[getD_set_ne true (Ne.symm e)]at p;exact bv j _ w w' q hb (V j q p)
   ·by_cases ej:j=i
    ·subst ej;have S:k≠j:=Ne.symm R;rw[if_pos rfl,if_neg S];rw[getD_set_ne true (Ne.symm S)]at B;let⟨g,hg,aB⟩:=bl k _ w O D (V k O B);intro e2;rw[hg]at e2;have:=Z C g e2;omega
    ·rw[getD_set_ne true (Ne.symm ej)]at p;rw[if_neg ej];by_cases S:k=i
     ·subst S;rw[if_pos rfl];let⟨g,hg,aB⟩:=bl j _ w q C (V j q p);intro e2;rw[hg]at e2;have:=Z D g e2.symm;omega
     ·rw[if_neg S];rw[getD_set_ne true (Ne.symm S)]at B;exact hD j k q O p B C D R
  have H:=bX i L o E u w hG x Q _ cl;unfold wpOp;simp only[E];split
  ·rename_i hw;rw[if_pos hw]at H;exact .inl H
  ·rename_i hw;rw[if_neg hw]at H;exact H
def JF(a:Act):List Nat->Nat->(Nat->y9)->Act
 |[],_,_=>a
 |d::ds,i,u=>JF (a.put (some d) (u i)) ds (i+1) u
def PutsOk(F:List Deferred->(Nat->y9)->(Nat->y9)->Act):List Nat->Nat->Prop
 |[],_=>True
 |d::ds,i=>(∀a b u v,(F a b u).put (some d) v=F a b (λk=>if k=i then v else u k))/\PutsOk F ds (i+1)
def PutsOk.at{F:List Deferred->(Nat->y9)->(Nat->y9)->Act}:∀ {a:List Nat} {i:Nat},PutsOk F a i->∀(j d:Nat),a[j]?=some d->∀c b u v,(F c b u).put (some d) v=F c b (λk=>if k=i+j then v else u k)
 |[],_,_,_,_,h=>by simp at h
 |d::a,i,h,0,f,e=>by simp at e;subst e;exact h.1
 |d::a,i,h,j+1,f,e=>λc b u v=>by
  have:=PutsOk.at h.2 j f (l3 e) c b u v;rw[this,show i+1+j=i+(j+1)by omega]
def Cn{F:List Deferred->(Nat->y9)->(Nat->y9)->Act}(g:List Deferred)(b c u:Nat->y9):∀(a:List Nat) (i:Nat),PutsOk F a i->JF (F g b (λk=>if k<i then u k else c k)) a i u=F g b (λk=>if k<i+a.length then u k else c k)
 |[],i,_=>by simp[JF]
 |d::a,i,h=>by
  show JF ((F g b _).put (some d) (u i)) a (i+1) u=_;rw[h.1];have e:(λk=>if k=i then u i else if k<i then u k else c k)=(λk=>if k<i+1 then u k else c k):=by
   funext k;by_cases j:k=i
   ·subst j;rw[if_pos rfl,if_pos x3]
   ·rw[if_neg j];by_cases f:k<i
    ·rw[if_pos f,if_pos x3]
    ·rw[if_neg f,if_neg x3]
  rw[e,Cn g b c u a (i+1) h.2,Li];congr 1;funext k;rw[show i+1+a.length=i+(a.length+1)by omega]
def OpsOk(P:xO)(ops:Array Oper)(F:(Nat->y9)->Act)(G:xH->Prop)(Φ:Nat->y9->xH->Prop)(fr:Nat->Bool):Nat->Nat->Prop
 |0,_=>True
 |n+1,i=>IW P ops F G Φ fr i/\OpsOk P ops F G Φ fr n (i+1)
def OpsOk.at{P:xO}{ops:Array Oper}{F:(Nat->y9)->Act}{G:xH->Prop}{Φ:Nat->y9->xH->Prop}{fr:Nat->Bool}:∀ {n i:Nat},OpsOk P ops F G Φ fr n i->∀j,j<n->IW P ops F G Φ fr (i+j)
 |0,_,_,_,h=>x3
 |n+1,i,h,0,_=>h.1
 |n+1,i,h,j+1,a=>by
  have:=OpsOk.at h.2 j x3;rwa [show i+1+j=i+(j+1)by omega]at this
variable{a:Act}{id:Nat}
def BP(f:List Nat)(F:List Deferred->(Nat->y9)->(Nat->y9)->Act)(G:xH->Prop)(Φ:Nat->y9->xH->Prop)(D:Nat->Bool)(R:P.follows .mixedOrders=true)(E:Oq l.toArray f.length D=true)(S:∀(d:Tmp) (v:y9) c a w,Q (.panic c) (a.put (some d) v) w->Q (.panic c) a w)(H:((List.range f.length).all λi=>((l.toArray[i]?).bind (·.dst))==f[i]?)=true)(O:a=F a.defers (λk=>a.tmps.getD k undef) (λi=>a.tmps.getD (f.getD i 0) undef))(T:G w.drew)(p:PutsOk F f 0)(I:∀i v w w',i<f.length->Below w.heap.size w w'->Φ i v w->Φ i v w')(fr:Nat->Bool)(J:∀i v w,i<f.length->fr i=true->Φ i v w->∃g,blk v=some g/\g<w.heap.size)(K:∀L b,b=(λk=>a.tmps.getD k undef)->OpsOk P l.toArray (F L b) G Φ fr f.length 0)(s:∀L b,b=(λk=>a.tmps.getD k undef)->∀i,i<f.length->D i=false->fr i=false/\TJ P l.toArray (F L b) Φ i)(x:∀u w',G w'->(∀i,i<f.length->Φ i (u i) w')->(∀i j,i<f.length->j<f.length->fr i=true->fr j=true->i≠j->blk (u i)≠blk (u j))->wpList P l.toArray Q (l.drop f.length) (JF a f 0 u) w'):(Code.region id l.toArray true).wp P Q a w:=by
 refine wp_region_any R ?_
 have hn:f.length<=l.toArray.size:=by
  simp only[Oq,Lx,decide_eq_true_eq]at E;exact E.1.1.1.1.1.1
 have A:HeadInv .any l.toArray f.length (Array.replicate l.toArray.size false) :=
  ⟨x6,λj oj _ q=>(by rw[getD_replicate_false]at q;cases q),λt _ U=>getD_in (l3 U) (getD_replicate_false _ _)⟩
 have n:∀i,i<f.length->(Array.replicate l.toArray.size false).getD i true=false:=λi m=>getD_in (by simpa using(by omega:i<l.toArray.size)) (getD_replicate_false _ _)
 have y:left f.length (Array.replicate l.toArray.size false)=f.length:=by
  unfold left;rw[List.filter_eq_self.2 (λi m=>by rw[n i (R7.1 m)];rfl),Sb]
 generalize hb:(λk=>a.tmps.getD k undef)=b at *;generalize hu:(λi=>a.tmps.getD (f.getD i 0) undef)=B at *;have r:∀i,i<f.length->∃d,f[i]?=some d/\∀o,l.toArray[i]?=some o->o.dst=some d:=λi m=>by
  have V:=Lg.1 H i (R7.2 m);have M:((l.toArray[i]?).bind (·.dst))=f[i]?:=l3 V;refine⟨f[i],by simp[m],λo C=>?_⟩;rw[C]at M;have W:f[i]?=some f[i]:=by simp[m]
  rw[W]at M;exact M
 have h:=NV (Q:=Q) (l:=l) rfl (F a.defers b) G Φ D E S (λi o m C=>by let⟨d,_,z⟩:=r i m;exact⟨d,z o C⟩) (λu i v o m C=>by
   let⟨d,X,z⟩:=r i m;rw[z o C,PutsOk.at p i d X,Lm]) I fr J (λi m=>by have:=OpsOk.at (K a.defers b rfl) i m;rwa [Lm]at this) (s a.defers b rfl) B (λu w' Y N Z hD=>by
   have e:=Cn a.defers b B u f 0 p;simp only[R4,if_false,Lm]at e;rw[show F a.defers b B=a from O.symm]at e;have e2:(λk=>if k<f.length then u k else B k)=u:=by
    funext k;split
    ·rfl
    ·exact(Y k x3).symm
   rw[e2]at e;rw[<- e];exact x u w' N Z hD) f.length _ B w.drew y A (λ_ _=>rfl) T (λi m q=>(by rw[n i m]at q;cases q)) (λi j m hj q=>(by rw[n i m]at q;cases q))
 rw[show f.length+(l.toArray.size-f.length)=l.toArray.size by omega]at h;have e:(Code.region id l.toArray true).wp P Q a w=(Code.region id l.toArray true).wp P Q a w:=rfl;rw[<- O]at h;exact h
def ga(k:Nat):List Nat->Nat->Option Nat
 |[],_=>none
 |d::ds,i=>if k=d then some i else ga k ds (i+1)
def Mo{k:Nat}:∀ {a:List Nat} {i j:Nat},ga k a i=some j->i<=j/\a[j-i]?=some k
 |[],_,_,h=>by cases h
 |d::a,i,j,h=>by
  unfold ga at h;split at h
  ·subst_vars
   obtain rfl:=o7 h;exact⟨L4 _,x6⟩
  ·let⟨c,b⟩:=Mo h;refine⟨x3,?_⟩;rw[show j-i=(j-(i+1))+1 by omega,List.getElem?_cons_succ];exact b
def PY{d:Nat}:∀ {a:List Nat} {i j:Nat},a.Nodup->a[j]?=some d->ga d a i=some (i+j)
 |[],_,_,_,h=>by simp at h
 |e::a,i,0,_,h=>by
  simp at h;subst h
  simp[ga]
 |e::a,i,j+1,b,h=>by
  rw[V3]at b;have f:a[j]?=some d:=l3 h;have c:d≠e:=λg=>b.1 (g▸List.mem_of_getElem? f)
  unfold ga;rw[if_neg c,PY b.2 f];congr 1;omega
def NJ(a:Act)(b:List Nat)(u:Nat->y9):Act:={ a with tmps:=Array.ofFn (n:=a.tmps.size) λk=>match ga k.val b 0 with|some i=>u i|none=>a.tmps.getD k.val undef }
def Eo(a:Act)(b:List Nat)(u:Nat->y9):(NJ a b u).tmps.size=a.tmps.size:=by simp[NJ]
def fS(a:Act)(b:List Nat)(u:Nat->y9)(c:k<a.tmps.size):(NJ a b u).tmps[k]?=some (match ga k b 0 with|some i=>u i|none=>a.tmps.getD k undef):=by
 simp[NJ,c]
variable{u:Nat->y9}
def Wd{ds:List Nat}(b:k<a.tmps.size)(h:ga k ds 0=some i)(c:u i=v):(NJ a ds u).eval (.tmp k)=v:=by
 show(NJ a ds u).tmps.getD k undef=v;rw[Δ,fS a ds u b,h,<- c];rfl
variable{b:List Nat}
def Wc(c:k<a.tmps.size)(h:ga k b 0=none)(d:a.tmps.getD k undef=v):(NJ a b u).eval (.tmp k)=v:=by
 show(NJ a b u).tmps.getD k undef=v;rw[Δ,fS a b u c,h,<- d];rfl
def m7(a:Act)(b:List Nat):a=NJ a b (λi=>a.tmps.getD (b.getD i 0) undef):=by
 let⟨t,d⟩:=a;unfold NJ;congr 1;apply Array.ext
 ·simp
 ·intro k c g;rw[Array.getElem_ofFn];cases e:ga k b 0 with
  |none=>simp[c]
  |some i =>
   have f:=(Mo e).2;rw[Nat.sub_zero]at f;simp[List.getD,f,c]
def tX(g:b.Nodup)(u:Nat->y9)(c:b[i]?=some d)(v:y9):(NJ a b u).put (some d) v=NJ a b (λk=>if k=i then v else u k):=by
 unfold NJ Act.put;simp only;congr 1;apply Array.ext
 ·simp
 ·intro k o h;rw[Array.getElem_setIfInBounds (l3 h),Array.getElem_ofFn,Array.getElem_ofFn];by_cases e:d=k
  ·subst e;rw[if_pos rfl,PY g c];simp
  ·rw[if_neg e];cases l:ga k b 0 with
   |none=>rfl
   |some j =>
    have m:j≠i:=λn=>by
     subst n;have f:=(Mo l).2;rw[Nat.sub_zero,c]at f;exact e (o7 f)
    simp only[if_neg m]
def Ii{a:Act}{c:List Nat}(f:c.Nodup):∀(b:List Nat) (i:Nat),(∀j d,b[j]?=some d->c[i+j]?=some d)->PutsOk (λ_ _ u=>NJ a c u) b i
 |[],_,_=>trivial
 |e::b,i,h=>⟨λ_ _ u v=>tX f u (by simpa using h 0 e rfl) v,Ii f b (i+1) λj d g=>by
  rw[show i+1+j=i+(j+1)by omega];exact h (j+1) d (l3 g)⟩
def eR(o:Oper):List Nat:=(o.after.toList.filter (Region.binds .any)).map (·.on)
def CO(u:Nat->y9)(o:Oper)(b:Bool):Prop:=match o.guard with
 |none=>b=true
 |some (g,c)=>∃x,u g=.bool x/\b=(x==c)
def TE(P:xO)(G:xH->Prop)(Φ:Nat->y9->xH->Prop)(fr:Nat->Bool)(i:Nat)(o:Oper)(u:Nat->y9)(ev:x0h->y9)(W:xH):Prop :=
 (CO u o true/\∃v w',(execOp ev o).run P W=.ok (.value v) w'/\Below W.heap.size W w'/\G w'/\Φ i v w'/\(fr i=true->∀g,blk v=some g->W.heap.size<=g)) \/
 (fr i=false/\CO u o true/\∃f args,(execOp ev o).run P W=.ok (.enter f args) W/\Calls P f args W λe w'=>∃v,e=.returned v/\Below W.heap.size W w'/\G w'/\Φ i v w') \/
 (fr i=false/\CO u o false/\Φ i undef W)
def pg(P:xO)(a:List Nat)(A:Act)(G:xH->Prop)(Φ:Nat->y9->xH->Prop)(fr:Nat->Bool)(i:Nat)(o:Oper):Prop :=
 ∀(u:Nat->y9) (W:xH),G W->(∀j,j∈eR o->Φ j (u j) W)->TE P G Φ fr i o u (NJ A a u).eval W
def KsOk(P:xO)(a:List Nat)(A:Act)(G:xH->Prop)(Φ:Nat->y9->xH->Prop)(fr:Nat->Bool):List Oper->Nat->Nat->Prop
 |o::l,n+1,i=>pg P a A G Φ fr i o/\KsOk P a A G Φ fr l n (i+1)
 |_,_,_=>True
def rC(P:xO)(a:List Nat)(A:Act)(Φ:Nat->y9->xH->Prop)(i:Nat)(o:Oper):Prop :=
 ∀(u:Nat->y9) (W:xH),(∀j,j∈eR o->Φ j (u j) W)->∃v,CO u o true/\(∀w,(execOp (NJ A a u).eval o).run P w=.ok (.value v) w)/\Φ i v W
def LsOk(P:xO)(a:List Nat)(A:Act)(Φ:Nat->y9->xH->Prop)(fr b:Nat->Bool):List Oper->Nat->Nat->Prop
 |o::l,n+1,i=>(match b i with|true=>True|false=>fr i=false/\rC P a A Φ i o)/\LsOk P a A Φ fr b l n (i+1)
 |_,_,_=>True
def t8(ops:Array Oper)(n:Nat):Bool:=(List.range n).all λi=>match ops[i]? with|some o=>(match o.guard with|some (g,_)=>decide (g<n)|none=>true)|none=>true
variable{o:Oper}
def V1{f:List Nat}(q:f.Nodup)(k:∀i,i<f.length->∃d,f[i]?=some d/\d<a.tmps.size/\∀o,ops[i]?=some o->o.dst=some d)(l:f.length<=ops.size)(n:∀g c,o.guard=some (g,c)->g<f.length){b:Bool}(h:CO u o b):Region.wanted o (yielded ops (NJ a f u).tmps)=b:=by
 unfold Region.wanted;unfold CO at h;split at h
 ·rename_i e;rw[e];exact h.symm
 ·rename_i g c e;obtain⟨x,r,rfl⟩:=h;rw[e];let⟨d,s,m,t⟩:=k g (n g c e);have j:g<ops.size:=L9 (n g c e) l;have p:ops[g]?=some ops[g]:=by simp[j]
  have v:yielded ops (NJ a f u).tmps g=some x:=by
   unfold yielded;rw[p,Ti,t _ p,Ti,fS a f u m,PY q s,Lm];simp only[r]
  show(yielded ops (NJ a f u).tmps g==some c)=(x==c);rw[v];rfl
def KsOk.at{P:xO}{b:List Nat}{A:Act}{G:xH->Prop}{Φ:Nat->y9->xH->Prop}{fr:Nat->Bool}:∀ {l:List Oper} {n i:Nat},KsOk P b A G Φ fr l n i->∀j o,j<n->l[j]?=some o->pg P b A G Φ fr (i+j) o
 |[],_,_,_,_,_,_,a=>by simp at a
 |_::_,0,_,_,_,_,c,_=>x3
 |x::l,n+1,i,h,0,o,_,a=>by
  simp at a;subst a;exact h.1
 |x::l,n+1,i,h,j+1,o,c,a=>by
  have:=KsOk.at h.2 j o x3 (l3 a);rwa [show i+1+j=i+(j+1)by omega]at this
def LsOk.at{P:xO}{c:List Nat}{A:Act}{Φ:Nat->y9->xH->Prop}{fr d:Nat->Bool}:∀ {l:List Oper} {n i:Nat},LsOk P c A Φ fr d l n i->∀j o,j<n->l[j]?=some o->d (i+j)=false->fr (i+j)=false/\rC P c A Φ (i+j) o
 |[],_,_,_,_,_,_,a,_=>by simp at a
 |_::_,0,_,_,_,_,g,_,_=>x3
 |x::l,n+1,i,h,0,o,_,a,b=>by
  simp at a;subst a
  have f:=h.1;rw[T9]at b;rw[b]at f;exact f
 |x::l,n+1,i,h,j+1,o,g,a,b=>by
  have e:i+1+j=i+(j+1):=x3;have:=LsOk.at h.2 j o x3 (l3 a) (by rw[e];exact b);rwa [e]at this
def ML:List Nat->Bool | []=>true|d::ds=>!(ds.contains d)&&ML ds
def MM:∀ {a:List Nat},ML a=true->a.Nodup
 |[],_=>List.nodup_nil
 |d::a,h=>by
  simp only[ML,Lx,U2,List.contains_eq_mem,decide_eq_false_iff_not]at h;exact V3.2 ⟨h.1,MM h.2⟩
def BT(b:List Nat)(G:xH->Prop)(Φ:Nat->y9->xH->Prop)(M:Nat->Bool)(fr:Nat->Bool)(hm:P.follows .mixedOrders=true)(O:Oq l.toArray b.length M=true)(hQ:∀(d:Tmp) (v:y9) c a w,Q (.panic c) (a.put (some d) v) w->Q (.panic c) a w)(D:((List.range b.length).all λi=>((l.toArray[i]?).bind (·.dst))==b[i]?)=true)(R:ML b=true)(N:Nat)(hN:a.tmps.size=N)(E:b.all (·<N)=true)(S:t8 l.toArray b.length=true)(J:G w.drew)(T:∀i v w w',i<b.length->Below w.heap.size w w'->Φ i v w->Φ i v w')(U:∀i v w,i<b.length->fr i=true->Φ i v w->∃g,blk v=some g/\g<w.heap.size)(V:∀A,A=a->KsOk P b A G Φ fr l b.length 0)(z:∀A,A=a->LsOk P b A Φ fr M l b.length 0)(B:∀u w',G w'->(∀i,i<b.length->Φ i (u i) w')->(∀i j,i<b.length->j<b.length->fr i=true->fr j=true->i≠j->blk (u i)≠blk (u j))->wpList P l.toArray Q (l.drop b.length) (JF a b 0 u) w'):(Code.region id l.toArray true).wp P Q a w:=by
 rw[<- hN]at E;have p:=MM R;have q:b.length<=l.toArray.size:=by
  simp only[Oq,Lx,decide_eq_true_eq]at O;exact O.1.1.1.1.1.1
 have L:∀i,i<b.length->∃d,b[i]?=some d/\d<a.tmps.size/\∀o,l.toArray[i]?=some o->o.dst=some d:=λi r=>by
  have s:=Lg.1 D i (R7.2 r);have X:((l.toArray[i]?).bind (·.dst))=b[i]?:=l3 s;refine⟨b[i],by simp[r],by simpa using Lg.1 E b[i] x6,λo k=>?_⟩;rw[k]at X;have h3:b[i]?=some b[i]:=by simp[r]
  rw[h3]at X;exact X
 have t:∀i o,i<b.length->l.toArray[i]?=some o->∀g c,o.guard=some (g,c)->g<b.length:=λi o r k g c F=>by
  have s:=Lg.1 S i (R7.2 r);rw[k]at s;simp only[F,decide_eq_true_eq]at s;exact s
 refine BP b (λ_ _ u=>NJ a b u) G Φ M hm O hQ D (m7 a b) J (Ii p b 0 λj d h=>by rw[Lm];exact h) T fr U (λ_ _ _=>?_) (λ_ _ _ i r hs=>?_) B
 ·have hk:=V a rfl;have key:∀n i,i+n=b.length->OpsOk P l.toArray (NJ a b) G Φ fr n i:=by
   intro n;induction n with
   |zero=>intro _ _;trivial
   |succ n ih =>
    intro i r;refine⟨λo k u W J H Q K Y=>?_,ih (i+1) x3⟩;have s:=KsOk.at hk i o x3 (l3 k);rw[Lm]at s;have x:KG l.toArray i=eR o:=by unfold KG;rw[k];rfl
    rw[x]at H;rcases s u W J H with⟨x,v,w',I,Z,F,C,hn⟩|⟨m,x,f,args,I,hc⟩|⟨m,x,C⟩
    ·rw[V1 p L q (t i o x3 k) x,if_pos rfl];unfold Oper.wp;rw[I];exact Y v w' Z F C hn
    ·rw[V1 p L q (t i o x3 k) x,if_pos rfl];unfold Oper.wp;rw[I];refine hc.mono ?_
     rintro e w' ⟨v,rfl,Z,F,C⟩;exact Y v w' Z F C (λh=>by rw[m]at h;cases h)
    ·rw[V1 p L q (t i o x3 k) x,if_neg x6];exact Y undef W (p5 _ _) J C (λh=>by rw[m]at h;cases h)
  exact key b.length 0 (Lm _)
 ·have y:i<l.length:=by simpa using L9 r q
  let⟨m,hl⟩:=LsOk.at (z a rfl) i l[i] r (by simp[y]) (by rw[Lm];exact hs);rw[Lm]at m hl;refine⟨m,λo k u W H=>?_⟩;have e:o=l[i]:=by
   have s:l.toArray[i]?=some l[i]:=by simp[y]
   exact o7 (k.symm.trans s)
  subst e;have x:KG l.toArray i=eR l[i]:=by unfold KG;rw[k];rfl
  rw[x]at H;let⟨v,ad,I,C⟩:=hl u W H;exact⟨v,.inl ⟨V1 p L q (t i _ r k) ad,I⟩,C⟩
variable{R:y9}
section
variable{P:Program}{G:World->Prop}{Φ:Nat->Value->World->Prop}{fr:Nat->Bool}{i:Nat}{o:Oper}{u:Nat->Value}{ev:Operand->Value}{W:World}
def Ij(v:y9)(a:CO u o true)(b:fr i=false)(c:G W)(d:(execOp ev o).run P W=.ok (.value v) W)(e:Φ i v W):TE P G Φ fr i o u ev W :=
 .inl ⟨a,v,W,d,p5 _ _,c,e,λh=>by rw[b]at h;cases h⟩
def lN(f:FuncId)(args:x0g)(b:CO u o true)(c:fr i=false)(d:(execOp ev o).run P W=.ok (.enter f args) W)(g:xP P f args W R)(j:∀w',Below W.heap.size W w'->G w')(k:∀w',Below W.heap.size W w'->Φ i R w'):TE P G Φ fr i o u ev W :=
 .inr (.inl ⟨c,b,f,args,d,g.mono λ_ w' ⟨h,a⟩=>⟨R,h,a,j w' a,k w' a⟩⟩)
end
abbrev Kn:=y9->xH->Prop
def PC(p:Kn):Prop:=∀v w w',Below w.heap.size w w'->p v w->p v w'
def rV(c:y9):Kn:=λv _=>v=c
def nk:Kn:=λ_ _=>True
def mD(B:Nat)(t:o0)(cs:x0g):Kn:=λv W=>∃g,v=.pointer (some ⟨g,0,none⟩)/\B<=g/\Bx W g t cs
def mZ(B:Nat)(t:o0)(n:Nat)(cs:x0g):Kn:=λv W=>∃g,v=.slice (some ⟨g,0,none⟩) n n/\B<=g/\Bx W g t cs
def jg(c:y9):PC (rV c):=λ_ _ _ _ h=>h
def fB:PC nk:=λ_ _ _ _ _=>trivial
def fD(B:Nat)(t:o0)(cs:x0g):PC (mD B t cs):=λ_ _ _ a ⟨g,e,b,h⟩=>⟨g,e,b,h.later a⟩
def fM(B:Nat)(t:o0)(n:Nat)(cs:x0g):PC (mZ B t n cs):=λ_ _ _ a ⟨g,e,b,h⟩=>⟨g,e,b,h.later a⟩
def P7{t:o0}{cs:x0g}(v:y9)(w:xH)(h:mD B t cs v w):∃g,blk v=some g/\g<w.heap.size:=by
 obtain⟨g,rfl,_,a⟩:=h;exact⟨g,rfl,a.lt⟩
def P9{t:o0}{n:Nat}{cs:x0g}(v:y9)(w:xH)(h:mZ B t n cs v w):∃g,blk v=some g/\g<w.heap.size:=by
 obtain⟨g,rfl,_,a⟩:=h;exact⟨g,rfl,a.lt⟩
def lZ{a:List Nat}{A:Act}{G:xH->Prop}{Φ:Nat->y9->xH->Prop}{fr:Nat->Bool}{N:Nat}(c:A.tmps.size=N)(h:∀(u:Nat->y9) (W:xH) (ev:x0h->y9),(∀v,ev (.const v)=v)->(∀f,ev (.func f)=.func (.func f) #[] #[])->(∀ {v:y9} (k j:Nat),Nat.blt k N=true->ga k a 0=some j->u j=v->ev (.tmp k)=v)->(∀ {v:y9} (k:Nat),Nat.blt k N=true->ga k a 0=none->A.tmps.getD k undef=v->ev (.tmp k)=v) ->
  G W->(∀j,(eR o).contains j=true->Φ j (u j) W)->TE P G Φ fr i o u ev W):pg P a A G Φ fr i o :=
 λu W d e=>h u W (NJ A a u).eval (λ_=>rfl) (λ_=>rfl) (λk j b=>Wd (by rw[c];exact Nat.blt_eq.mp b)) (λk b=>Wc (by rw[c];exact Nat.blt_eq.mp b)) d (λj g=>e j (l3 g))
inductive KN where
 |eq (v:Value)
 |any
 |ptr (B:Nat) (t:TypeId) (cs:Array Value)
 |sli (B:Nat) (t:TypeId) (n:Nat) (cs:Array Value)
 |prd (p:Kn) (h:PC p)
def KN.at:KN->Kn
 |.eq v=>rV v
 |.any=>nk
 |.ptr B t cs=>mD B t cs
 |.sli B t n cs=>mZ B t n cs
 |.prd p _=>p
def KN.fresh:KN->Bool
 |.ptr _ _ _=>true
 |.sli _ _ _ _=>true
 |_=>false
def KN.stab:∀p:KN,PC p.at
 |.eq _=>jg _
 |.any=>fB
 |.ptr _ _ _=>fD _ _ _
 |.sli _ _ _ _=>fM _ _ _ _
 |.prd _ h=>h
def KN.blk:∀(p:KN),p.fresh=true->∀v w,p.at v w->∃g,blk v=some g/\g<w.heap.size
 |.ptr _ _ _,_=>P7
 |.sli _ _ _ _,_=>P9
 |.eq _,h=>by cases h
 |.any,h=>by cases h
 |.prd _ _,h=>by cases h
def kA(L:List KN)(i:Nat)(v:y9)(W:xH):Prop:=match L[i]? with|some p=>p.at v W|none=>True
def lx(L:List KN)(i:Nat):Bool:=match L[i]? with|some p=>p.fresh|none=>false
def gJ(L:List KN)(i:Nat)(v:y9)(w w':xH)(a:Below w.heap.size w w')(h:kA L i v w):kA L i v w':=by
 unfold kA at *;split at h
 ·exact KN.stab _ v w w' a h
 ·trivial
def lF(L:List KN)(i:Nat)(v:y9)(w:xH)(a:lx L i=true)(h:kA L i v w):∃g,blk v=some g/\g<w.heap.size:=by
 unfold lx at a;unfold kA at h;split at a
 ·rename_i p e;rw[e]at h;exact KN.blk p a v w h
 ·cases a
def oV(l:List Oper)(a:List Nat)(b:List Nat)(N:Nat):Bool :=
 Oq l.toArray a.length (λi=>!b.contains i)&&((List.range a.length).all λi=>((l.toArray[i]?).bind (·.dst))==a[i]?)&&ML a&&a.all (·<N)&&t8 l.toArray a.length
section
variable{P:Program}{id:Nat}{Q:Exit->Act->World->Prop}{a:Act}{w:World}{l:List Oper}
def Hi(b:List Nat)(L:List KN)(e:List Nat)(N:Nat)(n:P.follows .mixedOrders=true)(o:∀(d:Tmp) (v:y9) c a w,Q (.panic c) (a.put (some d) v) w->Q (.panic c) a w)(m:oV l b e N=true)(p:a.tmps.size=N)(k:∀A,A=a->KsOk P b A (λW=>Below w.heap.size w W) (kA L) (lx L) l b.length 0)(f:∀A,A=a->LsOk P b A (kA L) (lx L) (λi=>!e.contains i) l b.length 0)(g:∀u w',Below w.heap.size w w'->(∀i,i<b.length->kA L i (u i) w')->(∀i j,i<b.length->j<b.length->lx L i=true->lx L j=true->i≠j->blk (u i)≠blk (u j))->wpList P l.toArray Q (l.drop b.length) (JF a b 0 u) w'):(Code.region id l.toArray true).wp P Q a w:=by
 simp only[oV,Lx]at m;let⟨⟨⟨⟨q,r⟩,s⟩,t⟩,x⟩:=m;exact BT b (λW=>Below w.heap.size w W) (kA L) (λi=>!e.contains i) (lx L) n q o r s N p t x (p5 _ _).drew (λi v w w' _ y h=>gJ L i v w w' y h) (λi v w _ z h=>lF L i v w z h) k f g
end
section
variable{P:Program}{Φ:Nat->Value->World->Prop}{fr:Nat->Bool}{i:Nat}{o:Oper}{u:Nat->Value}{ev:Operand->Value}{W S:World}
def od{f:FuncId}{args:x0g}(a:CO u o true)(b:fr i=false)(c:(execOp ev o).run P W=.ok (.enter f args) W)(d:xP P f args W R)(g:Below S.heap.size S W)(h:∀w',Below W.heap.size W w'->Φ i R w'):TE P (λW=>Below S.heap.size S W) Φ fr i o u ev W :=
 lN f args a b c d (λ_ j=>nxt g j) h
end
def Dr(w:xH)(g:Nat):Nat->o3->xH
 |_,[]=>w
 |k,v::vs=>Dr (w.setCell ⟨g,k,none⟩ v) g (k+1) vs
def wh(cs:x0g):Nat->o3->x0g
 |_,[]=>cs
 |k,v::vs=>wh (cs.setIfInBounds k v) (k+1) vs
def Bx.farN{a:Nat}{t:o0}{cs:x0g}(c:g≠a):∀(b:o3) (k:Nat) {w:xH},Bx w g t cs->Bx (Dr w a k b) g t cs
 |[],_,_,h=>h
 |v::b,k,_,h=>Bx.farN c b (k+1) (h.far (p:=⟨a,k,none⟩) c v)
def Bx.stores{t:o0}:∀(a:o3) (k:Nat) {w:xH} {cs:x0g},Bx w g t cs->Bx (Dr w g k a) g t (wh cs k a)
 |[],_,_,_,h=>h
 |v::a,k,_,_,h=>Bx.stores a (k+1) (h.set k v)
def sq{B g:Nat}{a:xH}(c:B<=g):∀(b:o3) (k:Nat) {w:xH},Below B a w->Below B a (Dr w g k b)
 |[],_,_,h=>h
 |v::b,k,_,h=>sq c b (k+1) (h.setCell c v)
def Bx.k1{t:o0}{a:y9}(h:Bx w g t #[a]):w.cell? ⟨g,0,none⟩=some a/\w.frozen? ⟨g,0,none⟩=false :=
 ⟨h.cel 0,h.free 0⟩
