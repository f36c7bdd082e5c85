/- Laws beneath the statement. -/
import Derived.Lib.BitFns
import Derived.Lib.TrailingZeros
import Derived.Lib.Hide
import Derived.WalkSpells
import Derived.WalkLawsBesides
import Derived.Deep.OwnRows
import Derived.Laws.CopyOwn
import Derived.StillTail
import Derived.OrdersHeld
namespace Go.Proofs.YtoibldcmoapgbaaGreatDoor
open Go Go.RowKit
theorem x3{p:Prop}(h:p:=by omega):p:=h
theorem x4{p:Prop}(h:p:=by decide):p:=h
theorem x5{p:Prop}(h:p:=by kernel_rfl):p:=h
theorem x6{p:Prop}(h:p:=by simp):p:=h
theorem x7{p:Prop}(h:p:=by simp;omega):p:=h
theorem y6{p q:Prop}(a:p)(h:p->q:=by intro _;omega):q:=h a
theorem y7{p q r:Prop}(a:p)(b:q)(h:p->q->r:=by intro _ _;omega):r:=h a b
theorem y8{p q:Prop}(a:p)(h:p->q:=by intro h;simpa using h):q:=h a
abbrev y9:=World
abbrev z0:=Value
abbrev u4:=ByteArray
abbrev u5:=Option Addr
abbrev u6:=TypeId
abbrev u7:=Program
abbrev a8:=List Value
abbrev b7:=Array Value
abbrev b8:=Operand
abbrev b9(P:Program)(f:FuncId)(a:Array Value)(w:World)(r:Value):Prop:=Calls P f a w λe z=>e=.returned r/\Below w.heap.size w z
theorem hV:type_of% @Lib.hid:=@Lib.hid
theorem hW:type_of% @Option.some.inj:=@Option.some.inj
theorem k0:type_of% @And.intro:=@And.intro
theorem l3:type_of% @Below.refl:=@Below.refl
theorem m0:type_of% @List.getElem?_eq_getElem:=@List.getElem?_eq_getElem
theorem m1:type_of% @List.getElem?_eq_none:=@List.getElem?_eq_none
theorem o0:type_of% @IntKind.wrap_u64:=@IntKind.wrap_u64
theorem o3:type_of% @Array.getElem?_eq_some_iff:=@Array.getElem?_eq_some_iff
theorem o4:type_of% @List.getElem?_take_of_lt:=@List.getElem?_take_of_lt
theorem p0:type_of% @Sem.run_bind:=@Sem.run_bind
theorem p7:type_of% @Result.andThen_ok:=@Result.andThen_ok
theorem sT:type_of% @List.getElem?_eq_some_iff:=@List.getElem?_eq_some_iff
theorem Δ:type_of% @Array.getElem?_eq_none:=@Array.getElem?_eq_none
theorem c6:type_of% @List.getElem?_append_right:=@List.getElem?_append_right
theorem h8:type_of% @Array.getD_eq_getD_getElem?:=@Array.getD_eq_getD_getElem?
abbrev Θ(n:Int):Value:=.int .i64 n
abbrev Ξ(b:Bool):Value:=.bool b
abbrev Ψ(s:ByteArray):Value:=.string s
abbrev Ω(a:Option Addr)(n c:Nat):Value:=.slice a n c
abbrev x00:Value:=.string ⟨#[]⟩
abbrev x01:Value:=.slice none 0 0
abbrev x02(g:Nat):Value:=.pointer (some ⟨g,0,none⟩)
theorem L1:type_of% @of_decide_eq_true:=@of_decide_eq_true
theorem L3:type_of% @Nat.le_of_ble_eq_true:=@Nat.le_of_ble_eq_true
theorem L6:type_of% @Bool.and_eq_true_iff:=@Bool.and_eq_true_iff
theorem L7:type_of% @of_decide_eq_false:=@of_decide_eq_false
theorem L8:type_of% @Nat.le_refl:=@Nat.le_refl
theorem L9:type_of% @Nat.le_trans:=@Nat.le_trans
theorem La:type_of% @Nat.zero_le:=@Nat.zero_le
theorem Lb:type_of% @Nat.lt_of_lt_of_le:=@Nat.lt_of_lt_of_le
theorem Lc:type_of% @List.all_eq_true:=@List.all_eq_true
theorem Ld:type_of% @cell_later:=@cell_later
theorem Le:type_of% @Nat.eq_of_beq_eq_true:=@Nat.eq_of_beq_eq_true
theorem Lf:type_of% @List.length_drop:=@List.length_drop
theorem Lg:type_of% @IntWalk.i64_in:=@IntWalk.i64_in
theorem Lh:type_of% @decide_eq_false:=@decide_eq_false
theorem Li:type_of% @Nat.pow_le_pow_right:=@Nat.pow_le_pow_right
theorem Lj:type_of% @Nat.zero_add:=@Nat.zero_add
theorem Lk:type_of% @List.length_take:=@List.length_take
theorem Ll:type_of% @List.mem_cons:=@List.mem_cons
theorem Lm:type_of% @Nat.div_lt_iff_lt_mul:=@Nat.div_lt_iff_lt_mul
theorem Lo:type_of% @Nat.mul_le_mul_right:=@Nat.mul_le_mul_right
theorem Lp:type_of% @Classical.choose_spec:=@Classical.choose_spec
theorem Lq:type_of% @List.length_append:=@List.length_append
theorem Lr:type_of% @List.mem_range:=@List.mem_range
theorem Ls:type_of% @Nat.mul_comm:=@Nat.mul_comm
theorem Lt:type_of% @Nat.pow_add:=@Nat.pow_add
theorem Lu:type_of% @Bool.and_eq_true:=@Bool.and_eq_true
theorem Lv:type_of% @Nat.two_pow_pos:=@Nat.two_pow_pos
theorem Lw:type_of% @Nat.lt_of_le_of_lt:=@Nat.lt_of_le_of_lt
theorem Lx:type_of% @Nat.lt_or_ge:=@Nat.lt_or_ge
theorem Ly:type_of% @congrArg:=@congrArg
theorem Lz:type_of% @decide_eq_true:=@decide_eq_true
theorem R4:type_of% @Nat.mul_le_mul_left:=@Nat.mul_le_mul_left
theorem R5:type_of% @Nat.mul_assoc:=@Nat.mul_assoc
theorem R6:type_of% @Nat.not_lt_zero:=@Nat.not_lt_zero
theorem R7:type_of% @beq_eq_false_iff_ne:=@beq_eq_false_iff_ne
theorem R8:type_of% @Nat.mod_eq_of_lt:=@Nat.mod_eq_of_lt
theorem R9:type_of% @Nat.pow_succ:=@Nat.pow_succ
theorem Ra:type_of% @Nat.mod_lt:=@Nat.mod_lt
theorem Rb:type_of% @Nat.le_antisymm:=@Nat.le_antisymm
theorem Rc:type_of% @List.length_cons:=@List.length_cons
theorem Re:type_of% @List.mem_singleton:=@List.mem_singleton
theorem Rf:type_of% @List.not_mem_nil:=@List.not_mem_nil
theorem Rg:type_of% @Nat.le_add_right:=@Nat.le_add_right
theorem Rh:type_of% @Nat.mul_lt_mul_of_pos_right:=@Nat.mul_lt_mul_of_pos_right
theorem Ri:type_of% @List.mem_map:=@List.mem_map
theorem Rj:type_of% @List.take_of_length_le:=@List.take_of_length_le
theorem Rk:type_of% @Nat.div_div_eq_div_mul:=@Nat.div_div_eq_div_mul
theorem Rl:type_of% @Nat.mul_add:=@Nat.mul_add
theorem Rm:type_of% @Nat.succ_mul:=@Nat.succ_mul
theorem Rn:type_of% @Nat.div_le_self:=@Nat.div_le_self
theorem Ro:type_of% @ByteArray.size_append:=@ByteArray.size_append
theorem Rp:type_of% @ByteArray.toList_eq:=@ByteArray.toList_eq
theorem Rq:type_of% @Eq.refl:=@Eq.refl
theorem Rr:type_of% @List.take_succ_eq_append_getElem:=@List.take_succ_eq_append_getElem
theorem Rs:type_of% @List.mem_append:=@List.mem_append
theorem Rt:type_of% @Nat.add_mul:=@Nat.add_mul
theorem Ru:type_of% @List.setIfInBounds_toArray:=@List.setIfInBounds_toArray
theorem Rv:type_of% @Nat.le_mul_of_pos_right:=@Nat.le_mul_of_pos_right
theorem Rx:type_of% @Nat.le_of_eq:=@Nat.le_of_eq
theorem Ry:type_of% @Nat.ne_of_lt:=@Nat.ne_of_lt
theorem Rz:type_of% @List.eq_nil_of_length_eq_zero:=@List.eq_nil_of_length_eq_zero
theorem S5:type_of% @Below.heap_setCell:=@Below.heap_setCell
theorem S6:type_of% @Nat.succ_pos:=@Nat.succ_pos
theorem S7:type_of% @Array.length_toList:=@Array.length_toList
theorem S8:type_of% @List.length_singleton:=@List.length_singleton
theorem S9:type_of% @Int.toNat_natCast:=@Int.toNat_natCast
theorem Sa:type_of% @List.size_toArray:=@List.size_toArray
theorem Sb:type_of% @Nat.pow_pos:=@Nat.pow_pos
theorem Sc:type_of% @Nat.add_assoc:=@Nat.add_assoc
theorem Sd:type_of% @List.mem_filter:=@List.mem_filter
theorem Se:type_of% @Nat.add_mul_div_left:=@Nat.add_mul_div_left
theorem Sf:type_of% @Nat.le_of_lt:=@Nat.le_of_lt
theorem Sg:type_of% @Nat.le_of_not_lt:=@Nat.le_of_not_lt
theorem Sh:type_of% @Nat.lt_succ_self:=@Nat.lt_succ_self
theorem Si:type_of% @Nat.succ_le_succ:=@Nat.succ_le_succ
theorem Sj:type_of% @List.length_replicate:=@List.length_replicate
theorem Sk:type_of% @List.length_map:=@List.length_map
theorem Sl:type_of% @List.length_nil:=@List.length_nil
theorem Sm:type_of% @Nat.mul_one:=@Nat.mul_one
theorem Sn:type_of% @Nat.pow_mul:=@Nat.pow_mul
theorem So:type_of% @Nat.eq_zero_or_pos:=@Nat.eq_zero_or_pos
theorem Sq:type_of% @List.getElem_mem:=@List.getElem_mem
theorem Sr:type_of% @List.mem_cons_of_mem:=@List.mem_cons_of_mem
theorem Ss:type_of% @Nat.div_eq_of_lt:=@Nat.div_eq_of_lt
theorem Su:type_of% @Option.bind_some:=@Option.bind_some
theorem Sv:type_of% @beq_iff_eq:=@beq_iff_eq
theorem Sw:type_of% @Nat.add_zero:=@Nat.add_zero
theorem Sx:type_of% @Nat.lt_irrefl:=@Nat.lt_irrefl
theorem Sz:type_of% @List.length_range:=@List.length_range
theorem T1:type_of% @Array.toList_append:=@Array.toList_append
theorem T3:type_of% @Nat.div_add_mod:=@Nat.div_add_mod
theorem T4:type_of% @Nat.min_eq_left:=@Nat.min_eq_left
theorem T5:type_of% @Nat.mod_add_div:=@Nat.mod_add_div
theorem T6:type_of% @ByteArray.data_append:=@ByteArray.data_append
theorem T7:type_of% @List.length_filter_le:=@List.length_filter_le
theorem T8:type_of% @Nat.le_div_iff_mul_le:=@Nat.le_div_iff_mul_le
theorem T9:type_of% @List.map_cons:=@List.map_cons
theorem Ta:type_of% @Array.mem_toList_iff:=@Array.mem_toList_iff
theorem Tb:type_of% @Nat.add_sub_cancel_left:=@Nat.add_sub_cancel_left
theorem Tc:type_of% @List.append_nil:=@List.append_nil
theorem Td:type_of% @List.range_succ:=@List.range_succ
theorem Te:type_of% @Nat.add_comm:=@Nat.add_comm
theorem Tf:type_of% @List.set_cons_zero:=@List.set_cons_zero
theorem Tg:type_of% @Nat.one_mul:=@Nat.one_mul
theorem Th:type_of% @List.map_append:=@List.map_append
theorem Ti:type_of% @List.mem_of_mem_drop:=@List.mem_of_mem_drop
theorem Tj:type_of% @Option.map_some:=@Option.map_some
theorem Tl:type_of% @List.flatMap_cons:=@List.flatMap_cons
theorem Tn:type_of% @List.take_append_of_le_length:=@List.take_append_of_le_length
theorem To:type_of% @Nat.pow_one:=@Nat.pow_one
theorem Tp:type_of% @Bool.false_eq_true:=@Bool.false_eq_true
theorem Tq:type_of% @List.getElem_range:=@List.getElem_range
theorem Tr:type_of% @eq_of_beq:=@eq_of_beq
theorem Ts:type_of% @Int.natCast_mul:=@Int.natCast_mul
theorem Tt:type_of% @Nat.le_of_lt_succ:=@Nat.le_of_lt_succ
theorem Tu:type_of% @Int.natAbs_ediv_le_natAbs:=@Int.natAbs_ediv_le_natAbs
theorem Tv:type_of% @List.drop_eq_getElem_cons:=@List.drop_eq_getElem_cons
theorem Tw:type_of% @Int.le_refl:=@Int.le_refl
theorem Tx:type_of% @Int.neg_neg:=@Int.neg_neg
theorem Ty:type_of% @Int.natAbs_mul:=@Int.natAbs_mul
theorem Tz:type_of% @Below.heap_alloc:=@Below.heap_alloc
theorem U0:type_of% @Nat.pow_lt_pow_iff_right:=@Nat.pow_lt_pow_iff_right
theorem U1:type_of% @Nat.sub_self:=@Nat.sub_self
theorem U2:type_of% @Int.toNat_of_nonneg:=@Int.toNat_of_nonneg
theorem U3:type_of% @List.drop_succ_cons:=@List.drop_succ_cons
theorem U4:type_of% @List.flatMap_append:=@List.flatMap_append
theorem U5:type_of% @List.map_congr_left:=@List.map_congr_left
theorem U6:type_of% @List.filter_cons_of_neg:=@List.filter_cons_of_neg
theorem U7:type_of% @List.filter_cons_of_pos:=@List.filter_cons_of_pos
theorem U8:type_of% @List.nil_append:=@List.nil_append
theorem U9:type_of% @List.set_cons_succ:=@List.set_cons_succ
theorem Ub:type_of% @Nat.add_sub_cancel:=@Nat.add_sub_cancel
theorem Ud:type_of% @Nat.add_mod:=@Nat.add_mod
theorem Ue:type_of% @Int.lt_trichotomy:=@Int.lt_trichotomy
theorem Uf:type_of% @Bool.and_false:=@Bool.and_false
theorem Ug:type_of% @Nat.pow_zero:=@Nat.pow_zero
theorem Uh:type_of% @Nat.zero_mul:=@Nat.zero_mul
theorem Ui:type_of% @Array.toList_map:=@Array.toList_map
theorem Uj:type_of% @List.any_eq_true:=@List.any_eq_true
theorem Uk:type_of% @List.mem_flatMap:=@List.mem_flatMap
theorem Ul:type_of% @Nat.lt_of_not_le:=@Nat.lt_of_not_le
theorem Um:type_of% @Nat.mul_lt_mul'':=@Nat.mul_lt_mul''
theorem Uo:type_of% @Nat.succ_lt_succ:=@Nat.succ_lt_succ
theorem Uq:type_of% @Nat.mod_one:=@Nat.mod_one
theorem Ut:type_of% @Nat.mul_pos:=@Nat.mul_pos
theorem Uu:type_of% @Bool.or_eq_true:=@Bool.or_eq_true
theorem Uv:type_of% @List.nodup_cons:=@List.nodup_cons
def LB:Nat:=18446744073709551616
theorem ZW:LB=18446744073709551616:=rfl
theorem XZ:LB=2^64:=rfl
theorem QB:0<LB:=x4
def QD(B v j:Nat): Nat:=v / B^j % B
theorem Yz{B:Nat}(h:0<B)(v j:Nat): QD B v j<B:=Ra _ h
theorem KO(B j:Nat): QD B 0 j=0:=by simp[QD]
theorem NR{B v j:Nat}(h:v<B^j): QD B v j=0:=by
 unfold QD;rw[Ss h];simp
theorem Zr{B v n j:Nat}(a:0<B)(h:v<B^n)(b:n<=j): QD B v j=0 :=
 NR (Lb h (Li a b))
theorem Jt(B v k:Nat): v % B^(k+1)=v % B^k+B^k*QD B v k:=by
 unfold QD;rw[R9,Nat.mod_mul]
theorem OR(B v k:Nat): v=v % B^k+B^k*(QD B v k+B*(v / B^(k+1))):=by
 have c:=T5 v (B^k);have b:=T5 (v / B^k) B;rw[Rk,<- R9]at b;have a:QD B v k+B*(v / B^(k+1))=v / B^k:=b;rw[a];exact c.symm
theorem Vi{B v n j:Nat}(h:j<n): QD B (v % B^n) j=QD B v j:=by
 unfold QD;obtain⟨d,rfl⟩:∃d,n=j+(d+1):=⟨n-j-1,x3⟩
 rw[Lt,Nat.mod_mul_right_div_self,R9,Ls (B^d),Nat.mod_mul_right_mod]
theorem Br{B:Nat}: ∀ {n u v:Nat},u<B^n->v<B^n->(∀j,j<n->QD B u j=QD B v j)->u=v:=by
 intro n;induction n with
 | zero=>intro u v c d _;simp at c d;omega
 | succ n k =>
  intro u v c d h;have a:u % B^(n+1)=u:=R8 c;have b:v % B^(n+1)=v:=R8 d;rw[Jt]at a b;by_cases f:B=0
  ·subst f;simp at c
  have g:0<B^n:=Sb (Nat.pos_of_ne_zero f);have e:u % B^n=v % B^n:=k (Ra _ g) (Ra _ g) λj i=>by
   rw[Vi i,Vi i];exact h j x3
  rw[<- a,<- b,e,h n x3]
theorem KI(B v n j:Nat): QD B (v / B^n) j=QD B v (n+j):=by
 unfold QD;rw[Rk,<- Lt]
theorem Fu{B u d k:Nat}(a:0<B)(c:u<B^k)(b:d<B)(j:Nat):
  QD B (u+B^k*d) j=if j<k then QD B u j else if j=k then d else 0:=by
 by_cases h:j<k
 ·rw[if_pos h,<- Vi h,Nat.add_mul_mod_self_left,Vi h]
 ·rw[if_neg h];by_cases e:j=k
  ·subst e;rw[if_pos rfl];unfold QD;rw[Se _ _ (Sb a),Ss c,Lj,R8 b]
  ·rw[if_neg e];refine Zr (n:=k+1) a ?_ x3;rw[R9]
   calc u+B^k*d<B^k+B^k*d:=x3
    _=B^k*(d+1):=by rw[Rl,Sm,Te]
    _<=B^k*B:=R4 _ b
def J3(B x y k:Nat): Nat:=(x % B^k+y % B^k) / B^k
theorem UP(B x y:Nat): J3 B x y 0=0:=by simp[J3,Uq]
theorem Pp{B:Nat}(b:0<B)(x y k:Nat): J3 B x y k<=1:=by
 unfold J3;have a:=Nat.pow_pos (n:=k) b;have c:=Ra x a;have d:=Ra y a;have:(x % B^k+y % B^k) / B^k<2:=by rw[Lm a];omega
 omega
theorem UO{B:Nat}(a:0<B)(x y k:Nat): J3 B x y (k+1)=(QD B x k+QD B y k+J3 B x y k) / B:=by
 unfold J3;have b:=Nat.pow_pos (n:=k) a;rw[Jt,Jt,show x % B^k+B^k*QD B x k+(y % B^k+B^k*QD B y k)=(x % B^k+y % B^k)+B^k*(QD B x k+QD B y k)by rw[Rl];omega,
  R9,<- Rk,Se _ _ b,Te]
theorem bm{B:Nat}(a:0<B)(x y k:Nat): QD B (x+y) k=(QD B x k+QD B y k+J3 B x y k) % B:=by
 have b:=Nat.pow_pos (n:=k) a;have e:x+y=(x % B^k+y % B^k)+B^k*(x / B^k+y / B^k):=by
  have d:=T5 x (B^k);have f:=T5 y (B^k);rw[Rl];omega
 have c:(x+y) / B^k=J3 B x y k+(x / B^k+y / B^k):=by
  unfold J3;rw[e,Se _ _ b]
 unfold QD;rw[c,Te (J3 B x y k),Ud (x / B^k+y / B^k),Ud (x / B^k),Ud (x / B^k % B+y / B^k % B)]
def ZY(B x y k:Nat): Nat:=if x % B^k<y % B^k then 1 else 0
theorem Pd(B x y:Nat): ZY B x y 0=0:=by simp[ZY,Uq]
theorem el(B x y k:Nat): ZY B x y k<=1:=by unfold ZY;split<;>omega
theorem Pc{B:Nat}(i:0<B)(x y k:Nat): ZY B x y (k+1)=if QD B x k<QD B y k+ZY B x y k then 1 else 0:=by
 have g:=Nat.pow_pos (n:=k) i;unfold ZY;rw[Jt,Jt];have j:=Ra x g;have l:=Ra y g;generalize QD B x k=a;generalize QD B y k=b;generalize x % B^k=p at *;generalize y % B^k=q at *;generalize B^k=m at *;have key:(p+m*a<q+m*b)↔(a<b+if p<q then 1 else 0):=by
  by_cases c:p<q
  ·rw[if_pos c];constructor
   ·intro h;apply Ul;intro f;obtain⟨d,rfl⟩:∃d,a=b+1+d:=⟨a-b-1,x3⟩
    rw[Rl,Rl,Sm]at h;have:0<=m*d:=La _;omega
   ·intro h;have:m*a<=m*b:=R4 _ x3;omega
  ·rw[if_neg c];constructor
   ·intro h;apply Ul;intro f;have:m*b<=m*a:=R4 _ x3;omega
   ·intro h;have:m*(a+1)<=m*b:=R4 _ x3;rw[Rl,Sm]at this;omega
 by_cases e:p+m*a<q+m*b
 ·rw[if_pos e,if_pos (key.1 e)]
 ·rw[if_neg e,if_neg (λh=>e (key.2 h))]
theorem nZ{B:Nat}(f:0<B){x y:Nat}(l:y<=x)(k:Nat): QD B (x-y) k=(QD B x k+B-QD B y k-ZY B x y k) % B:=by
 have h:=Nat.pow_pos (n:=k) f;obtain⟨z,rfl⟩:∃z,x=z+y:=⟨x-y,x3⟩
 rw[Ub];have g:=bm f z y k;have j:=Yz f z k;have r:=Yz f y k;have s:=Pp f z y k;have i:ZY B (z+y) y k=J3 B z y k:=by
  unfold ZY J3;have t:=Ra z h;have u:=Ra y h;rw[Ud];generalize z % B^k=p at *;generalize y % B^k=q at *;generalize B^k=m at *;by_cases d:p+q<m
  ·rw[R8 d,Ss d,if_neg x3]
  ·have e:(p+q) % m=p+q-m:=by
    rw[Nat.mod_eq_sub_mod x3,R8 (show p+q-m<m by omega)]
   have o:(p+q) / m=1:=by
    rw[Nat.div_eq_sub_div h x3,Ss (show p+q-m<m by omega)]
   rw[e,o,if_pos x3]
 rw[g,i];generalize QD B z k=a at *;generalize QD B y k=b at *;generalize J3 B z y k=c at *;by_cases d:a+b+c<B
 ·rw[R8 d,show a+b+c+B-b-c=a+B by omega,Nat.add_mod_right,R8 j]
 ·rw[Nat.mod_eq_sub_mod (by omega:a+b+c>=B),R8 (by omega:a+b+c-B<B)];rw[show a+b+c-B+B-b-c=a by omega,R8 j]
def Z8(B x y m k:Nat): Nat:=(x % B^k+y % B^k*m) / B^k
theorem P6(B x y m:Nat): Z8 B x y m 0=0:=by simp[Z8,Uq]
theorem P5{B:Nat}(a:0<B)(x y m k:Nat): Z8 B x y m (k+1)=(QD B x k+QD B y k*m+Z8 B x y m k) / B:=by
 unfold Z8;have b:=Nat.pow_pos (n:=k) a;rw[Jt,Jt,show x % B^k+B^k*QD B x k+(y % B^k+B^k*QD B y k)*m=(x % B^k+y % B^k*m)+B^k*(QD B x k+QD B y k*m)by
   rw[Rt,Rl,R5];omega,
  R9,<- Rk,Se _ _ b,Te]
theorem MY{B:Nat}(b:0<B){m:Nat}(c:m<B)(x y k:Nat): Z8 B x y m k<B:=by
 unfold Z8;have a:=Nat.pow_pos (n:=k) b;have e:=Ra x a;have d:=Ra y a;rw[Lm a]
 calc x % B^k+y % B^k*m<B^k+y % B^k*m:=x3
  _<=B^k+B^k*m:=Nat.add_le_add_left (Lo _ (Sf d)) _
  _=(m+1)*B^k:=by rw[Rt,Tg,Ls];omega
  _<=B*B^k:=Lo _ c
theorem Wc{B:Nat}(a:0<B)(x y m k:Nat): QD B (x+y*m) k=(QD B x k+QD B y k*m+Z8 B x y m k) % B:=by
 have b:=Nat.pow_pos (n:=k) a;have c:(x+y*m) / B^k=Z8 B x y m k+(x / B^k+y / B^k*m):=by
  have d:=T5 x (B^k);have f:=T5 y (B^k);have e:x+y*m=(x % B^k+y % B^k*m)+B^k*(x / B^k+y / B^k*m):=by
   rw[Rl,<- R5]
   calc x+y*m=(x % B^k+B^k*(x / B^k))+(y % B^k+B^k*(y / B^k))*m:=by rw[d,f]
    _=_:=by rw[Rt];omega
  unfold Z8;rw[e,Se _ _ b]
 unfold QD;rw[c,Te (Z8 B x y m k),Ud (x / B^k+y / B^k*m),Ud (x / B^k),Nat.mul_mod (y / B^k) m,Ud (x / B^k % B+y / B^k % B*m),
  Ud (x / B^k % B) (y / B^k % B*m),Nat.mod_mod,Nat.mul_mod (y / B^k % B) m,Nat.mod_mod]
def nd(k v:Nat): Nat:=if v=0 then 0 else Nat.log2 v / k+1
theorem Cs(k:Nat): nd k 0=0:=rfl
theorem XR(k n:Nat): (2^k)^n=2^(k*n):=(Sn 2 k n).symm
theorem D6(k:Nat)(b:0<k)(v:Nat): v<(2^k)^nd k v:=by
 unfold nd;split
 ·rename_i h;subst h;simp
 ·rename_i h;rw[XR];refine(Nat.log2_lt h).1 ?_
  have:=Nat.lt_div_mul_add (a:=Nat.log2 v) b;rw[Rl,Sm,Ls];omega
theorem Il(k:Nat)(v:Nat)(h:v≠0): (2^k)^(nd k v-1)<=v:=by
 unfold nd;rw[if_neg h,Ub,XR];refine(Nat.le_log2 h).1 ?_
 rw[Ls];exact Nat.div_mul_le_self _ _
theorem Xd{k n v:Nat}(d:0<k)(h:v<(2^k)^n): nd k v<=n:=by
 by_cases a:v=0
 ·subst a;simp[Cs]
 ·have b:=Il k v a;have c:1<2^k:=Nat.one_lt_two_pow x3;have e:=(U0 c).1 (Lw b h);omega
theorem VP(k:Nat){v:Nat}(h:v≠0): 0<nd k v:=by unfold nd;rw[if_neg h];exact S6 _
theorem yr{k n v:Nat}(a:0<k)(h:(2^k)^n<=v): n<nd k v:=by
 have b:=D6 _ a v;have c:1<2^k:=Nat.one_lt_two_pow x3;exact(U0 c).1 (Lw h b)
theorem RE(k:Nat){n v:Nat}(a:0<k)(h:v<(2^k)^n)(c:0<n->(2^k)^(n-1)<=v): nd k v=n:=by
 have d:=Xd a h;rcases So n with b|b
 ·omega
 ·have:=yr a (c b);omega
theorem BM{k u v:Nat}(a:0<k)(h:u<=v): nd k u<=nd k v :=
 Xd a (Lw h (D6 _ a v))
theorem n0{k v:Nat}(c:0<k)(h:v≠0): QD (2^k) v (nd k v-1)≠0:=by
 have d:=Il k v h;have f:=D6 _ c v;have g:=VP k h;unfold QD;have e:(2^k)^nd k v=2^k*(2^k)^(nd k v-1):=by
  rw[<- Nat.pow_succ'];congr 1;omega
 have b:0<(2^k)^(nd k v-1):=Sb (Lv k);have a:v / (2^k)^(nd k v-1)<2^k:=(Lm b).2 (by rw[<- e];exact f);rw[R8 a];have:=Nat.div_pos d b;omega
theorem Im{k n m v:Nat}(f:0<k)(h:v<(2^k)^n)(b:m<=n)(g:∀j,m<=j->j<n->QD (2^k) v j=0)(i:0<m->QD (2^k) v (m-1)≠0): nd k v=m:=by
 have a:=Lv k;have l:v<(2^k)^m:=by
  have e:v=v % (2^k)^m:=by
   refine Br h (Lb (Ra _ (Sb a)) (Li a b)) λj o=>?_
   by_cases c:j<m
   ·rw[Vi c]
   ·rw[g j x3 o,Zr a (Ra _ (Sb a)) x3]
  rw[e];exact Ra _ (Sb a)
 refine RE _ f l λp=>?_
 apply Sg;intro d;exact i p (NR d)
theorem EV(k u v:Nat)(b:0<k)(h:nd k u<nd k v): u<v:=by
 apply Ul;intro a;have:=BM b a;omega
theorem fz{B u v k n:Nat}(a:0<B)(c:u<B^n)(d:v<B^n)(_hkn:k<n)(f:∀j,k<j->j<n->QD B u j=QD B v j)(i:QD B u k<QD B v k): u<v:=by
 have e:u / B^(k+1)=v / B^(k+1):=by
  refine Br (n:=n) (Lw (Rn _ _) c) (Lw (Rn _ _) d) λj l=>?_
  rw[KI,KI];by_cases b:k+1+j<n
  ·exact f _ x3 b
  ·rw[Zr a c x3,Zr a d x3]
 rw[OR B u k,OR B v k,e];have g:=Nat.pow_pos (n:=k) a;have m:=Ra u g;have h:B^k*(QD B u k+B*(v / B^(k+1))+1)<=B^k*(QD B v k+B*(v / B^(k+1))):=R4 _ x3;rw[Rl _ _ 1,Sm]at h;generalize u % B^k=p at *;generalize v % B^k=q at *;generalize B^k*(QD B u k+B*(v / B^(k+1)))=r at *;generalize B^k*(QD B v k+B*(v / B^(k+1)))=s at *;omega
def J1(l:List UInt8): Nat:=l.foldl (λa c=>a*256+c.toNat) 0
theorem SL{α:Type}{motive:List α->Prop}(nil:motive [])(Vr:∀l a,motive l->motive (l++[a])): ∀l:List α,motive l.reverse:=by
 intro l;induction l with
 | nil=>exact nil
 | cons a l b=>rw[List.reverse_cons];exact Vr _ _ b
theorem OQ{α:Type}{motive:List α->Prop}(l:List α)(nil:motive [])(Vr:∀l a,motive l->motive (l++[a])): motive l:=by
 have:=SL nil Vr l.reverse;rwa [List.reverse_reverse]at this
theorem CW(l:List UInt8)(c:UInt8): J1 (l++[c])=J1 l*256+c.toNat:=by simp[J1,List.foldl_append]
theorem Bn(l:List UInt8): J1 l<256^l.length:=by
 induction l using OQ with
 | nil=>decide
 | Vr l c a =>
  rw[CW,Lq,S8,R9];have:=c.toNat_lt;omega
theorem AU(l:List UInt8)(i:Nat)(h:i<l.length): QD 256 (J1 l) i=(l[l.length-1-i]' x3).toNat:=by
 induction l using OQ generalizing i with
 | nil=>simp at h
 | Vr l c a =>
  have d:=c.toNat_lt;rw[CW];rcases i with _|i
  ·simp[QD]
  ·have e:QD 256 (J1 l*256+c.toNat) (i+1)=QD 256 (J1 l) i:=by
    unfold QD;rw[Nat.pow_succ',<- Rk];congr 2;omega
   have b:i<l.length:=y8 h;rw[e,a i b];congr 1;rw[List.getElem_append_left x7];congr 1;simp only[Lq,S8];omega
theorem iK(u q e d f:Nat)(r:u<LB^q*2^e)(s:d<2^f)(i:e+f<=64)(j:Nat):
  QD LB (u+LB^q*(2^e*d)) j=if j=q then QD LB u q ||| (d*2^e)else QD LB u j:=by
 have o:=Nat.pow_pos (n:=q) QB;have p:=T5 u (LB^q);have a:=Ra u o;have k:u / LB^q<2^e:=(Lm o).2 (by rw[Ls];exact r);generalize u % LB^q=t at *;generalize u / LB^q=h at *;have l:2^e*2^f<=LB:=by rw[XZ,<- Lt];exact Li x4 i
 have b:2^e<=LB:=L9 (Rv _ (Lv f)) l;have c:h+2^e*d<LB:=by
  have:2^e*(d+1)<=2^e*2^f:=R4 _ s;rw[Rl,Sm]at this;omega
 have v:u+LB^q*(2^e*d)=t+LB^q*(h+2^e*d):=by rw[Rl,<- p];omega
 rw[v,Fu QB a c,<- p,Fu QB a (Lb k b),Fu QB a (Lb k b)];by_cases m:j=q
 ·subst m;simp only[Sx,if_false,if_true];rw[Nat.or_comm,Ls d,<- Nat.two_pow_add_eq_or_of_lt k d];omega
 ·by_cases g:j<q
  ·simp[m,g]
  ·simp[m,g]
theorem iI(V k j:Nat): QD LB (V % 256^(k+1)) j=if j=k / 8 then QD LB (V % 256^k) (k / 8) ||| (QD 256 V k*2^(k % 8*8))else QD LB (V % 256^k) j:=by
 have e:256^k=LB^(k / 8)*2^(k % 8*8):=by
  rw[XZ,show 256=2^8 from rfl,<- Sn,<- Sn,<- Lt];congr 1;omega
 have h:=iK (V % 256^k) (k / 8) (k % 8*8) (QD 256 V k) 8 (by rw[<- e];exact Ra _ (Sb x4)) (Yz (B:=256) x4 _ _) x3 j;rw[<- h,Jt,e,R5]
theorem Pn{d r:Nat}(b:d<256)(c:r<8): d*2^(r*8)<LB:=by
 have a:d*2^(r*8)<2^8*2^(r*8):=Rh b (Lv _);rw[<- Lt]at a;exact Lb a (by rw[XZ];exact Li x4 x3)
theorem kh{m v:Nat}(h:v / 2^m≠0): nd 1 v=m+nd 1 (v / 2^m):=by
 have a:=D6 1 x4 (v / 2^m);have b:=Il 1 (v / 2^m) h;have d:=VP 1 h;have c:=Lv m;simp only[To]at a b;refine RE 1 x4 ?_ (λ_=>?_)
 ·rw[To,Lt,Ls];exact(Lm c).1 a
 ·rw[To,show m+nd 1 (v / 2^m)-1=m+(nd 1 (v / 2^m)-1)by omega,Lt,Ls];exact(T8 c).1 b
theorem CV(x:Nat)(a:x<2^64): Lib.bitLen x=nd 1 x:=by
 by_cases b:x=0
 ·subst b;decide
 ·have d:=D6 1 x4 x;have c:=Il 1 x b;have g:=VP 1 b;have e:nd 1 x<=64:=Xd x4 (y8 a);simp only[To]at d c;have h:=Lib.bitLen_le x (nd 1 x) e d;have i:=Lib.bitLen_shift _ x c a;have f:x / 2^(nd 1 x-1)≠0:=by
   have:=Nat.div_pos c (Lv _);omega
  have j:=Lib.bitLen_half _ f (Lw (Rn _ _) a);omega
theorem ck{v:Nat}(h:v≠0): nd 1 v=64*(nd 64 v-1)+nd 1 (QD LB v (nd 64 v-1)):=by
 have b:=D6 64 x4 v;have a:=Il 64 v h;have c:=VP 64 h;have e:QD LB v (nd 64 v-1)=v / 2^(64*(nd 64 v-1)):=by
  unfold QD;rw[XZ,XR];refine R8 ?_
  rw[Lm (Lv _),<- Lt];rw[XR]at b;rwa [show 64+64*(nd 64 v-1)=64*nd 64 v by omega]
 rw[e];refine kh ?_
 rw[XR]at a;have:=Nat.div_pos a (Lv _);omega
theorem kf(v:Nat): (nd 1 v+7) / 8=nd 8 v:=by
 by_cases h:v=0
 ·subst h;simp[Cs]
 ·unfold nd;rw[if_neg h,if_neg h];omega
theorem PD(v i:Nat): QD LB v (i / 8) / 2^(i % 8*8) % 256=QD 256 v i:=by
 unfold QD;have e:256^i=LB^(i / 8)*2^(i % 8*8):=by
  rw[XZ,show 256=2^8 from rfl,<- Sn,<- Sn,<- Lt];congr 1;omega
 rw[e,<- Rk];generalize v / LB^(i / 8)=x;have b:i % 8<8:=Ra _ x4;generalize i % 8=r at *;have a:LB=2^(r*8)*(256*2^(64-8-r*8)):=by
  rw[XZ,show 256=2^8 from rfl,<- Lt,<- Lt];congr 1;omega
 rw[a,Nat.mod_mul_right_div_self,Nat.mod_mul_right_mod]
def K6(v:Nat): List UInt8:=(List.range (nd 8 v)).map λj=>UInt8.ofNat (QD 256 v (nd 8 v-1-j))
def QK(v:Nat): u4:=⟨(K6 v).toArray⟩
def Kw(u v:Nat): Int:=if u<v then -1 else if u=v then 0 else 1
theorem EX{d s:Nat}(a:s<=64): d*2^s % LB=d % 2^(64-s)*2^s:=by
 have e:LB=2^(64-s)*2^s:=by rw[XZ,<- Lt];congr 1;omega
 rw[e,Nat.mul_mod_mul_right]
theorem tW{u at_ d s:Nat}(i:u<LB^at_*2^s)(l:d<LB)(r:s<64)(j:Nat):
  QD LB (u+LB^at_*(2^s*d)) j=if j=at_ then QD LB u at_ ||| (d*2^s % LB)else if j=at_+1 then d / 2^(64-s)else QD LB u j:=by
 have t:=Nat.pow_pos (n:=at_) QB;have m:2^s*d=2^s*(d % 2^(64-s))+LB*(d / 2^(64-s)):=by
  have h:=T5 d (2^(64-s));have e:LB=2^s*2^(64-s):=by rw[XZ,<- Lt];congr 1;omega
  rw[e,R5,<- Rl,h]
 have a:d % 2^(64-s)<2^(64-s):=Ra _ (Lv _);have o:=λj=>iK u at_ s (d % 2^(64-s)) (64-s) i a x3 j
 have p:u+LB^at_*(2^s*(d % 2^(64-s)))<LB^(at_+1):=by
  have e:LB=2^s*2^(64-s):=by rw[XZ,<- Lt];congr 1;omega
  rw[R9];have:LB^at_*(2^s*(d % 2^(64-s)+1))<=LB^at_*LB:=R4 _ (by rw[e];exact R4 _ a);rw[Rl,Rl,Sm]at this;omega
 have b:d / 2^(64-s)<LB:=Lw (Rn _ _) l;rw[m,Rl,<- Sc,<- R5 (LB^at_) LB,<- R9,Fu QB p b,o,EX x3];by_cases c:j=at_
 ·subst c;simp
 ·by_cases g:j=at_+1
  ·subst g;simp
  ·by_cases k:j<at_+1
   ·simp[c,g,k]
   ·simp only[c,g,k,if_false];rw[Zr (n:=at_+1) QB ?_ x3];rw[R9];refine Lb i (R4 _ ?_);rw[XZ];exact Li x4 x3
theorem iJ(v q s i:Nat)(l:s<64): QD LB (v / 2^(64*q+s)) i=(QD LB v (q+i) / 2^s) ||| (QD LB v (q+i+1)*2^(64-s) % LB):=by
 have e:LB=2^s*2^(64-s):=by rw[XZ,<- Lt];congr 1;omega
 have c:v / 2^(64*q+s) / LB^i=v / LB^(q+i) / 2^s:=by
  rw[Rk,Rk];congr 1;rw[XZ,XR,XR,<- Lt,<- Lt];congr 1;omega
 have d:QD LB v (q+i+1)=v / LB^(q+i) / LB % LB:=by unfold QD;rw[R9,Rk]
 have f:QD LB v (q+i)=v / LB^(q+i) % LB:=rfl;unfold QD at *;rw[c,d,f];generalize v / LB^(q+i)=y;have h:=T5 y LB;have g:y % LB<LB:=Ra _ QB;generalize y % LB=a at *;generalize y / LB=z at *;rw[<- h,EX x3,show 64-(64-s)=s by omega];have j:(a+LB*z) / 2^s=a / 2^s+2^(64-s)*z:=by
  rw[e,R5,Se _ _ (Lv s)]
 have b:a / 2^s<2^(64-s):=(Lm (Lv s)).2 (by rw[Ls,<- e];exact g);rw[j];have k:(a / 2^s+2^(64-s)*z) % LB=2^(64-s)*(z % 2^s)+a / 2^s:=by
  rw[e,Ls (2^s) (2^(64-s)),Nat.mod_mul,Nat.add_mul_mod_self_left,R8 b,Se _ _ (Lv _),Ss b,Lj];omega
 rw[k,Nat.two_pow_add_eq_or_of_lt b,Nat.or_comm,Ls (2^(64-s)),Nat.mod_mod_of_dvd z (Nat.pow_dvd_pow 2 (by omega:s<=64) |> λh=>by rw[XZ];exact h)]
theorem Hb{B X Z i j:Nat}(h:j<i): QD B (X+B^i*Z) j=QD B X j:=by
 rw[<- Vi h,Nat.add_mul_mod_self_left,Vi h]
theorem Ha{B X Z i k:Nat}(a:0<B): QD B (X+B^i*Z) (i+k)=QD B (X / B^i+Z) k:=by
 rw[<- KI,Se _ _ (Sb a)]
theorem pc(l:List UInt8): nd 64 (J1 l)<=(l.length+7) / 8:=by
 refine Xd x4 (Lb (Bn l) ?_);rw[XR,show 256=2^8 from rfl,<- Sn];exact Li x4 x3
theorem cmpI_lt{u v:Nat}: Kw u v<0↔u<v:=by unfold Kw;split<;>(try split)<;>omega
theorem cmpI_gt{u v:Nat}: 0<Kw u v↔v<u:=by unfold Kw;split<;>(try split)<;>omega
def Ve(f:Nat->Nat): Nat->Nat|0=>0|k+1=>Ve f k+f k
theorem SZ{f:Nat->Nat}{M:Nat}(h:∀j,f j<LB^M): ∀k,Ve f k<LB^(M+k)
 | 0=>by show 0<_;exact Sb QB
 | k+1=>by
  have a:=SZ h k;have b:=h k;have c:LB^M<=LB^(M+k):=Li QB x3;show Ve f k+f k<LB^(M+k+1);rw[R9];have d:LB^(M+k)*2<=LB^(M+k)*LB:=R4 _ x4;omega
theorem ry{a b m n:Nat}(h:2^a*(2*m+1)=2^b*(2*n+1)): a=b:=by
 rcases Nat.lt_trichotomy a b with c|c|c
 ·exfalso;obtain⟨d,rfl⟩:∃d,b=a+(d+1):=⟨b-a-1,x3⟩
  rw[Lt,R5]at h;have e:=Nat.eq_of_mul_eq_mul_left (Lv a) h;rw[R9,Ls (2^d) 2,R5]at e;omega
 ·exact c
 ·exfalso;obtain⟨d,rfl⟩:∃d,a=b+(d+1):=⟨a-b-1,x3⟩
  rw[Lt,R5]at h;have e:=Nat.eq_of_mul_eq_mul_left (Lv b) h;rw[R9,Ls (2^d) 2,R5]at e;omega
def tz(v:Nat): Nat:=if v=0 then 0 else Lib.ctzFrom v v
theorem B5{v:Nat}(h:v≠0): ∃m,v=2^tz v*(2*m+1):=by
 obtain⟨m,a,_⟩:=Lib.ctzFrom_spec v v x3 Nat.lt_two_pow_self;exact⟨m,by unfold tz;rw[if_neg h];exact a⟩
theorem tf{v k m:Nat}(h:v=2^k*(2*m+1)): tz v=k:=by
 have a:v≠0:=by have:=Lv k;rw[h];exact Nat.ne_of_gt (Ut this x3)
 obtain⟨n,b⟩:=B5 a;exact ry (b.symm.trans h)
theorem wG{x:Nat}(a:x≠0)(b:x<2^64): Lib.ctz 64 x=tz x:=by
 obtain⟨m,c,_⟩:=Lib.ctzFrom_spec 64 x x3 b;unfold Lib.ctz;rw[if_neg a];exact(tf c).symm
theorem rz{v i:Nat}(c:v % LB^i=0)(d:QD LB v i≠0): tz v=64*i+tz (QD LB v i):=by
 obtain⟨m,b⟩:=B5 d;have f:tz (QD LB v i)<64:=by
  have g:=Yz QB v i;apply Ul;intro a;have j:2^64<=2^tz (QD LB v i):=Li x4 a;have l:2^tz (QD LB v i)<=QD LB v i:=by
   conv=>rhs;rw[b]
   exact Rv _ x3
  have n:=XZ;omega
 have h:=OR LB v i;rw[c,Lj]at h;generalize tz (QD LB v i)=k at *;have e:LB=2^k*(2*2^(63-k)):=by rw[XZ,<- Nat.pow_succ',<- Lt];congr 1;omega
 refine tf (m:=m+2^(63-k)*(v / LB^(i+1))) ?_
 rw[Lt,<- XR,<- XZ,R5]
 conv=>lhs;rw[h]
 congr 1;rw[b]
 conv=>lhs;rhs;lhs;rw[e]
 rw[R5,<- Rl];congr 1;rw[Rl,R5];omega
theorem F4(l:List UInt8): J1 (0::l)=J1 l:=by simp[J1]
theorem Gv(v:Nat): (K6 v).length=nd 8 v:=by simp[K6]
theorem Pk(v:Nat): J1 (K6 v)=v:=by
 have a:=Gv v;refine Br (B:=256) (n:=nd 8 v) (by have:=Bn (K6 v);rwa [a]at this) (D6 8 x4 v) λj b=>?_
 rw[AU _ _ x3];simp only[K6,List.getElem_map,Tq,Sk,Sz];rw[show nd 8 v-1-(nd 8 v-1-j)=j by omega];have:=Yz (B:=256) x4 v j;simp;omega
theorem En(v:Nat): J1 (QK v).data.toList=v:=by show J1 (K6 v)=v;exact Pk v
theorem fE{l:List UInt8}(h:∀c,l.head?=some c->c≠0): K6 (J1 l)=l:=by
 have f:nd 8 (J1 l)=l.length:=by
  refine RE 8 x4 (Bn l) λm=>?_
  rcases l with _|⟨c,l⟩
  ·simp at m
  ·have n:c≠0:=h c rfl;have a:=AU (c::l) l.length x6;simp at a;have b:c.toNat≠0:=λe=>n (by rw[<- UInt8.toNat_inj];simpa using e)
   show 256^(l.length+1-1)<=_;rw[Ub];apply Sg;intro d;rw[NR d]at a;exact b a.symm
 apply List.ext_getElem
 ·rw[Gv,f]
 ·intro i a o;simp only[K6,List.getElem_map,Tq];rw[f,AU l _ x3];have e:∀j (g:j<l.length),j=i->l[j]'g=l[i]'o:=λj g e=>by subst e;rfl
  rw[e _ _ x3];simp
theorem Ek(l:List UInt8): K6 (J1 l)=l.dropWhile (·==0):=by
 induction l with
 | nil=>rfl
 | cons c l e =>
  by_cases a:c=0
  ·subst a;rw[F4,e];simp
  ·rw[List.dropWhile_cons_of_neg (y8 a)];exact fE λd b=>by simp at b;subst b;exact a
theorem Eo(v:Nat): (QK v).size=nd 8 v:=by show(K6 v).toArray.size=_;simp[Gv]
theorem YI(v:Nat): v<LB^nd 64 v:=D6 64 x4 v
def Rd(w:y9)(A:u5)(n:Nat)(f:Nat->z0): Prop:=0<n->∃b off,A=some ⟨b,off,none⟩/\∀j,j<n->w.cell? ⟨b,off+j,none⟩=some (f j)
def Off(A:u5)(g:Nat): Prop:=∀a,A=some a->a.block≠g
def Cel(w:y9)(g:Nat)(t:u6)(T:Nat)(f:Nat->z0): Prop:=∃cs:b7,w.heap[g]?=some (.cells cs t (0,0))/\cs.size=T/\∀j,j<T->cs[j]?=some (f j)
def AC(o n:Nat)(h f:Nat->z0)(j:Nat): z0:=if o<=j/\j<o+n then h (j-o)else f j
theorem Ej{o n i:Nat}{h f:Nat->z0}(a:i<n): AC o n h f (o+i)=h i:=by unfold AC;rw[if_pos ⟨x3,x3⟩,Tb]
theorem VA{o n:Nat}{h a f:Nat->z0}(b:∀i,i<n->h i=a i)(j:Nat): AC o n h f j=AC o n a f j:=by
 unfold AC;split
 ·exact b _ x3
 ·rfl
theorem BK{o n i:Nat}{h a f:Nat->z0}{u:z0}(b:i<n)(c:a i=u)(d:∀j,j<n->j≠i->h j=a j)(j:Nat): (if j=o+i then u else AC o n h f j)=AC o n a f j:=by
 by_cases e:j=o+i
 ·subst e;rw[if_pos rfl,Ej b,c]
 ·rw[if_neg e];unfold AC;split
  ·exact d _ x3 x3
  ·rfl
theorem V3{w:y9}{p:Addr}{u:z0}(h:w.cell? p=some u): p.block<w.heap.size:=by
 unfold World.cell? at h;split at h
 ·rename_i c;rcases Lx p.block w.heap.size with a|b
  ·exact a
  ·rw[Δ b]at c;cases c
 ·cases h
section
variable {w w':World} {A:Option Addr} {n n' g:Nat} {t:TypeId} {T:Nat} {f f':Nat->Value}
theorem Rd.of_le(h:Rd w A n f)(c:n'<=n): Rd w A n' f:=λd=>by
 obtain⟨b,off,e,a⟩:=h x3;exact⟨b,off,e,λj g=>a j x3⟩
theorem Rd.congr(h:Rd w A n f)(c:∀j,j<n->f j=f' j): Rd w A n f':=λd=>by
 obtain⟨b,off,e,g⟩:=h d;exact⟨b,off,e,λj a=>by rw[g j a,c j a]⟩
theorem Rd.nil_:Rd w A 0 f:=λh=>absurd h x3
theorem Rd.keep(h:Rd w A n f)(g:∀p:Addr,p.block<w.heap.size->(∀a,A=some a->p.block=a.block)->w'.cell? p=w.cell? p): Rd w' A n f:=λi=>by
 obtain⟨b,off,rfl,d⟩:=h i;exact⟨b,off,rfl,λj e=>by rw[g _ (V3 (d j e)) (λa c=>by injection c with c;subst c;rfl)];exact d j e⟩
theorem Rd.below(h:Rd w A n f)(a:Below w.heap.size w w'): Rd w' A n f:=h.keep λ_ b _=>a.cell b
theorem Rd.drew(h:Rd w A n f): Rd w.drew A n f:=h
theorem Rd.drewN(h:Rd w A n f)(k:Nat): Rd (w.drewN k) A n f:=h
theorem Rd.alloc(h:Rd w A n f)(o:Obj): Rd (w.alloc o) A n f:=h.keep λp a _=>World.cell?_alloc_lt w o p a
theorem Rd.grown(h:Rd w A n f)(k:w.grownBy w' (some g))(l:Off A g): Rd w' A n f:=λm=>by
 obtain⟨b,off,rfl,d⟩:=h m;refine⟨b,off,rfl,λj i=>?_⟩;have c:=V3 (d j i);exact(World.cell?_of_block (a:=⟨b,off+j,none⟩) (k.block b c (λe=>l _ rfl (by injection e)))).trans (d j i)
theorem Cel.lt(h:Cel w g t T f): g<w.heap.size:=by
 obtain⟨cs,c,_,_⟩:=h;rcases Lx g w.heap.size with a|b
 ·exact a
 ·rw[Δ b]at c;cases c
theorem Cel.cell(h:Cel w g t T f){i:Nat}(a:i<T): w.cell? ⟨g,i,none⟩=some (f i):=by
 obtain⟨cs,b,d,c⟩:=h;rw[cell_of_row w g i cs t (0,0) b];exact c i a
theorem Cel.frozen(h:Cel w g t T f)(i:Nat): w.frozen? ⟨g,i,none⟩=false:=by
 obtain⟨cs,a,b,c⟩:=h;simp[World.frozen?,a]
theorem Cel.congr(h:Cel w g t T f)(b:∀j,j<T->f j=f' j): Cel w g t T f':=by
 obtain⟨cs,c,d,e⟩:=h;exact⟨cs,c,d,λj a=>by rw[e j a,b j a]⟩
theorem Cel.drew(h:Cel w g t T f): Cel w.drew g t T f:=h
theorem Cel.drewN(h:Cel w g t T f)(n:Nat): Cel (w.drewN n) g t T f:=h
theorem Cel.below{B:Nat}(h:Cel w g t T f)(a:Below B w w')(b:g<B): Cel w' g t T f:=by
 obtain⟨cs,c,d,e⟩:=h;exact⟨cs,(a.block g b).trans c,d,e⟩
theorem Cel.bel(h:Cel w g t T f)(a:Below w.heap.size w w'): Cel w' g t T f:=h.below a h.lt
theorem Cel.alloc(h:Cel w g t T f)(o:Obj): Cel (w.alloc o) g t T f:=by
 have:=h.lt;obtain⟨cs,a,b,c⟩:=h;exact⟨cs,(Tz w o g this).trans a,b,c⟩
theorem Cel.grown{row:Option Nat}(h:Cel w g t T f)(a:w.grownBy w' row)(b:some g≠row): Cel w' g t T f:=by
 have:=h.lt;obtain⟨cs,c,d,e⟩:=h;exact⟨cs,(a.block g this b).trans c,d,e⟩
theorem Cel.set_(h:Cel w g t T f)(i:Nat)(u:z0): Cel (w.setCell ⟨g,i,none⟩ u) g t T (λj=>if j=i then u else f j):=by
 obtain⟨cs,c,a,d⟩:=h;refine⟨cs.setIfInBounds i u,?_,y8 a,λj b=>?_⟩
 ·simp[World.setCell,Array.getElem?_modify,c]
 ·rw[Array.getElem?_setIfInBounds];by_cases e:i=j
  ·subst e;simp[a,b]
  ·have k:¬ j=i:=λh=>e h.symm
   simp only[if_neg e,if_neg k,d j b]
theorem Cel.far(h:Cel w g t T f){p:Addr}(a:g≠p.block)(u:z0): Cel (w.setCell p u) g t T f:=by
 obtain⟨cs,b,c,d⟩:=h;exact⟨cs,(S5 w p u g a).trans b,c,d⟩
theorem Cel.new(w:y9)(t:u6)(cs:b7): Cel (w.alloc (.cells cs t)) w.heap.size t cs.size (λj=>cs.getD j undef) :=
 ⟨cs,heap_alloc_new w _,rfl,λj a=>by simp[Array.getD,a]⟩
theorem Cel.rd(h:Cel w g t T f){o n:Nat}(a:o+n<=T): Rd w (some ⟨g,o,none⟩) n (λj=>f (o+j)):=λ_=>⟨g,o,rfl,λj b=>h.cell x3⟩
theorem Off.some_{b o:Nat}(h:b≠g): Off (some ⟨b,o,none⟩) g:=λa c=>by injection c with c;subst c;exact h
theorem Gt{a b c:y9}{row:Option Nat}(h:a.grownBy b row)(k:b.grownBy c row): a.grownBy c row :=
 ⟨k.os.trans h.os,k.tape.trans h.tape,k.output.trans h.output,L9 h.size k.size,λi e d=>(k.block i (Lb e h.size) d).trans (h.block i e d)⟩
theorem Am{a b:y9}{row:Option Nat}(h:a.grownBy b row)(k:Nat): a.grownBy (b.drewN k) row:=⟨h.os,h.tape,h.output,h.size,h.block⟩
theorem I6{a w:y9}{row:Option Nat}(h:a.grownBy w row)(o:Obj): a.grownBy (w.alloc o) row :=
 ⟨h.os,h.tape,h.output,L9 h.size x6,λi c b=>(Tz w o i (Lb c h.size)).trans (h.block i c b)⟩
theorem Zd{a w:y9}(h:a.grownBy w (some g)){p:Addr}(c:p.block=g\/a.heap.size<=p.block)(u:z0): a.grownBy (w.setCell p u) (some g) :=
 ⟨h.os,h.tape,h.output,by simpa [World.setCell]using h.size,λi d b=>(S5 w p u i (by
  rintro rfl;rcases c with c|c
  ·exact b (by rw[c])
  ·omega)).trans (h.block i d b)⟩
theorem GK{a w:y9}(h:Below a.heap.size a w)(row:Option Nat): a.grownBy w row:=⟨h.os,h.tape,h.output,h.size,λi b _=>h.block i b⟩
theorem Ak{a w b:y9}{row:Option Nat}(h:a.grownBy w row)(k:Below w.heap.size w b): a.grownBy b row:=Gt h (GK k row)
theorem Zl{a w b:y9}{B:Nat}(h:Below B a w)(k:w.grownBy b (some g))(d:B<=w.heap.size)(e:B<=g): Below B a b:=h.grown k d (λi c=>by injection c with c;omega)
theorem ZA{B:Nat}{a w:y9}(h:Below B a w)(n:Nat): Below B a (w.drewN n):=⟨h.os,h.tape,h.output,h.size,h.block⟩
theorem QE{B:Nat}{a w b:y9}(h:Below B a w)(k:Below w.heap.size w b)(c:B<=w.heap.size): Below B a b:=h.trans (k.mono c)
end
section
variable {P:Program} {w:World} {ops:Array Oper} {rest:List Oper} {o:Oper} {a:Act} {Q:Exit->Act->World->Prop}
theorem Cel.made(w:y9)(e:u6)(z:z0)(n:Nat): Cel (w.alloc (.cells (madeCells #[z] n) e)) w.heap.size e n (λ_=>z) :=
 ⟨madeCells #[z] n,heap_alloc_new w _,by simp[size_madeCells],λj a=>by
  have h:=toList_madeCells_one z n;rw[<- Array.getElem?_toList,h];simp[a]⟩
theorem Dl{T:u6}(s:u4)(h:P.underlying T=some .string)(k:IntKind)(i:Int)(j:Nat)(a:i=(j:Int))(b:j<s.size)(w:y9):
  (Instr.index T (.string s) (.int k i)).run P w=.ok (.int .u8 ((s.data.toList[j]'(y8 b)).toNat:Nat)) w:=by
 subst a;rw[run_index_string _ _ _ _ _ h,dif_pos ⟨x3,x3⟩];rfl
theorem ff(l:List Int): ∀s:u4,l.foldl (λr n=>r.push (UInt8.ofNat n.toNat)) s=⟨(s.data.toList++l.map λn=>UInt8.ofNat n.toNat).toArray⟩:=by
 induction l with
 | nil=>intro s;simp
 | cons n l a =>
  intro s;rw[List.foldl_cons,a];simp[ByteArray.push]
theorem Yc(b off j:Nat): (⟨b,off,none⟩:Addr).add j=⟨b,off+j,none⟩:=by
 unfold Addr.add;split
 ·rename_i h;subst h;rfl
 ·rfl
theorem Dk(d g e:u6)(i:P.underlying d=some (.slice e))(k:P.underlying e=some (.int .u8))(l:P.underlying g=some .string)(A:u5)(n c:Nat)(f:Nat->Nat)(m:Rd w A n λj=>.int .u8 (f j:Nat)): (convert d g (.slice A n c)).run P w=.ok (.string ⟨((List.range n).map λj=>UInt8.ofNat (f j)).toArray⟩) w:=by
 rw[run_convert_bytes_string w d g e A n c i k l];by_cases o:n=0
 ·subst o;rcases A with _|a
  ·simp[Conv.bytesToString];rfl
  ·rw[run_bytesToString w a 0 c [] (by have:=run_loadCells (P:=P) (w:=w) a 0 (λ_=>undef) (λj h=>x3);simpa using this)];rfl
 ·obtain⟨b,off,rfl,p⟩:=m x3;have q:=run_loadCells (P:=P) (w:=w) ⟨b,off,none⟩ n (λj=>.int .u8 (f j:Nat)) (λj h=>by rw[Yc];exact p j h);rw[run_bytesToString w _ n c ((List.range n).map λj=>(f j:Int)) (by rw[q];simp)];rw[ff];simp
theorem lE(a c:Nat)(ci:Int)(b:ci=(c:Int))(h:a*2^c<LB): IntKind.u64.wrap ((a:Int)*2^ci.toNat)=((a*2^c:Nat):Int):=by
 subst b;rw[ZW]at h;rw[o0,S9,show(2:Int)^c=((2^c:Nat):Int)by simp,<- Ts];omega
theorem CD(a c:Nat): IntKind.u64.wrap ((a:Int)*2^c)=((a*2^c % LB:Nat):Int):=by
 rw[o0,show(2:Int)^c=((2^c:Nat):Int)by simp,<- Ts,ZW];omega
theorem SK(a c:Nat): (a:Int) / 2^c=((a / 2^c:Nat):Int):=by
 rw[Int.natCast_ediv,Int.natCast_pow];rfl
theorem Ow(a b:Nat)(c:a<LB)(d:b<LB): bits .or .u64 (a:Int) (b:Int)=((a ||| b:Nat):Int):=u64_or_nat a b c d
theorem Yi(q:o.guard=none)(l c:b8)(t:u6)(f:o.op=Op.makeSlice t l c)(e:u6)(z:z0)(bytes:Nat)(r:P.underlying t=some (.slice e))(d:(P.info? e).map (λi=>(i.zero,i.size,i.bytes))=some (some z,1,bytes))(g:z.cells=#[z])(m p:IntKind)(L C:Int)(n:Nat)(s:a.eval l=.int m L)(u:a.eval c=.int p C)(v:L=(n:Int))(x:C=(n:Int))(b2:bytes*n<=281474976710656)(b3:n<=9223372036854775807)(y:∀w',Cel w' w.heap.size e n (λ_=>z)->Below w.heap.size w w'->w.heap.size<w'.heap.size->wpList P ops Q rest (a.put o.dst (.slice (some ⟨w.heap.size,0,none⟩) n n)) w'):
  wpList P ops Q (o::rest) a w:=by
 obtain⟨i,A,B,h,j⟩:=info_parts d;refine wpList_plain q λK k=>?_
 have b:=run_make (P:=P) w t e i z r A B m p n n x3 x3 (by rw[j];omega) x3;simp only[S9,h,Sm,g]at b;subst v;subst x;unfold Oper.wp;simp[execOp,f,s,u,b,Result.andThen];exact k _ _ (y _ (Cel.made w e z n) ((l3 _ w).alloc (L8 _) _) x6)
theorem Fm(u:o.guard=none)(d s:b8)(A B:u6)(I:o.op=.call { callee:=.builtin .copy,args:=#[d,s],argTypes:=#[A,B] })(elem:u6)(J:P.underlying A=some (.slice elem))(x:(P.info? elem).map (·.size)=some 1)(C D:u5)(c l k n:Nat)(K:a.eval d=.slice C c l)(L:a.eval s=.slice D k n)(g off T:Nat)(t:u6)(f q:Nat->z0)(M:Cel w g t T f)(m:Nat)(N:m=Nat.min k c)(E:0<m->C=some ⟨g,off,none⟩)(U:Rd w D m q)(O:off+m<=T)(F:∀j,(q j).oneCell'=true)(h:∀w',Cel w' g t T (λj=>if off<=j/\j<off+m then q (j-off)else f j)->w.grownBy w' (some g)->wpList P ops Q rest (a.put o.dst (goInt m)) w'):
  wpList P ops Q (o::rest) a w:=by
 by_cases V:m=0
 ·subst V;refine wpList_copy_nothing u d s A B I elem J x C D c l k n K L N.symm ?_
  exact h w (M.congr λj _=>by rw[if_neg x3]) (World.grownBy.refl w _)
 ·obtain⟨cs,R,G,S⟩:=M;have y:0<m:=x3;obtain⟨b,o',rfl,W⟩:=U y;obtain rfl:=E y;have hl:cs.toList.length=T:=y8 G;have p:((List.range m).map q).length=m:=x6;refine wpList_copy_own u d s A B I elem J x g off c l _ k n K L cs t R ((List.range m).map q) (y8 N) (λj v z=>?_) (by rw[p];omega)
   (λv z=>by obtain⟨j,_,rfl⟩:=Ri.1 z;exact F j) ?_
  ·by_cases r:j<m
   ·have e:v=q j:=by simp[r]at z;exact z.symm
    subst e;rw[<- W j r];congr 1;unfold Addr.add;split
    ·rename_i X;subst X;rfl
    ·rfl
   ·simp[r]at z
  ·rw[show goInt ((List.range m).map q).length=goInt m by simp];refine h _ ⟨_,setRow_heap w g _ _ t _ R,x7,λj r=>?_⟩ ⟨rfl,rfl,rfl,by simp[World.setRow],λi _ H=>?_⟩
   ·have e:(cs.toList.take off).length=off:=x7;simp only[List.getElem?_toArray];by_cases F:j<off
    ·rw[List.getElem?_append_left x3,o4 F,if_neg x3];simpa using S j r
    ·rw[c6 x3,e];by_cases Y:j<off+m
     ·rw[List.getElem?_append_left x3,if_pos ⟨x3,Y⟩];have Z:j-off<m:=x3;simp[Z]
     ·rw[c6 x3,if_neg x3,p];simp only[List.getElem?_drop];rw[show off+m+(j-off-m)=j by omega];simpa using S j r
   ·simp only[World.setRow,Array.getElem?_modify];rw[if_neg (λe=>H (by rw[e]))]
end
def Yg:Nat:=4294967296
theorem Zk:Yg=4294967296:=rfl
structure Guess (u u1 y1 y0 q r:Nat):Prop where
 eq:q*y1+r=u
 ge:(u*Yg+u1) / (y1*Yg+y0)<=q
 rlt:r<Yg
 qle:q<=Yg+1
theorem EQ(u u1:Nat){a b:Nat}(h:2147483648<=a)(i:a<Yg)(j:b<Yg)(k:u<a*Yg+b)(d:u1<Yg): Guess u u1 a b (u / a) (u % a):=by
 have c:0<a:=x3;have l:=Ra u c;have e:=T3 u a;refine⟨by rw[Ls];exact e,?_,x3,?_⟩
 ·apply Tt;rw[Lm (by have:0<a*Yg:=Ut c x4;omega)];have m:(u / a+1)*a*Yg<=(u / a+1)*(a*Yg+b):=by rw[R5];exact R4 _ x3
  have f:u+1<=(u / a+1)*a:=by rw[Rt,Tg,Ls];omega
  have g:(u+1)*Yg<=(u / a+1)*a*Yg:=Lo _ f;rw[Rt,Tg]at g;show _<(u / a+1)*_;omega
 ·rw[<- Nat.lt_add_one_iff,Lm c];simp only[Zk]at *;omega
theorem Hw{u c a b q r:Nat}(g:Guess u c a b q r)(d:0<a*Yg+b)(e:q*b<=Yg*r+c): q=(u*Yg+c) / (a*Yg+b):=by
 refine Rb ?_ g.ge;rw[T8 d,Rl,<- R5];have h:=g.eq;have f:u*Yg=q*a*Yg+r*Yg:=by rw[<- h,Rt]
 rw[Ls Yg]at e;omega
theorem Da{u c a b q r:Nat}(g:Guess u c a b q r)(_h0:b<Yg)(i:u<a*Yg+b)(j:c<Yg)(d:Yg<=q\/Yg*r+c<q*b):
  0<q/\(u*Yg+c) / (a*Yg+b)<=q-1/\(q-1)*a+(r+a)=u:=by
 have f:0<a*Yg+b:=x3;have e:(u*Yg+c) / (a*Yg+b)<q:=by
  rcases d with d|d
  ·refine Lb ?_ d;rw[Lm f];have:(u+1)*Yg<=Yg*(a*Yg+b):=by rw[Ls];exact R4 _ i
   rw[Rt,Tg]at this;omega
  ·rw[Lm f,Rl,<- R5];have l:u*Yg=q*a*Yg+r*Yg:=by rw[<- g.eq,Rt]
   rw[Ls Yg]at d;omega
 refine⟨Lw (La _) e,Nat.le_sub_one_of_lt e,?_⟩;have k:0<q:=Lw (La _) e;clear e;have h:=g.eq;obtain⟨p,rfl⟩:∃p,q=p+1:=⟨q-1,x3⟩
 rw[Ub];rw[Rt]at h;omega
theorem Hx{u c a b q r:Nat}(g:Guess u c a b q r)(e:b<Yg)(f:u<a*Yg+b)(d:c<Yg)(h:Yg<=q\/Yg*r+c<q*b)(i:r+a<Yg):
  Guess u c a b (q-1) (r+a):=by
 obtain⟨_,j,k⟩:=Da g e f d h;exact⟨k,j,i,y6 g.qle⟩
theorem MK{u c a b q r:Nat}(g:Guess u c a b q r)(f:b<Yg)(h:u<a*Yg+b)(d:c<Yg)(i:Yg<=q\/Yg*r+c<q*b)(j:Yg<=r+a):
  q-1=(u*Yg+c) / (a*Yg+b):=by
 obtain⟨m,k,l⟩:=Da g f h d i;refine Rb ?_ k;rw[T8 x3,Rl,<- R5];have e:u*Yg=(q-1)*a*Yg+(r+a)*Yg:=by rw[<- l,Rt]
 have n:=g.qle;have o:(q-1)*b<=Yg*Yg:=Nat.mul_le_mul x3 (Sf f);have p:Yg*Yg<=(r+a)*Yg:=Lo _ j;omega
theorem ay(u a b y:Nat)(c:0<y): (u*Yg+a) / y*Yg+((u*Yg+a) % y*Yg+b) / y=((u*Yg+a)*Yg+b) / y:=by
 have h:=T3 (u*Yg+a) y;generalize (u*Yg+a) / y=t at *;generalize (u*Yg+a) % y=r at *;rw[<- h];have e:(y*t+r)*Yg+b=(r*Yg+b)+y*(t*Yg):=by rw[Rt,R5];omega
 rw[e,Se _ _ c,Te]
theorem Nn(u u1 y:Nat){q:Nat}(b:q=(u*Yg+u1) / y)(c:0<y)(a:y<LB):
  IntKind.u64.wrap (IntKind.u64.wrap (IntKind.u64.wrap ((u:Int)*4294967296)+(u1:Int))-IntKind.u64.wrap ((q:Int)*(y:Int)))=(((u*Yg+u1) % y:Nat):Int):=by
 have h:=T3 (u*Yg+u1) y;have d:=Ra (u*Yg+u1) c;rw[<- b]at h;have e:((q:Int)*(y:Int))=((y*q:Nat):Int):=by rw[Ls,Ts]
 rw[e];generalize y*q=p at *;generalize (u*Yg+u1) % y=r at *;simp only[o0];rw[Zk]at h;rw[ZW]at a;omega
theorem UH{y:Nat}(h:9223372036854775808<=y)(a:y<LB): Lib.bitLen y=64:=by
 rw[CV y a];exact RE 1 x4 (by rw[To];exact a) (λ_=>by rw[To];exact h)
theorem ER{u b c a q r:Nat}(g:Guess u b c a q r)(e:c<4294967296)(f:a<4294967296)(d:b<4294967296):
  IntKind.u64.wrap ((r:Int)+(c:Int))=((r+c:Nat):Int)/\IntKind.u64.wrap (4294967296*(r:Int))=((Yg*r:Nat):Int)/\IntKind.u64.wrap (((Yg*r:Nat):Int)+(b:Int))=((Yg*r+b:Nat):Int) /\
   (q<4294967296->IntKind.u64.wrap ((q:Int)*(a:Int))=((q*a:Nat):Int))/\(0<q->IntKind.u64.wrap ((q:Int)-1)=((q-1:Nat):Int)):=by
 have i:=g.rlt;have j:=g.qle;simp only[o0];simp only[Zk]at *;refine⟨x3,x3,x3,λh=>?_,λh=>x3⟩;have k:q*a<=4294967295*4294967295:=Nat.mul_le_mul x3 x3;rw[<- Ts];generalize q*a=p at *;omega
theorem jk(n top next:Nat){R b bt:Nat}(f:R=R % LB^n+LB^n*(next+LB*top))(d:bt*LB^n<=b)(c:0<bt): R / b<=(top*LB+next) / bt:=by
 have e:=Nat.pow_pos (n:=n) QB;have h:=Ra R e;have g:0<b:=Lb (Ut c e) d;rw[T8 c];apply Tt;apply Nat.lt_of_mul_lt_mul_right (a:=LB^n)
 calc R / b*bt*LB^n=R / b*(bt*LB^n):=R5 _ _ _
  _<=R / b*b:=R4 _ d
  _<=R:=Nat.div_mul_le_self _ _
  _<(top*LB+next).succ*LB^n:=by
   rw[Rm]
   conv=>lhs;rw[f]
   rw[Ls (LB^n),Ls LB top,Te next];omega
theorem gx{X Y at_ nb:Nat}(j:0<nb)(k:X<Y*LB^(at_+1))(g:LB^(nb-1)*9223372036854775808<=Y)(b:Y<LB^nb):
  X / LB^at_<Y*LB/\X / LB^at_<LB^(nb+1)/\9223372036854775808<=QD LB Y (nb-1) /\
   (QD LB X (at_+nb)<QD LB Y (nb-1)->X / LB^at_ / Y<=(QD LB X (at_+nb)*LB+QD LB X (at_+nb-1)) / QD LB Y (nb-1)/\(QD LB X (at_+nb)*LB+QD LB X (at_+nb-1)) / QD LB Y (nb-1)<LB) /\
   X / LB^at_ / Y<LB/\0<Y:=by
 have l:=Nat.pow_pos (n:=at_) QB;have a:=Nat.pow_pos (n:=nb-1) QB;have c:0<Y:=Lb (Ut a x4) g;have e:X / LB^at_<Y*LB:=by
  rw[Lm l,R5,Ls LB,<- R9];exact k
 have h:X / LB^at_<LB^(nb+1):=Lb e (by rw[R9];exact Lo _ (Sf b));have d:QD LB Y (nb-1)=Y / LB^(nb-1):=by
  unfold QD;refine R8 ?_
  rw[Lm a,Ls,<- R9,show(nb-1).succ=nb by omega];exact b
 have m:9223372036854775808<=QD LB Y (nb-1):=by
  rw[d,T8 a,Ls];exact g
 refine⟨e,h,m,λf=>⟨?_,?_⟩,?_,c⟩
 ·have o:QD LB X (at_+nb)=QD LB (X / LB^at_) (nb-1+1):=by rw[KI];congr 1;omega
  have p:QD LB X (at_+nb-1)=QD LB (X / LB^at_) (nb-1):=by rw[KI];congr 1;omega
  rw[o,p];refine jk (nb-1) (QD LB (X / LB^at_) (nb-1+1)) (QD LB (X / LB^at_) (nb-1)) ?_ ?_ x3
  ·have i:=OR LB (X / LB^at_) (nb-1);have q:X / LB^at_ / LB^(nb-1+1)=QD LB (X / LB^at_) (nb-1+1):=by
    unfold QD;refine(R8 ?_).symm;rw[Lm (Sb QB),Ls,<- R9,show(nb-1+1).succ=nb+1 by omega];exact h
   rw[q]at i;exact i
  ·rw[d];exact Nat.div_mul_le_self _ _
 ·rw[Lm x3];have s:=Yz QB X (at_+nb-1);have r:(QD LB X (at_+nb)+1)*LB<=QD LB Y (nb-1)*LB:=Lo _ f;rw[Rt,Tg]at r;rw[Ls LB];omega
 ·rw[Lm c,Ls];exact e
theorem iL{X at_ nb Z j:Nat}(g:X<LB^(at_+nb+1))(k:Z<=X / LB^at_):
  QD LB (X-LB^at_*Z) j=if at_<=j/\j<at_+(nb+1)then QD LB (X / LB^at_-Z) (j-at_)else QD LB X j:=by
 have e:X-LB^at_*Z=X % LB^at_+LB^at_*(X / LB^at_-Z):=by
  have h:=T5 X (LB^at_);have d:LB^at_*Z<=LB^at_*(X / LB^at_):=R4 _ k;rw[Nat.mul_sub];generalize X % LB^at_=a at *;generalize LB^at_*(X / LB^at_)=b at *;generalize LB^at_*Z=c at *;omega
 have f:X % LB^at_<LB^at_:=Ra _ (Sb QB);by_cases h:at_<=j/\j<at_+(nb+1)
 ·rw[if_pos h,e];obtain⟨i,rfl⟩:∃i,j=at_+i:=⟨j-at_,x3⟩
  rw[Ha QB,Ss f,Lj,Tb]
 ·rw[if_neg h];by_cases d:j<at_
  ·rw[e,Hb d,Vi d]
  ·rw[Zr QB g x3,Zr QB (Lw (Nat.sub_le _ _) g) x3]
theorem WI{v:Nat}(h:v≠0):
  0<nd 1 (QD LB v (nd 64 v-1))/\nd 1 (QD LB v (nd 64 v-1))<=64/\LB^(nd 64 v-1)*9223372036854775808<=v*2^(64-nd 1 (QD LB v (nd 64 v-1)))/\v*2^(64-nd 1 (QD LB v (nd 64 v-1)))<LB^nd 64 v:=by
 have d:QD LB v (nd 64 v-1)≠0:=n0 (k:=64) x4 h;have f:=VP 1 d;have g:nd 1 (QD LB v (nd 64 v-1))<=64:=Xd x4 (by rw[To];exact Yz QB _ _);have i:=ck h;have a:=D6 1 x4 v;have c:=Il 1 v h;have j:=VP 64 h;simp only[To]at a c;generalize nd 1 (QD LB v (nd 64 v-1))=b at *;rw[i]at a c;refine⟨f,g,?_,?_⟩
 ·have e:LB^(nd 64 v-1)*9223372036854775808=2^(64*(nd 64 v-1)+b-1)*2^(64-b):=by
   rw[XZ,XR,show 9223372036854775808=2^63 from rfl,<- Lt,<- Lt];congr 1;omega
  rw[e];exact Lo _ c
 ·have e:LB^nd 64 v=2^(64*(nd 64 v-1)+b)*2^(64-b):=by
   rw[XZ,XR,<- Lt];congr 1;omega
  rw[e];exact Rh a (Lv _)
theorem Et(U Y p:Nat): U % (Y*LB^(p+1)) / LB^p / Y=QD LB (U / Y) p:=by
 unfold QD;rw[Rk,Rk,Ls (LB^p),R9,<- R5,Nat.mod_mul_right_div_self]
theorem lc(U Y p:Nat): U % (Y*LB^(p+1))-LB^p*(Y*QD LB (U / Y) p)=U % (Y*LB^p):=by
 have h:=Nat.mod_mod_of_dvd U (show Y*LB^p ∣ Y*LB^(p+1)from⟨LB,by rw[R9,R5]⟩);rw[<- Et];generalize U % (Y*LB^(p+1))=X at *;rw[<- h,Rk];have a:=T3 X (Y*LB^p);rw[Ls (LB^p) Y,<- R5,Ls (LB^p) Y];omega
def Bx(w:y9)(g:Nat)(t:u6)(cs:b7): Prop:=w.heap[g]?=some (.cells cs t (0,0))
theorem Bx.lt{w:y9}{g:Nat}{t:u6}{cs:b7}(h:Bx w g t cs): g<w.heap.size:=by
 rcases Lx g w.heap.size with a|b
 ·exact a
 ·unfold Bx at h;rw[Δ b]at h;cases h
theorem Bx.later{w w':y9}{g:Nat}{t:u6}{cs:b7}(h:Bx w g t cs)(a:Below w.heap.size w w'): Bx w' g t cs:=(a.block g h.lt).trans h
theorem Bx.drew{w:y9}{g:Nat}{t:u6}{cs:b7}(h:Bx w g t cs): Bx w.drew g t cs:=h
theorem Bx.new(w:y9)(t:u6)(cs:b7): Bx (w.alloc (.cells cs t)) w.heap.size t cs:=heap_alloc_new w _
theorem Bx.alloc{w:y9}{g:Nat}{t:u6}{cs:b7}(h:Bx w g t cs)(o:Obj): Bx (w.alloc o) g t cs:=(Tz w o g h.lt).trans h
theorem Bx.at1(w:y9)(o:Obj)(t:u6)(cs:b7): Bx ((w.alloc o).alloc (.cells cs t)) (w.heap.size+1) t cs:=by
 have:=Bx.new (w.alloc o) t cs;simpa using this
theorem Bx.at2(w:y9)(o p:Obj)(t:u6)(cs:b7): Bx (((w.alloc o).alloc p).alloc (.cells cs t)) (w.heap.size+2) t cs:=by
 have:=Bx.new ((w.alloc o).alloc p) t cs;simpa using this
theorem Bx.cel{w:y9}{g:Nat}{t:u6}{cs:b7}(h:Bx w g t cs)(i:Nat): w.cell? ⟨g,i,none⟩=cs[i]?:=by
 unfold Bx at h;simp[World.cell?,h]
theorem Bx.free{w:y9}{g:Nat}{t:u6}{cs:b7}(h:Bx w g t cs)(i:Nat): w.frozen? ⟨g,i,none⟩=false:=by
 unfold Bx at h;simp[World.frozen?,h]
theorem Bx.two{w:y9}{g:Nat}{t:u6}{x y:z0}(h:Bx w g t #[x,y]): w.cell? ⟨g,0,none⟩=some x/\w.cell? ⟨g,1,none⟩=some y/\w.frozen? ⟨g,0,none⟩=false/\w.frozen? ⟨g,1,none⟩=false :=
 ⟨h.cel 0,h.cel 1,h.free 0,h.free 1⟩
theorem Bx.three{w:y9}{g:Nat}{t:u6}{x y z:z0}(h:Bx w g t #[x,y,z]): w.cell? ⟨g,0,none⟩=some x/\w.cell? ⟨g,1,none⟩=some y/\w.cell? ⟨g,2,none⟩=some z/\w.frozen? ⟨g,0,none⟩=false/\w.frozen? ⟨g,1,none⟩=false/\w.frozen? ⟨g,2,none⟩=false :=
 ⟨h.cel 0,h.cel 1,h.cel 2,h.free 0,h.free 1,h.free 2⟩
theorem Bx.set{w:y9}{g:Nat}{t:u6}{cs:b7}(h:Bx w g t cs)(i:Nat)(u:z0): Bx (w.setCell ⟨g,i,none⟩ u) g t (cs.setIfInBounds i u):=by
 unfold Bx at *;simp[World.setCell,Array.getElem?_modify,h]
theorem Bx.far{w:y9}{g:Nat}{t:u6}{cs:b7}(h:Bx w g t cs){p:Addr}(a:g≠p.block)(u:z0): Bx (w.setCell p u) g t cs:=(S5 w p u g a).trans h
theorem Bx.far2{w:y9}{g a i j:Nat}{t:u6}{cs:b7}(h:Bx w g t cs)(b:g≠a)(u v:z0): Bx ((w.setCell ⟨a,i,none⟩ u).setCell ⟨a,j,none⟩ v) g t cs:=(h.far (p:=⟨a,i,none⟩) b u).far (p:=⟨a,j,none⟩) b v
theorem Bx.set2{w:y9}{g:Nat}{t:u6}{x y:z0}(h:Bx w g t #[x,y])(u v:z0): Bx ((w.setCell ⟨g,0,none⟩ u).setCell ⟨g,1,none⟩ v) g t #[u,v]:=(h.set 0 u).set 1 v
theorem Bx.set3{w:y9}{g:Nat}{t:u6}{x y z:z0}(h:Bx w g t #[x,y,z])(u v s:z0): Bx (((w.setCell ⟨g,0,none⟩ u).setCell ⟨g,1,none⟩ v).setCell ⟨g,2,none⟩ s) g t #[u,v,s]:=((h.set 0 u).set 1 v).set 2 s
theorem Mt{w:y9}{b o g i:Nat}{v:z0}(h:w.cell? ⟨b,o,none⟩=some v)(c:b≠g)(x:z0): (w.setCell ⟨g,i,none⟩ x).cell? ⟨b,o,none⟩=some v :=
 (World.cell?_of_block (a:=⟨b,o,none⟩) (S5 w ⟨g,i,none⟩ x b c)).trans h
theorem ZM{w:y9}{b o g i j:Nat}{v:z0}(h:w.cell? ⟨b,o,none⟩=some v)(a:b≠g)(x y:z0): ((w.setCell ⟨g,i,none⟩ x).setCell ⟨g,j,none⟩ y).cell? ⟨b,o,none⟩=some v:=Mt (Mt h a x) a y
theorem EK{w w':y9}(h:Below w.drew.heap.size w.drew w'): Below w.heap.size w w':=⟨h.os,h.tape,h.output,h.size,h.block⟩
theorem nxt{a b c:y9}(h:Below a.heap.size a b)(d:Below b.heap.size b c): Below a.heap.size a c:=QE h d h.size
theorem Vp{a b:y9}(h:Below a.heap.size a b)(o:Obj): Below a.heap.size a (b.alloc o):=h.alloc h.size o
theorem b1(w:y9)(o:Obj): Below w.heap.size w (w.alloc o):=Vp (l3 _ _) o
theorem b2(w:y9)(o p:Obj): Below w.heap.size w ((w.alloc o).alloc p):=Vp (b1 w o) p
theorem b3(w:y9)(o p q:Obj): Below w.heap.size w (((w.alloc o).alloc p).alloc q):=Vp (b2 w o p) q
theorem b4(w:y9)(o p q r:Obj): Below w.heap.size w ((((w.alloc o).alloc p).alloc q).alloc r):=Vp (b3 w o p q) r
theorem Mh{B:Nat}{a w:y9}(h:Below B a w){g:Nat}(b:B<=g)(u v:z0): Below B a ((w.setCell ⟨g,0,none⟩ u).setCell ⟨g,1,none⟩ v):=(h.setCell b u).setCell b v
theorem wj{B:Nat}{a w:y9}(h:Below B a w){g:Nat}(b:B<=g)(u v s:z0): Below B a (((w.setCell ⟨g,0,none⟩ u).setCell ⟨g,1,none⟩ v).setCell ⟨g,2,none⟩ s):=((h.setCell b u).setCell b v).setCell b s
def YK(ops:Array Oper)(i:Nat): List Nat:=match ops[i]? with
 | some o=>(o.after.toList.filter (Region.binds .any)).map (·.on)
 | none=>[]
def OF(ops:Array Oper): Nat->Nat->Nat->Bool
 | 0,a,i=>(YK ops a).any (·==i)
 | f+1,a,i=>(YK ops a).any λj=>j==i||OF ops f j i
def Dz(ops:Array Oper)(n:Nat)(a:Nat->Bool): Bool :=
 decide (n<=ops.size)&&Region.noSelect ops&&Region.chainB .any ops n&&(List.range n).all (λi=>n==ops.size||!a i||OF ops 6 n i) &&
 (List.range n).all (λi=>a i||(List.range ops.size).all λj=>j==i||(decide (j<n)&&a j)||Region.waitsFor .any ops j i||(match ops[i]?,ops[j]? with|some x,some y=>x.apart ops y|_,_=>false)) &&
 (List.range n).all (λi=>(YK ops i).all (·<i))&&Region.seqB .any ops (ops.size-n) n (Array.replicate n true++Array.replicate (ops.size-n) false)
def left(n:Nat)(listed:Array Bool): Nat:=((List.range n).filter λi=>!listed.getD i true).length
theorem MR{n:Nat}{listed:Array Bool}(h:left n listed=0): ∀i,i<n->listed.getD i true=true:=λi b=>by
 have a:=Rz h;rw[List.filter_eq_nil_iff]at a;have c:=a i (Lr.2 b);simpa using c
theorem MQ(n:Nat)(listed:Array Bool)(h:left n listed≠0): ∃i,i<n/\listed.getD i true=false/\∀j,j<i->listed.getD j true=true:=by
 have:∃i,i<n/\listed.getD i true=false:=by
  apply Classical.byContradiction;intro a;apply h;unfold left;rw[List.length_eq_zero_iff,List.filter_eq_nil_iff];intro i b;have c:=Lr.1 b;cases d:listed.getD i true with
  | true=>simp
  | false=>exact absurd ⟨i,c,d⟩ a
 obtain⟨i,b,d⟩:=this;induction i using Nat.strongRecOn with
 | _ i l =>
  by_cases k:∃j,j<i/\listed.getD j true=false
  ·obtain⟨j,e,f⟩:=k;exact l j e x3 f
  ·refine⟨i,b,d,λj e=>?_⟩;cases g:listed.getD j true with
   | true=>rfl
   | false=>exact absurd ⟨j,e,g⟩ k
theorem Ck{n i:Nat}{listed:Array Bool}(o:i<n)(k:listed.getD i true=false): left n (listed.setIfInBounds i true)+1=left n listed:=by
 have c:i<listed.size:=by
  rcases Lx i listed.size with h|h
  ·exact h
  ·simp[Δ h]at k
 unfold left;have key:∀l:List Nat,l.Nodup->i∈l->((l.filter λj=>!(listed.setIfInBounds i true).getD j true).length+1=(l.filter λj=>!listed.getD j true).length):=by
  intro l;induction l with
  | nil=>intro _ h;cases h
  | cons x l p =>
   intro b q;rw[Uv]at b;by_cases d:x=i
   ·subst d;have r:(listed.setIfInBounds x true).getD x true=true:=by simp[c]
    have s:(l.filter λj=>!(listed.setIfInBounds x true).getD j true)=(l.filter λj=>!listed.getD j true):=List.filter_congr λj t=>by
     have f:x≠j:=λe=>b.1 (e▸t)
     rw[getD_set_ne true f]
    rw[U6 (by simp[r]),U7 (by simp[k]),s,Rc]
   ·have g:i∈l:=by
     rcases Ll.1 q with h|h
     ·exact absurd h.symm d
     ·exact h
    have m:(listed.setIfInBounds i true).getD x true=listed.getD x true:=getD_set_ne true (Ne.symm d);have:=p b.2 g;cases a:listed.getD x true with
    | true=>rw[U6 (by simp[m,a]),U6 (by simp[a])];exact this
    | false=>rw[U7 (by simp[m,a]),U7 (by simp[a]),Rc,Rc];omega
 exact key _ List.nodup_range (Lr.2 o)
def blk:z0->Option Nat
 | .pointer (some a)=>some a.block
 | .slice (some a) _ _=>some a.block
 | _=>none
def Uz(P:u7)(ops:Array Oper)(F:(Nat->z0)->Act)(G:y9->Prop)(Φ:Nat->z0->y9->Prop)(fr:Nat->Bool)(i:Nat): Prop :=
 ∀(o:Oper),ops[i]?=some o->∀(u:Nat->z0) (w:y9),G w->(∀j,j∈YK ops i->Φ j (u j) w)->∀(Q:Exit->Act->y9->Prop) (K:Act->y9->Prop),
  (∀v w',Below w.heap.size w w'->G w'->Φ i v w'->(fr i=true->∀g,blk v=some g->w.heap.size<=g)->K ((F u).put o.dst v) w')->if Region.wanted o (yielded ops (F u).tmps)=true then Oper.wp P o (F u) w K Q else K ((F u).put o.dst undef) w
theorem Dw{ops:Array Oper}{n:Nat}{listed:Array Bool}(c:HeadInv .any ops n listed){a:Nat}(h:listed.getD a false=true){j:Nat}(b:j∈YK ops a): listed.getD j false=true:=by
 unfold YK at b;cases d:ops[a]? with
 | none=>rw[d]at b;cases b
 | some o =>
  rw[d]at b;obtain⟨e,i,rfl⟩:=Ri.1 b;obtain⟨f,g⟩:=Sd.1 i;exact c.closed a o d h e (Ta.1 f) g
theorem Cy{ops:Array Oper}{n:Nat}{listed:Array Bool}(b:HeadInv .any ops n listed){i:Nat}: ∀(f a:Nat),(∀j,j∈YK ops a->listed.getD j false=true)->OF ops f a i=true->listed.getD i false=true
 | 0,a,h,d=>by
  obtain⟨j,c,e⟩:=Uj.1 d;have:j=i:=y8 e;exact this▸h j c
 | f+1,a,h,d=>by
  obtain⟨j,c,e⟩:=Uj.1 d;rcases Bool.or_eq_true_iff.1 e with e|e
  ·have:j=i:=y8 e;exact this▸h j c
  ·exact Cy b f j (λk g=>Dw b (h j c) g) e
theorem Bg{ops:Array Oper}{n:Nat}{v:Nat->Bool}{listed:Array Bool}(w:(List.range n).all (λi=>n==ops.size||!v i||OF ops 6 n i)=true)(x:Region.chainB .any ops n=true)(f:HeadInv .any ops n listed){i:Nat}(y:i<n)(k:v i=true)(l:listed.getD i true=false): ∀t,n<=t->t ∉ Region.ready .any ops listed:=by
 intro t D z;obtain⟨_,A,d,a⟩:=mem_ready.1 z;have b:t<ops.size:=(o3.1 d).1;have g:∀j,j∈YK ops t->listed.getD j false=true:=λj m=>by
  unfold YK at m;rw[d]at m
  obtain⟨e,o,rfl⟩:=Ri.1 m;obtain⟨p,q⟩:=Sd.1 o;exact a e (Ta.1 p) q
 by_cases r:t=n
 ·subst r;have c:=Lc.1 w i (Lr.2 y);rw[k,show(t==ops.size)=false by simpa using Ry b]at c;have h:=Cy f 6 t g (y8 c);rw[getD_both l]at h;cases h
 ·have c:=Lc.1 x t (Lr.2 b);simp only[Uu,decide_eq_true_eq]at c;rcases c with c|c
  ·omega
  ·obtain⟨B,s,e,o,C,u⟩:=Region.waitsFor_spec c;have:B=A:=hW (s.symm.trans d);subst this;have h:=a e o C;rw[u,getD_both (f.tail (t-1) x3 x3)]at h;cases h
def gP(P:u7)(ops:Array Oper)(F:(Nat->z0)->Act)(Φ:Nat->z0->y9->Prop)(i:Nat): Prop :=
 ∀(o:Oper),ops[i]?=some o->∀(u:Nat->z0) (w:y9),(∀j,j∈YK ops i->Φ j (u j) w)->∃v,Yields P ops o v (F u)/\Φ i v w
theorem aH{P:u7}{ops:Array Oper}{n:Nat}{Q:Exit->Act->y9->Prop}{l:List Oper}(hl:l.toArray=ops)(F:(Nat->z0)->Act)(G:y9->Prop)(Φ:Nat->z0->y9->Prop)(st:Nat->Bool)(hB:Dz ops n st=true)(hQ:∀(d:Tmp) (v:z0) c a w,Q (.panic c) (a.put (some d) v) w->Q (.panic c) a w)(cb:∀i o,i<n->ops[i]?=some o->∃d:Tmp,o.dst=some d)(T:∀(u:Nat->z0) (i:Nat) (v:z0) (o:Oper),i<n->ops[i]?=some o->(F u).put o.dst v=F (λk=>if k=i then v else u k))(cc:∀i v w w',i<n->Below w.heap.size w w'->Φ i v w->Φ i v w')(fr:Nat->Bool)(bk:∀i v w,i<n->fr i=true->Φ i v w->∃g,blk v=some g/\g<w.heap.size)(cd:∀i,i<n->Uz P ops F G Φ fr i)(ad:∀i,i<n->st i=false->fr i=false/\gP P ops F Φ i)(u0:Nat->z0)(ae:∀u w,(∀k,n<=k->u k=u0 k)->G w->(∀i,i<n->Φ i (u i) w)->(∀i j,i<n->j<n->fr i=true->fr j=true->i≠j->blk (u i)≠blk (u j))->wpList P ops Q (l.drop n) (F u) w):
  ∀(f:Nat) (listed:Array Bool) (u:Nat->z0) (w:y9),left n listed=f->HeadInv .any ops n listed->(∀k,n<=k->u k=u0 k)->G w->(∀i,i<n->listed.getD i true=true->Φ i (u i) w) ->
   (∀i j,i<n->j<n->listed.getD i true=true->listed.getD j true=true->fr i=true->fr j=true->i≠j->blk (u i)≠blk (u j)) ->
   wpAny P .any ops Q (f+(ops.size-n)) listed (F u) w:=by
 simp only[Dz,Lu,decide_eq_true_eq]at hB;obtain⟨⟨⟨⟨⟨⟨hn,bl⟩,hc⟩,hs⟩,ag⟩,z⟩,U⟩:=hB;intro f;induction f with
 | zero =>
  intro listed u w hf r M hG V hD;have m:=MR hf;have N:listed=Array.replicate n true++Array.replicate (ops.size-n) false:=by
   apply Array.ext
   ·simp[r.size];omega
   ·intro i y I;by_cases J:i<n
    ·have:=m i J;rw[Array.getElem_append_left (y8 J)];simpa [y]using this
    ·have:=r.tail i x3 (by rw[<- r.size];exact y);rw[Array.getElem_append_right x7];simpa [y]using this
  rw[Lj];have W:(l.drop n).length=ops.size-n:=by rw[<- hl];simp
  rw[<- W]at U ⊢;exact wpAny_of_seq (l.drop n) n listed (F u) w (λj=>by rw[<- hl];simp[List.getElem?_drop]) (by rw[N,<- W];exact U) (ae u w M hG (λi J=>V i J (m i J)) (λi j J q=>hD i j J q (m i J) (m j q)))
 | succ f ih =>
  intro listed u w hf r M hG V hD;obtain⟨s,t,al,bs⟩:=MQ n listed x3;have b:s∈Region.ready .any ops listed:=by
   have ao:s<ops.size:=x3;obtain⟨o,E⟩:∃o,ops[s]?=some o:=⟨ops[s],by simp[ao]⟩
   refine mem_ready.2 ⟨al,o,E,λe N hb=>?_⟩;have hw:e.on∈YK ops s:=by
    unfold YK;rw[E]
    exact Ri.2 ⟨e,Sd.2 ⟨Ta.2 N,hb⟩,rfl⟩
   have K:e.on<s:=by
    have y:=Lc.1 z s (Lr.2 t);simpa using Lc.1 y _ hw
   have h3:=bs _ K;have h4:e.on<listed.size:=by rw[r.size];omega
   simpa [h4]using h3
  rw[show f+1+(ops.size-n)=(f+(ops.size-n))+1 by omega];by_cases m:∃i,i<n/\st i=true/\listed.getD i true=false
  case neg =>
   have X:st s=false:=by
    cases h:st s with
    | false=>rfl
    | true=>exact absurd ⟨s,t,h,al⟩ m
   obtain⟨Y,bX⟩:=ad s t X;obtain⟨_,o,E,A⟩:=mem_ready.1 b;have x:∀j,j∈YK ops s->Φ j (u j) w:=λj q=>by
    have aw:=q;unfold YK at q;rw[E]at q
    obtain⟨e,N,rfl⟩:=Ri.1 q;obtain⟨aB,bd⟩:=Sd.1 N;have y:=A e (Ta.1 aB) bd;have K:e.on<s:=by
     have y:=Lc.1 z s (Lr.2 t);simpa using Lc.1 y _ aw
    refine V _ x3 ?_
    have h4:e.on<listed.size:=by rw[r.size];omega
    simpa [h4]using y
   obtain⟨v,hy,hv⟩:=bX o E u w x;have cf:∀c a w,Q (.panic c) (a.put o.dst v) w->Q (.panic c) a w:=by
    obtain⟨d,hd⟩:=cb s o t E;rw[hd];exact hQ d v
   refine wpAny_first E (Region.noSelect_spec bl) cf _ listed (F u) w (λj oj bi ch bY ca=>?_) b hy ?_
   ·have cj:j<ops.size:=(o3.1 bi).1;have y:=Lc.1 ag s (Lr.2 t);rw[X,Bool.false_or]at y;have I:=Lc.1 y j (Lr.2 cj);simp only[Uu,Lu,decide_eq_true_eq,Sv,E,bi]at I;rcases I with((I|I)|I)|I
    ·exact absurd I ch
    ·exact absurd ⟨j,I.1,I.2,bY⟩ m
    ·obtain⟨o',cl,e,N,hb,cm⟩:=Region.waitsFor_spec I;have:o'=oj:=hW (cl.symm.trans bi);subst this;exact absurd cm (ca e N hb)
    ·exact I
   ·rw[T u s v o t E];refine ih _ _ w (y6 (Ck t al)) (r.set b t) (λk O=>by rw[if_neg x3];exact M k O) hG (λj q p=>?_) (λj k q O p B C D R=>?_)
    ·by_cases e:j=s
     ·subst e;simpa using hv
     ·rw[if_neg e];rw[getD_set_ne true (Ne.symm e)]at p;exact V j q p
    ·have ej:j≠s:=λe=>by rw[e,Y]at C;cases C
     have S:k≠s:=λe=>by rw[e,Y]at D;cases D
     rw[getD_set_ne true (Ne.symm ej)]at p;rw[getD_set_ne true (Ne.symm S)]at B;rw[if_neg ej,if_neg S];exact hD j k q O p B C D R
  obtain⟨is,cn,cp,cq⟩:=m;refine⟨λh0=>(by rw[h0]at b;cases b),λi J=>?_⟩;have L:i<n:=by
   rcases Lx i n with h|h
   ·exact h
   ·exact absurd J (Bg hs hc r cn cp cq i h)
  obtain⟨cr,o,E,A⟩:=mem_ready.1 J;have x:∀j,j∈YK ops i->Φ j (u j) w:=λj q=>by
   have aw:=q;unfold YK at q;rw[E]at q
   obtain⟨e,N,rfl⟩:=Ri.1 q;obtain⟨aB,bd⟩:=Sd.1 N;have y:=A e (Ta.1 aB) bd;have K:e.on<i:=by
    have y:=Lc.1 z i (Lr.2 L);simpa using Lc.1 y _ aw
   refine V _ x3 ?_
   have h4:e.on<listed.size:=by rw[r.size];omega
   simpa [h4]using y
  have ct:∀v w',Below w.heap.size w w'->G w'->Φ i v w'->(fr i=true->∀g,blk v=some g->w.heap.size<=g)->wpAny P .any ops Q (f+(ops.size-n)) (listed.setIfInBounds i true) ((F u).put o.dst v) w':=λv w' hb cu hv Z=>by
   rw[T u i v o L E];refine ih _ _ w' (y6 (Ck L cr)) (r.set J L) (λk O=>by rw[if_neg x3];exact M k O) cu (λj q p=>?_) (λj k q O p B C D R=>?_)
   ·by_cases e:j=i
    ·subst e;simpa using hv
    ·rw[if_neg e];rw[getD_set_ne true (Ne.symm e)]at p;exact cc j _ w w' q hb (V j q p)
   ·by_cases ej:j=i
    ·subst ej;have S:k≠j:=Ne.symm R;rw[if_pos rfl,if_neg S];rw[getD_set_ne true (Ne.symm S)]at B;obtain⟨g,hg,ao⟩:=bk k _ w O D (V k O B);intro e2;rw[hg]at e2;have:=Z C g e2;omega
    ·rw[getD_set_ne true (Ne.symm ej)]at p;rw[if_neg ej];by_cases S:k=i
     ·subst S;rw[if_pos rfl];obtain⟨g,hg,ao⟩:=bk j _ w q C (V j q p);intro e2;rw[hg]at e2;have:=Z D g e2.symm;omega
     ·rw[if_neg S];rw[getD_set_ne true (Ne.symm S)]at B;exact hD j k q O p B C D R
  have H:=cd i L o E u w hG x Q _ ct;unfold wpOp;simp only[E];split
  ·rename_i hw;rw[if_pos hw]at H;exact .inl H
  ·rename_i hw;rw[if_neg hw]at H;exact H
def KB(a:Act): List Nat->Nat->(Nat->z0)->Act
 | [],_,_=>a
 | d::ds,i,u=>KB (a.put (some d) (u i)) ds (i+1) u
def PutsOk(F:List Deferred->(Nat->z0)->(Nat->z0)->Act): List Nat->Nat->Prop
 | [],_=>True
 | d::ds,i=>(∀a b u v,(F a b u).put (some d) v=F a b (λk=>if k=i then v else u k))/\PutsOk F ds (i+1)
theorem PutsOk.at{F:List Deferred->(Nat->z0)->(Nat->z0)->Act}: ∀ {a:List Nat} {i:Nat},PutsOk F a i->∀(j d:Nat),a[j]?=some d->∀c b u v,(F c b u).put (some d) v=F c b (λk=>if k=i+j then v else u k)
 | [],_,_,_,_,h=>by simp at h
 | d::a,i,h,0,f,e=>by simp at e;subst e;exact h.1
 | d::a,i,h,j+1,f,e=>λc b u v=>by
  have:=PutsOk.at h.2 j f (y8 e) c b u v;rw[this,show i+1+j=i+(j+1)by omega]
theorem Nh{F:List Deferred->(Nat->z0)->(Nat->z0)->Act}(g:List Deferred)(b c u:Nat->z0): ∀(a:List Nat) (i:Nat),PutsOk F a i->KB (F g b (λk=>if k<i then u k else c k)) a i u=F g b (λk=>if k<i+a.length then u k else c k)
 | [],i,_=>by simp[KB]
 | d::a,i,h=>by
  show KB ((F g b _).put (some d) (u i)) a (i+1) u=_;rw[h.1];have e:(λk=>if k=i then u i else if k<i then u k else c k)=(λk=>if k<i+1 then u k else c k):=by
   funext k;by_cases j:k=i
   ·subst j;rw[if_pos rfl,if_pos x3]
   ·rw[if_neg j];by_cases f:k<i
    ·rw[if_pos f,if_pos x3]
    ·rw[if_neg f,if_neg x3]
  rw[e,Nh g b c u a (i+1) h.2,Rc];congr 1;funext k;rw[show i+1+a.length=i+(a.length+1)by omega]
def OpsOk(P:u7)(ops:Array Oper)(F:(Nat->z0)->Act)(G:y9->Prop)(Φ:Nat->z0->y9->Prop)(fr:Nat->Bool): Nat->Nat->Prop
 | 0,_=>True
 | n+1,i=>Uz P ops F G Φ fr i/\OpsOk P ops F G Φ fr n (i+1)
theorem OpsOk.at{P:u7}{ops:Array Oper}{F:(Nat->z0)->Act}{G:y9->Prop}{Φ:Nat->z0->y9->Prop}{fr:Nat->Bool}: ∀ {n i:Nat},OpsOk P ops F G Φ fr n i->∀j,j<n->Uz P ops F G Φ fr (i+j)
 | 0,_,_,_,h=>x3
 | n+1,i,h,0,_=>h.1
 | n+1,i,h,j+1,a=>by
  have:=OpsOk.at h.2 j x3;rwa [show i+1+j=i+(j+1)by omega]at this
theorem IX{P:u7}{id:Nat}{Q:Exit->Act->y9->Prop}{a:Act}{w:y9}{l:List Oper}(f:List Nat)(F:List Deferred->(Nat->z0)->(Nat->z0)->Act)(G:y9->Prop)(Φ:Nat->z0->y9->Prop)(D:Nat->Bool)(R:P.follows .mixedOrders=true)(E:Dz l.toArray f.length D=true)(S:∀(d:Tmp) (v:z0) c a w,Q (.panic c) (a.put (some d) v) w->Q (.panic c) a w)(H:((List.range f.length).all λi=>((l.toArray[i]?).bind (·.dst))==f[i]?)=true)(O:a=F a.defers (λk=>a.tmps.getD k undef) (λi=>a.tmps.getD (f.getD i 0) undef))(T:G w.drew)(p:PutsOk F f 0)(I:∀i v w w',i<f.length->Below w.heap.size w w'->Φ i v w->Φ i v w')(fr:Nat->Bool)(J:∀i v w,i<f.length->fr i=true->Φ i v w->∃g,blk v=some g/\g<w.heap.size)(K:∀L b,b=(λk=>a.tmps.getD k undef)->OpsOk P l.toArray (F L b) G Φ fr f.length 0)(s:∀L b,b=(λk=>a.tmps.getD k undef)->∀i,i<f.length->D i=false->fr i=false/\gP P l.toArray (F L b) Φ i)(x:∀u w',G w'->(∀i,i<f.length->Φ i (u i) w')->(∀i j,i<f.length->j<f.length->fr i=true->fr j=true->i≠j->blk (u i)≠blk (u j))->wpList P l.toArray Q (l.drop f.length) (KB a f 0 u) w'): (Code.region id l.toArray true).wp P Q a w:=by
 refine wp_region_any R ?_
 have hn:f.length<=l.toArray.size:=by
  simp only[Dz,Lu,decide_eq_true_eq]at E;exact E.1.1.1.1.1.1
 have A:HeadInv .any l.toArray f.length (Array.replicate l.toArray.size false) :=
  ⟨x6,λj oj _ q=>(by rw[getD_replicate_false]at q;cases q),λt _ U=>getD_in (y8 U) (getD_replicate_false _ _)⟩
 have n:∀i,i<f.length->(Array.replicate l.toArray.size false).getD i true=false:=λi m=>getD_in (by simpa using(by omega:i<l.toArray.size)) (getD_replicate_false _ _)
 have y:left f.length (Array.replicate l.toArray.size false)=f.length:=by
  unfold left;rw[List.filter_eq_self.2 (λi m=>by rw[n i (Lr.1 m)];rfl),Sz]
 generalize hb:(λk=>a.tmps.getD k undef)=b at *;generalize hu:(λi=>a.tmps.getD (f.getD i 0) undef)=B at *;have r:∀i,i<f.length->∃d,f[i]?=some d/\∀o,l.toArray[i]?=some o->o.dst=some d:=λi m=>by
  have V:=Lc.1 H i (Lr.2 m);have M:((l.toArray[i]?).bind (·.dst))=f[i]?:=y8 V;refine⟨f[i],by simp[m],λo C=>?_⟩;rw[C]at M;have W:f[i]?=some f[i]:=by simp[m]
  rw[W]at M;exact M
 have h:=aH (Q:=Q) (l:=l) rfl (F a.defers b) G Φ D E S (λi o m C=>by obtain⟨d,_,z⟩:=r i m;exact⟨d,z o C⟩) (λu i v o m C=>by
   obtain⟨d,X,z⟩:=r i m;rw[z o C,PutsOk.at p i d X,Lj]) I fr J (λi m=>by have:=OpsOk.at (K a.defers b rfl) i m;rwa [Lj]at this) (s a.defers b rfl) B (λu w' Y N Z hD=>by
   have e:=Nh a.defers b B u f 0 p;simp only[R6,if_false,Lj]at e;rw[show F a.defers b B=a from O.symm]at e;have e2:(λk=>if k<f.length then u k else B k)=u:=by
    funext k;split
    ·rfl
    ·exact(Y k x3).symm
   rw[e2]at e;rw[<- e];exact x u w' N Z hD) f.length _ B w.drew y A (λ_ _=>rfl) T (λi m q=>(by rw[n i m]at q;cases q)) (λi j m hj q=>(by rw[n i m]at q;cases q))
 rw[show f.length+(l.toArray.size-f.length)=l.toArray.size by omega]at h;have e:(Code.region id l.toArray true).wp P Q a w=(Code.region id l.toArray true).wp P Q a w:=rfl;rw[<- O]at h;exact h
def TY(k:Nat): List Nat->Nat->Option Nat
 | [],_=>none
 | d::ds,i=>if k=d then some i else TY k ds (i+1)
theorem H4{k:Nat}: ∀ {a:List Nat} {i j:Nat},TY k a i=some j->i<=j/\a[j-i]?=some k
 | [],_,_,h=>by cases h
 | d::a,i,j,h=>by
  unfold TY at h;split at h
  ·subst_vars
   obtain rfl:=hW h;exact⟨L8 _,x6⟩
  ·obtain⟨c,b⟩:=H4 h;refine⟨x3,?_⟩;rw[show j-i=(j-(i+1))+1 by omega,List.getElem?_cons_succ];exact b
theorem HJ{d:Nat}: ∀ {a:List Nat} {i j:Nat},a.Nodup->a[j]?=some d->TY d a i=some (i+j)
 | [],_,_,_,h=>by simp at h
 | e::a,i,0,_,h=>by
  simp at h;subst h
  simp[TY]
 | e::a,i,j+1,b,h=>by
  rw[Uv]at b;have f:a[j]?=some d:=y8 h;have c:d≠e:=λg=>b.1 (g▸List.mem_of_getElem? f)
  unfold TY;rw[if_neg c,HJ b.2 f];congr 1;omega
def Ah(a:Act)(b:List Nat)(u:Nat->z0): Act:={ a with tmps:=Array.ofFn (n:=a.tmps.size) λk=>match TY k.val b 0 with|some i=>u i|none=>a.tmps.getD k.val undef }
theorem Cc(a:Act)(b:List Nat)(u:Nat->z0): (Ah a b u).tmps.size=a.tmps.size:=by simp[Ah]
theorem N1(a:Act)(b:List Nat)(u:Nat->z0){k:Nat}(c:k<a.tmps.size): (Ah a b u).tmps[k]?=some (match TY k b 0 with|some i=>u i|none=>a.tmps.getD k undef):=by
 simp[Ah,c]
theorem DT{a:Act}{ds:List Nat}{u:Nat->z0}{k i:Nat}{v:z0}(b:k<a.tmps.size)(h:TY k ds 0=some i)(c:u i=v): (Ah a ds u).eval (.tmp k)=v:=by
 show(Ah a ds u).tmps.getD k undef=v;rw[h8,N1 a ds u b,h,<- c];rfl
theorem Hs{a:Act}{b:List Nat}{u:Nat->z0}{k:Nat}{v:z0}(c:k<a.tmps.size)(h:TY k b 0=none)(d:a.tmps.getD k undef=v): (Ah a b u).eval (.tmp k)=v:=by
 show(Ah a b u).tmps.getD k undef=v;rw[h8,N1 a b u c,h,<- d];rfl
theorem PR(a:Act)(b:List Nat): a=Ah a b (λi=>a.tmps.getD (b.getD i 0) undef):=by
 obtain⟨t,d⟩:=a;unfold Ah;congr 1;apply Array.ext
 ·simp
 ·intro k c g;rw[Array.getElem_ofFn];cases e:TY k b 0 with
  | none=>simp[c]
  | some i =>
   have f:=(H4 e).2;rw[Nat.sub_zero]at f;simp[List.getD,f,c]
theorem bD{a:Act}{b:List Nat}(g:b.Nodup)(u:Nat->z0){i d:Nat}(c:b[i]?=some d)(v:z0): (Ah a b u).put (some d) v=Ah a b (λk=>if k=i then v else u k):=by
 unfold Ah Act.put;simp only;congr 1;apply Array.ext
 ·simp
 ·intro k o h;rw[Array.getElem_setIfInBounds (y8 h),Array.getElem_ofFn,Array.getElem_ofFn];by_cases e:d=k
  ·subst e;rw[if_pos rfl,HJ g c];simp
  ·rw[if_neg e];cases l:TY k b 0 with
   | none=>rfl
   | some j =>
    have m:j≠i:=λn=>by
     subst n;have f:=(H4 l).2;rw[Nat.sub_zero,c]at f;exact e (hW f)
    simp only[if_neg m]
theorem PQ{a:Act}{c:List Nat}(f:c.Nodup): ∀(b:List Nat) (i:Nat),(∀j d,b[j]?=some d->c[i+j]?=some d)->PutsOk (λ_ _ u=>Ah a c u) b i
 | [],_,_=>trivial
 | e::b,i,h=>⟨λ_ _ u v=>bD f u (by simpa using h 0 e rfl) v,PQ f b (i+1) λj d g=>by
  rw[show i+1+j=i+(j+1)by omega];exact h (j+1) d (y8 g)⟩
def Bj(o:Oper): List Nat:=(o.after.toList.filter (Region.binds .any)).map (·.on)
def I1(u:Nat->z0)(o:Oper)(b:Bool): Prop:=match o.guard with
 | none=>b=true
 | some (g,c)=>∃x,u g=.bool x/\b=(x==c)
def d8(P:u7)(G:y9->Prop)(Φ:Nat->z0->y9->Prop)(fr:Nat->Bool)(i:Nat)(o:Oper)(u:Nat->z0)(ev:b8->z0)(W:y9): Prop :=
 (I1 u o true/\∃v w',(execOp ev o).run P W=.ok (.value v) w'/\Below W.heap.size W w'/\G w'/\Φ i v w'/\(fr i=true->∀g,blk v=some g->W.heap.size<=g)) \/
 (fr i=false/\I1 u o true/\∃f args,(execOp ev o).run P W=.ok (.enter f args) W/\Calls P f args W λe w'=>∃v,e=.returned v/\Below W.heap.size W w'/\G w'/\Φ i v w') \/
 (fr i=false/\I1 u o false/\Φ i undef W)
def KOk(P:u7)(a:List Nat)(A:Act)(G:y9->Prop)(Φ:Nat->z0->y9->Prop)(fr:Nat->Bool)(i:Nat)(o:Oper): Prop :=
 ∀(u:Nat->z0) (W:y9),G W->(∀j,j∈Bj o->Φ j (u j) W)->d8 P G Φ fr i o u (Ah A a u).eval W
def KsOk(P:u7)(a:List Nat)(A:Act)(G:y9->Prop)(Φ:Nat->z0->y9->Prop)(fr:Nat->Bool): List Oper->Nat->Nat->Prop
 | o::l,n+1,i=>KOk P a A G Φ fr i o/\KsOk P a A G Φ fr l n (i+1)
 | _,_,_=>True
def LOk(P:u7)(a:List Nat)(A:Act)(Φ:Nat->z0->y9->Prop)(i:Nat)(o:Oper): Prop :=
 ∀(u:Nat->z0) (W:y9),(∀j,j∈Bj o->Φ j (u j) W)->∃v,I1 u o true/\(∀w,(execOp (Ah A a u).eval o).run P w=.ok (.value v) w)/\Φ i v W
def LsOk(P:u7)(a:List Nat)(A:Act)(Φ:Nat->z0->y9->Prop)(fr b:Nat->Bool): List Oper->Nat->Nat->Prop
 | o::l,n+1,i=>(match b i with|true=>True|false=>fr i=false/\LOk P a A Φ i o)/\LsOk P a A Φ fr b l n (i+1)
 | _,_,_=>True
def bG(ops:Array Oper)(n:Nat): Bool:=(List.range n).all λi=>match ops[i]? with|some o=>(match o.guard with|some (g,_)=>decide (g<n)|none=>true)|none=>true
theorem CN{ops:Array Oper}{f:List Nat}{a:Act}{u:Nat->z0}(q:f.Nodup)(k:∀i,i<f.length->∃d,f[i]?=some d/\d<a.tmps.size/\∀o,ops[i]?=some o->o.dst=some d)(l:f.length<=ops.size){o:Oper}(n:∀g c,o.guard=some (g,c)->g<f.length){b:Bool}(h:I1 u o b): Region.wanted o (yielded ops (Ah a f u).tmps)=b:=by
 unfold Region.wanted;unfold I1 at h;split at h
 ·rename_i e;rw[e];exact h.symm
 ·rename_i g c e;obtain⟨x,r,rfl⟩:=h;rw[e];obtain⟨d,s,m,t⟩:=k g (n g c e);have j:g<ops.size:=Lb (n g c e) l;have p:ops[g]?=some ops[g]:=by simp[j]
  have v:yielded ops (Ah a f u).tmps g=some x:=by
   unfold yielded;rw[p,Su,t _ p,Su,N1 a f u m,HJ q s,Lj];simp only[r]
  show(yielded ops (Ah a f u).tmps g==some c)=(x==c);rw[v];rfl
theorem KsOk.at{P:u7}{b:List Nat}{A:Act}{G:y9->Prop}{Φ:Nat->z0->y9->Prop}{fr:Nat->Bool}: ∀ {l:List Oper} {n i:Nat},KsOk P b A G Φ fr l n i->∀j o,j<n->l[j]?=some o->KOk P b A G Φ fr (i+j) o
 | [],_,_,_,_,_,_,a=>by simp at a
 | _::_,0,_,_,_,_,c,_=>x3
 | x::l,n+1,i,h,0,o,_,a=>by
  simp at a;subst a;exact h.1
 | x::l,n+1,i,h,j+1,o,c,a=>by
  have:=KsOk.at h.2 j o x3 (y8 a);rwa [show i+1+j=i+(j+1)by omega]at this
theorem LsOk.at{P:u7}{c:List Nat}{A:Act}{Φ:Nat->z0->y9->Prop}{fr d:Nat->Bool}: ∀ {l:List Oper} {n i:Nat},LsOk P c A Φ fr d l n i->∀j o,j<n->l[j]?=some o->d (i+j)=false->fr (i+j)=false/\LOk P c A Φ (i+j) o
 | [],_,_,_,_,_,_,a,_=>by simp at a
 | _::_,0,_,_,_,_,g,_,_=>x3
 | x::l,n+1,i,h,0,o,_,a,b=>by
  simp at a;subst a
  have f:=h.1;rw[Sw]at b;rw[b]at f;exact f
 | x::l,n+1,i,h,j+1,o,g,a,b=>by
  have e:i+1+j=i+(j+1):=x3;have:=LsOk.at h.2 j o x3 (y8 a) (by rw[e];exact b);rwa [e]at this
def Em:List Nat->Bool | []=>true|d::ds=>!(ds.contains d)&&Em ds
theorem Cu:∀ {a:List Nat},Em a=true->a.Nodup
 | [],_=>List.nodup_nil
 | d::a,h=>by
  simp only[Em,Lu,Bool.not_eq_true',List.contains_eq_mem,decide_eq_false_iff_not]at h;exact Uv.2 ⟨h.1,Cu h.2⟩
theorem IY{P:u7}{id:Nat}{Q:Exit->Act->y9->Prop}{a:Act}{w:y9}{l:List Oper}(b:List Nat)(G:y9->Prop)(Φ:Nat->z0->y9->Prop)(M:Nat->Bool)(fr:Nat->Bool)(hm:P.follows .mixedOrders=true)(O:Dz l.toArray b.length M=true)(hQ:∀(d:Tmp) (v:z0) c a w,Q (.panic c) (a.put (some d) v) w->Q (.panic c) a w)(D:((List.range b.length).all λi=>((l.toArray[i]?).bind (·.dst))==b[i]?)=true)(R:Em b=true)(N:Nat)(hN:a.tmps.size=N)(E:b.all (·<N)=true)(S:bG l.toArray b.length=true)(J:G w.drew)(T:∀i v w w',i<b.length->Below w.heap.size w w'->Φ i v w->Φ i v w')(U:∀i v w,i<b.length->fr i=true->Φ i v w->∃g,blk v=some g/\g<w.heap.size)(V:∀A,A=a->KsOk P b A G Φ fr l b.length 0)(z:∀A,A=a->LsOk P b A Φ fr M l b.length 0)(B:∀u w',G w'->(∀i,i<b.length->Φ i (u i) w')->(∀i j,i<b.length->j<b.length->fr i=true->fr j=true->i≠j->blk (u i)≠blk (u j))->wpList P l.toArray Q (l.drop b.length) (KB a b 0 u) w'): (Code.region id l.toArray true).wp P Q a w:=by
 rw[<- hN]at E;have p:=Cu R;have q:b.length<=l.toArray.size:=by
  simp only[Dz,Lu,decide_eq_true_eq]at O;exact O.1.1.1.1.1.1
 have L:∀i,i<b.length->∃d,b[i]?=some d/\d<a.tmps.size/\∀o,l.toArray[i]?=some o->o.dst=some d:=λi r=>by
  have s:=Lc.1 D i (Lr.2 r);have X:((l.toArray[i]?).bind (·.dst))=b[i]?:=y8 s;refine⟨b[i],by simp[r],by simpa using Lc.1 E b[i] x6,λo k=>?_⟩;rw[k]at X;have h3:b[i]?=some b[i]:=by simp[r]
  rw[h3]at X;exact X
 have t:∀i o,i<b.length->l.toArray[i]?=some o->∀g c,o.guard=some (g,c)->g<b.length:=λi o r k g c F=>by
  have s:=Lc.1 S i (Lr.2 r);rw[k]at s;simp only[F,decide_eq_true_eq]at s;exact s
 refine IX b (λ_ _ u=>Ah a b u) G Φ M hm O hQ D (PR a b) J (PQ p b 0 λj d h=>by rw[Lj];exact h) T fr U (λ_ _ _=>?_) (λ_ _ _ i r hs=>?_) B
 ·have hk:=V a rfl;have key:∀n i,i+n=b.length->OpsOk P l.toArray (Ah a b) G Φ fr n i:=by
   intro n;induction n with
   | zero=>intro _ _;trivial
   | succ n ih =>
    intro i r;refine⟨λo k u W J H Q K Y=>?_,ih (i+1) x3⟩;have s:=KsOk.at hk i o x3 (y8 k);rw[Lj]at s;have x:YK l.toArray i=Bj o:=by unfold YK;rw[k];rfl
    rw[x]at H;rcases s u W J H with⟨x,v,w',I,Z,F,C,hn⟩|⟨m,x,f,args,I,hc⟩|⟨m,x,C⟩
    ·rw[CN p L q (t i o x3 k) x,if_pos rfl];unfold Oper.wp;rw[I];exact Y v w' Z F C hn
    ·rw[CN p L q (t i o x3 k) x,if_pos rfl];unfold Oper.wp;rw[I];refine hc.mono ?_
     rintro e w' ⟨v,rfl,Z,F,C⟩;exact Y v w' Z F C (λh=>by rw[m]at h;cases h)
    ·rw[CN p L q (t i o x3 k) x,if_neg x6];exact Y undef W (l3 _ _) J C (λh=>by rw[m]at h;cases h)
  exact key b.length 0 (Lj _)
 ·have y:i<l.length:=by simpa using Lb r q
  obtain⟨m,hl⟩:=LsOk.at (z a rfl) i l[i] r (by simp[y]) (by rw[Lj];exact hs);rw[Lj]at m hl;refine⟨m,λo k u W H=>?_⟩;have e:o=l[i]:=by
   have s:l.toArray[i]?=some l[i]:=by simp[y]
   exact hW (k.symm.trans s)
  subst e;have x:YK l.toArray i=Bj l[i]:=by unfold YK;rw[k];rfl
  rw[x]at H;obtain⟨v,ad,I,C⟩:=hl u W H;exact⟨v,.inl ⟨CN p L q (t i _ r k) ad,I⟩,C⟩
section
variable {P:Program} {G:World->Prop} {Φ:Nat->Value->World->Prop} {fr:Nat->Bool} {i:Nat} {o:Oper} {u:Nat->Value} {ev:Operand->Value} {W:World}
theorem Q9(v:z0)(a:I1 u o true)(b:fr i=false)(c:G W)(d:(execOp ev o).run P W=.ok (.value v) W)(e:Φ i v W): d8 P G Φ fr i o u ev W :=
 .inl ⟨a,v,W,d,l3 _ _,c,e,λh=>by rw[b]at h;cases h⟩
theorem PW(v:z0)(x:Obj)(a:I1 u o true)(b:(execOp ev o).run P W=.ok (.value v) (W.alloc x))(c:G (W.alloc x))(d:Φ i v (W.alloc x))(e:blk v=some W.heap.size): d8 P G Φ fr i o u ev W :=
 .inl ⟨a,v,W.alloc x,b,b1 W x,c,d,λ_ g h=>by rw[e]at h;exact Rx (hW h)⟩
theorem uz{R:z0}(f:FuncId)(args:b7)(b:I1 u o true)(c:fr i=false)(d:(execOp ev o).run P W=.ok (.enter f args) W)(g:b9 P f args W R)(j:∀w',Below W.heap.size W w'->G w')(k:∀w',Below W.heap.size W w'->Φ i R w'): d8 P G Φ fr i o u ev W :=
 .inr (.inl ⟨c,b,f,args,d,g.mono λ_ w' ⟨h,a⟩=>⟨R,h,a,j w' a,k w' a⟩⟩)
end
abbrev Kn:=z0->y9->Prop
def d9(p:Kn): Prop:=∀v w w',Below w.heap.size w w'->p v w->p v w'
def eqK(c:z0): Kn:=λv _=>v=c
def xj:Kn:=λ_ _=>True
def vu(B:Nat)(t:u6)(cs:b7): Kn:=λv W=>∃g,v=.pointer (some ⟨g,0,none⟩)/\B<=g/\Bx W g t cs
def wa(B:Nat)(t:u6)(n:Nat)(cs:b7): Kn:=λv W=>∃g,v=.slice (some ⟨g,0,none⟩) n n/\B<=g/\Bx W g t cs
theorem qN(c:z0): d9 (eqK c):=λ_ _ _ _ h=>h
theorem lR:d9 xj:=λ_ _ _ _ _=>trivial
theorem lS(B:Nat)(t:u6)(cs:b7): d9 (vu B t cs):=λ_ _ _ a ⟨g,e,b,h⟩=>⟨g,e,b,h.later a⟩
theorem lT(B:Nat)(t:u6)(n:Nat)(cs:b7): d9 (wa B t n cs):=λ_ _ _ a ⟨g,e,b,h⟩=>⟨g,e,b,h.later a⟩
theorem fg{B:Nat}{t:u6}{cs:b7}(v:z0)(w:y9)(h:vu B t cs v w): ∃g,blk v=some g/\g<w.heap.size:=by
 obtain⟨g,rfl,_,a⟩:=h;exact⟨g,rfl,a.lt⟩
theorem fh{B:Nat}{t:u6}{n:Nat}{cs:b7}(v:z0)(w:y9)(h:wa B t n cs v w): ∃g,blk v=some g/\g<w.heap.size:=by
 obtain⟨g,rfl,_,a⟩:=h;exact⟨g,rfl,a.lt⟩
theorem DN{w W:y9}(h:Below w.heap.size w W): w.heap.size<=W.heap.size:=h.size
theorem Jl{P:u7}{a:List Nat}{A:Act}{G:y9->Prop}{Φ:Nat->z0->y9->Prop}{fr:Nat->Bool}{i:Nat}{o:Oper}{N:Nat}(c:A.tmps.size=N)(h:∀(u:Nat->z0) (W:y9) (ev:b8->z0),(∀v,ev (.const v)=v)->(∀f,ev (.func f)=.func (.func f) #[] #[])->(∀ {v:z0} (k j:Nat),Nat.blt k N=true->TY k a 0=some j->u j=v->ev (.tmp k)=v)->(∀ {v:z0} (k:Nat),Nat.blt k N=true->TY k a 0=none->A.tmps.getD k undef=v->ev (.tmp k)=v) ->
  G W->(∀j,(Bj o).contains j=true->Φ j (u j) W)->d8 P G Φ fr i o u ev W): KOk P a A G Φ fr i o :=
 λu W d e=>h u W (Ah A a u).eval (λ_=>rfl) (λ_=>rfl) (λk j b=>DT (by rw[c];exact Nat.blt_eq.mp b)) (λk b=>Hs (by rw[c];exact Nat.blt_eq.mp b)) d (λj g=>e j (y8 g))
inductive KN where
 | eq (v:Value)
 | any
 | ptr (B:Nat) (t:TypeId) (cs:Array Value)
 | sli (B:Nat) (t:TypeId) (n:Nat) (cs:Array Value)
 | prd (p:Kn) (h:d9 p)
def KN.at:KN->Kn
 | .eq v=>eqK v
 | .any=>xj
 | .ptr B t cs=>vu B t cs
 | .sli B t n cs=>wa B t n cs
 | .prd p _=>p
def KN.fresh:KN->Bool
 | .ptr _ _ _=>true
 | .sli _ _ _ _=>true
 | _=>false
theorem KN.stab:∀p:KN,d9 p.at
 | .eq _=>qN _
 | .any=>lR
 | .ptr _ _ _=>lS _ _ _
 | .sli _ _ _ _=>lT _ _ _ _
 | .prd _ h=>h
theorem KN.blk:∀(p:KN),p.fresh=true->∀v w,p.at v w->∃g,blk v=some g/\g<w.heap.size
 | .ptr _ _ _,_=>fg
 | .sli _ _ _ _,_=>fh
 | .eq _,h=>by cases h
 | .any,h=>by cases h
 | .prd _ _,h=>by cases h
def kA(L:List KN)(i:Nat)(v:z0)(W:y9): Prop:=match L[i]? with|some p=>p.at v W|none=>True
def m8(L:List KN)(i:Nat): Bool:=match L[i]? with|some p=>p.fresh|none=>false
theorem oH(L:List KN)(i:Nat)(v:z0)(w w':y9)(a:Below w.heap.size w w')(h:kA L i v w): kA L i v w':=by
 unfold kA at *;split at h
 ·exact KN.stab _ v w w' a h
 ·trivial
theorem uy(L:List KN)(i:Nat)(v:z0)(w:y9)(a:m8 L i=true)(h:kA L i v w): ∃g,blk v=some g/\g<w.heap.size:=by
 unfold m8 at a;unfold kA at h;split at a
 ·rename_i p e;rw[e]at h;exact KN.blk p a v w h
 ·cases a
def yx(l:List Oper)(a:List Nat)(b:List Nat)(N:Nat): Bool :=
 Dz l.toArray a.length (λi=>!b.contains i)&&((List.range a.length).all λi=>((l.toArray[i]?).bind (·.dst))==a[i]?)&&Em a&&a.all (·<N)&&bG l.toArray a.length
section
variable {P:Program} {id:Nat} {Q:Exit->Act->World->Prop} {a:Act} {w:World} {l:List Oper}
theorem CP(b:List Nat)(L:List KN)(e:List Nat)(N:Nat)(n:P.follows .mixedOrders=true)(o:∀(d:Tmp) (v:z0) c a w,Q (.panic c) (a.put (some d) v) w->Q (.panic c) a w)(m:yx l b e N=true)(p:a.tmps.size=N)(k:∀A,A=a->KsOk P b A (λW=>Below w.heap.size w W) (kA L) (m8 L) l b.length 0)(f:∀A,A=a->LsOk P b A (kA L) (m8 L) (λi=>!e.contains i) l b.length 0)(g:∀u w',Below w.heap.size w w'->(∀i,i<b.length->kA L i (u i) w')->(∀i j,i<b.length->j<b.length->m8 L i=true->m8 L j=true->i≠j->blk (u i)≠blk (u j))->wpList P l.toArray Q (l.drop b.length) (KB a b 0 u) w'): (Code.region id l.toArray true).wp P Q a w:=by
 simp only[yx,Lu]at m;obtain⟨⟨⟨⟨q,r⟩,s⟩,t⟩,x⟩:=m;exact IY b (λW=>Below w.heap.size w W) (kA L) (λi=>!e.contains i) (m8 L) n q o r s N p t x (l3 _ _).drew (λi v w w' _ y h=>oH L i v w w' y h) (λi v w _ z h=>uy L i v w z h) k f g
theorem MW{a:List Nat}{A:Act}{Φ:Nat->z0->y9->Prop}{fr:Nat->Bool}: ∀(l:List Oper) (n i:Nat),LsOk P a A Φ fr (λi=>!([]:List Nat).contains i) l n i
 | [],_,_=>trivial
 | _::_,0,_=>trivial
 | _::l,n+1,i=>⟨trivial,MW l n (i+1)⟩
theorem Gp(b:List Nat)(L:List KN)(N:Nat)(g:P.follows .mixedOrders=true)(h:∀(d:Tmp) (v:z0) c a w,Q (.panic c) (a.put (some d) v) w->Q (.panic c) a w)(k:yx l b [] N=true)(m:a.tmps.size=N)(f:∀A,A=a->KsOk P b A (λW=>Below w.heap.size w W) (kA L) (m8 L) l b.length 0)(e:∀u w',Below w.heap.size w w'->(∀i,i<b.length->kA L i (u i) w')->(∀i j,i<b.length->j<b.length->m8 L i=true->m8 L j=true->i≠j->blk (u i)≠blk (u j))->wpList P l.toArray Q (l.drop b.length) (KB a b 0 u) w'): (Code.region id l.toArray true).wp P Q a w :=
 CP b L [] N g h k m f (λ_ _=>MW _ _ _) e
end
section
variable {P:Program} {Φ:Nat->Value->World->Prop} {fr:Nat->Bool} {i:Nat} {o:Oper} {u:Nat->Value} {ev:Operand->Value} {W S:World}
theorem PU{R:z0}{f:FuncId}{args:b7}(a:I1 u o true)(b:fr i=false)(c:(execOp ev o).run P W=.ok (.enter f args) W)(d:b9 P f args W R)(g:Below S.heap.size S W)(h:∀w',Below W.heap.size W w'->Φ i R w'): d8 P (λW=>Below S.heap.size S W) Φ fr i o u ev W :=
 uz f args a b c d (λ_ j=>nxt g j) h
end
def Dm(w:y9)(g:Nat): Nat->a8->y9
 | _,[]=>w
 | k,v::vs=>Dm (w.setCell ⟨g,k,none⟩ v) g (k+1) vs
def ql(cs:b7): Nat->a8->b7
 | _,[]=>cs
 | k,v::vs=>ql (cs.setIfInBounds k v) (k+1) vs
theorem Bx.farN{g a:Nat}{t:u6}{cs:b7}(c:g≠a): ∀(b:a8) (k:Nat) {w:y9},Bx w g t cs->Bx (Dm w a k b) g t cs
 | [],_,_,h=>h
 | v::b,k,_,h=>Bx.farN c b (k+1) (h.far (p:=⟨a,k,none⟩) c v)
theorem Bx.stores{g:Nat}{t:u6}: ∀(a:a8) (k:Nat) {w:y9} {cs:b7},Bx w g t cs->Bx (Dm w g k a) g t (ql cs k a)
 | [],_,_,_,h=>h
 | v::a,k,_,_,h=>Bx.stores a (k+1) (h.set k v)
theorem stN{B g:Nat}{a:y9}(c:B<=g): ∀(b:a8) (k:Nat) {w:y9},Below B a w->Below B a (Dm w g k b)
 | [],_,_,h=>h
 | v::b,k,_,h=>stN c b (k+1) (h.setCell c v)
theorem Bx.k1{w:y9}{g:Nat}{t:u6}{a:z0}(h:Bx w g t #[a]): w.cell? ⟨g,0,none⟩=some a/\w.frozen? ⟨g,0,none⟩=false :=
 ⟨h.cel 0,h.free 0⟩
