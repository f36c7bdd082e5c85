/- The walks and plain laws beneath the statements. -/
import Derived.Below
import Derived.Lib.BitFns
import Derived.Lib.TrailingZeros
import Derived.Deep.Draws
import Derived.Lib.Hide
import Derived.WalkKit
import Derived.WalkSpells
import Derived.WalkLawsBesides
import Derived.WalkSmall
import Derived.Deep.OwnRows
import Derived.Laws.CopyOwn
import Derived.Laws.BytesArg
import Derived.StillTail
import Derived.OrdersHeld
namespace Go.Proofs.YtaelfkdjlioegaaGreatDoor
open Go Go.RowKit
theorem L1:type_of% @of_decide_eq_true:=@of_decide_eq_true
theorem L3:type_of% @Nat.le_refl:=@Nat.le_refl
theorem L6:type_of% @Bool.and_eq_true_iff:=@Bool.and_eq_true_iff
theorem L7:type_of% @cell_later:=@cell_later
theorem L8:type_of% @Nat.le_trans:=@Nat.le_trans
theorem L9:type_of% @Nat.zero_le:=@Nat.zero_le
theorem La:type_of% @of_decide_eq_false:=@of_decide_eq_false
theorem Lb:type_of% @Nat.lt_of_lt_of_le:=@Nat.lt_of_lt_of_le
theorem Lc:type_of% @Nat.eq_of_beq_eq_true:=@Nat.eq_of_beq_eq_true
theorem Ld:type_of% @Nat.zero_add:=@Nat.zero_add
theorem Le:type_of% @Nat.pow_le_pow_right:=@Nat.pow_le_pow_right
theorem Lf:type_of% @Nat.le_add_right:=@Nat.le_add_right
theorem Lg:type_of% @List.length_append:=@List.length_append
theorem Lh:type_of% @Nat.mul_comm:=@Nat.mul_comm
theorem Lj:type_of% @Classical.choose_spec:=@Classical.choose_spec
theorem Li:type_of% @Nat.div_lt_iff_lt_mul:=@Nat.div_lt_iff_lt_mul
theorem Lk:type_of% @decide_eq_false:=@decide_eq_false
theorem Ll:type_of% @Nat.pow_add:=@Nat.pow_add
theorem Ln:type_of% @IntWalk.i64_in:=@IntWalk.i64_in
theorem Lm:type_of% @List.mem_range:=@List.mem_range
theorem Lo:type_of% @Nat.mul_le_mul_right:=@Nat.mul_le_mul_right
theorem Lp:type_of% @List.mem_cons:=@List.mem_cons
theorem Lq:type_of% @Nat.two_pow_pos:=@Nat.two_pow_pos
theorem Lr:type_of% @Nat.le_of_ble_eq_true:=@Nat.le_of_ble_eq_true
theorem Ls:type_of% @List.all_eq_true:=@List.all_eq_true
theorem Lt:type_of% @Nat.mul_le_mul_left:=@Nat.mul_le_mul_left
theorem Lu:type_of% @Nat.lt_of_le_of_lt:=@Nat.lt_of_le_of_lt
theorem Lv:type_of% @List.not_mem_nil:=@List.not_mem_nil
theorem Lw:type_of% @Nat.mul_assoc:=@Nat.mul_assoc
theorem Lx:type_of% @Nat.pow_succ:=@Nat.pow_succ
theorem Ly:type_of% @Nat.mod_lt:=@Nat.mod_lt
theorem Lz:type_of% @Nat.mod_eq_of_lt:=@Nat.mod_eq_of_lt
theorem R4:type_of% @Nat.div_div_eq_div_mul:=@Nat.div_div_eq_div_mul
theorem R5:type_of% @List.mem_map:=@List.mem_map
theorem R6:type_of% @beq_eq_false_iff_ne:=@beq_eq_false_iff_ne
theorem R7:type_of% @congrArg:=@congrArg
theorem R8:type_of% @Bool.and_eq_true:=@Bool.and_eq_true
theorem R9:type_of% @Nat.mul_lt_mul_of_pos_right:=@Nat.mul_lt_mul_of_pos_right
theorem Ra:type_of% @Nat.lt_or_ge:=@Nat.lt_or_ge
theorem Rb:type_of% @List.length_cons:=@List.length_cons
theorem Rc:type_of% @Nat.not_lt_zero:=@Nat.not_lt_zero
theorem Re:type_of% @Nat.mul_add:=@Nat.mul_add
theorem Rf:type_of% @decide_eq_true:=@decide_eq_true
theorem Rg:type_of% @beq_iff_eq:=@beq_iff_eq
theorem Rh:type_of% @List.take_of_length_le:=@List.take_of_length_le
theorem Ri:type_of% @List.length_map:=@List.length_map
theorem Rj:type_of% @List.mem_append:=@List.mem_append
theorem Rk:type_of% @List.take_succ_eq_append_getElem:=@List.take_succ_eq_append_getElem
theorem Rm:type_of% @List.flatMap_cons:=@List.flatMap_cons
theorem Rl:type_of% @Nat.div_le_self:=@Nat.div_le_self
theorem Rn:type_of% @Nat.pow_one:=@Nat.pow_one
theorem Ro:type_of% @Int.toNat_natCast:=@Int.toNat_natCast
theorem Rp:type_of% @List.setIfInBounds_toArray:=@List.setIfInBounds_toArray
theorem Rq:type_of% @Nat.pow_pos:=@Nat.pow_pos
theorem Rr:type_of% @Nat.succ_mul:=@Nat.succ_mul
theorem Rs:type_of% @List.length_nil:=@List.length_nil
theorem Rt:type_of% @List.length_take:=@List.length_take
theorem Rv:type_of% @Nat.add_mul:=@Nat.add_mul
theorem Ru:type_of% @Nat.add_mul_div_left:=@Nat.add_mul_div_left
theorem Rx:type_of% @List.mem_singleton:=@List.mem_singleton
theorem Ry:type_of% @List.nil_append:=@List.nil_append
theorem Rz:type_of% @Nat.div_eq_of_lt:=@Nat.div_eq_of_lt
theorem S6:type_of% @Nat.add_sub_cancel_left:=@Nat.add_sub_cancel_left
theorem S5:type_of% @Nat.le_mul_of_pos_right:=@Nat.le_mul_of_pos_right
theorem S7:type_of% @List.length_range:=@List.length_range
theorem S8:type_of% @Nat.div_add_mod:=@Nat.div_add_mod
theorem Sa:type_of% @List.getElem_mem:=@List.getElem_mem
theorem S9:type_of% @Nat.succ_pos:=@Nat.succ_pos
theorem Sb:type_of% @Nat.add_assoc:=@Nat.add_assoc
theorem Sc:type_of% @List.append_nil:=@List.append_nil
theorem Se:type_of% @Nat.le_of_not_lt:=@Nat.le_of_not_lt
theorem Sd:type_of% @Nat.pow_mul:=@Nat.pow_mul
theorem Sf:type_of% @Eq.refl:=@Eq.refl
theorem Sg:type_of% @List.length_replicate:=@List.length_replicate
theorem Sj:type_of% @List.map_append:=@List.map_append
theorem Sh:type_of% @Nat.mod_add_div:=@Nat.mod_add_div
theorem Si:type_of% @Nat.mul_one:=@Nat.mul_one
theorem Sn:type_of% @Int.tmod_eq_emod_of_nonneg:=@Int.tmod_eq_emod_of_nonneg
theorem Sk:type_of% @Nat.ne_of_lt:=@Nat.ne_of_lt
theorem Sl:type_of% @Nat.pow_zero:=@Nat.pow_zero
theorem So:type_of% @Nat.le_antisymm:=@Nat.le_antisymm
theorem Sq:type_of% @Nat.le_div_iff_mul_le:=@Nat.le_div_iff_mul_le
theorem Sr:type_of% @List.eq_nil_of_length_eq_zero:=@List.eq_nil_of_length_eq_zero
theorem Sv:type_of% @Below.heap_setCell:=@Below.heap_setCell
theorem Sz:type_of% @List.cons_append:=@List.cons_append
theorem Sy:type_of% @List.flatMap_nil:=@List.flatMap_nil
theorem Su:type_of% @List.getElem_map:=@List.getElem_map
theorem Ss:type_of% @Nat.eq_zero_or_pos:=@Nat.eq_zero_or_pos
theorem Sx:type_of% @Nat.succ_lt_succ:=@Nat.succ_lt_succ
theorem Sw:type_of% @Option.bind_some:=@Option.bind_some
theorem T1:type_of% @Array.mem_toList_iff:=@Array.mem_toList_iff
theorem T2:type_of% @List.mem_cons_of_mem:=@List.mem_cons_of_mem
theorem T3:type_of% @Int.natCast_mul:=@Int.natCast_mul
theorem T4:type_of% @Option.map_some:=@Option.map_some
theorem T5:type_of% @List.map_congr_left:=@List.map_congr_left
theorem T6:type_of% @Nat.le_of_lt:=@Nat.le_of_lt
theorem T8:type_of% @Nat.lt_succ_self:=@Nat.lt_succ_self
theorem T7:type_of% @Nat.succ_le_succ:=@Nat.succ_le_succ
theorem T9:type_of% @Nat.add_mul_mod_self_left:=@Nat.add_mul_mod_self_left
theorem Tb:type_of% @List.mem_append_left:=@List.mem_append_left
theorem Ta:type_of% @Nat.add_comm:=@Nat.add_comm
theorem Tc:type_of% @Array.length_toList:=@Array.length_toList
theorem Td:type_of% @List.drop_succ_cons:=@List.drop_succ_cons
theorem Te:type_of% @List.drop_zero:=@List.drop_zero
theorem Tg:type_of% @List.getElem_range:=@List.getElem_range
theorem Tj:type_of% @List.set_cons_succ:=@List.set_cons_succ
theorem Ti:type_of% @List.set_cons_zero:=@List.set_cons_zero
theorem Tf:type_of% @Nat.add_sub_cancel:=@Nat.add_sub_cancel
theorem Th:type_of% @Nat.zero_mul:=@Nat.zero_mul
theorem Tk:type_of% @List.mem_filter:=@List.mem_filter
theorem Tl:type_of% @Nat.mod_mul_right_div_self:=@Nat.mod_mul_right_div_self
theorem Tn:type_of% @Int.natAbs_ediv_le_natAbs:=@Int.natAbs_ediv_le_natAbs
theorem Tp:type_of% @Int.neg_neg:=@Int.neg_neg
theorem To:type_of% @Nat.one_mul:=@Nat.one_mul
theorem Tq:type_of% @Int.natAbs_mul:=@Int.natAbs_mul
theorem Tt:type_of% @List.length_drop:=@List.length_drop
theorem Tr:type_of% @Nat.lt_of_not_le:=@Nat.lt_of_not_le
theorem Ts:type_of% @Nat.pow_lt_pow_iff_right:=@Nat.pow_lt_pow_iff_right
theorem Tu:type_of% @ByteArray.toList_eq:=@ByteArray.toList_eq
theorem Tv:type_of% @List.flatMap_append:=@List.flatMap_append
theorem Tx:type_of% @Bool.eq_iff_iff:=@Bool.eq_iff_iff
theorem Tw:type_of% @Int.natAbs_natCast:=@Int.natAbs_natCast
theorem Tz:type_of% @Nat.add_mod:=@Nat.add_mod
theorem Ty:type_of% @Nat.mod_one:=@Nat.mod_one
theorem U0:type_of% @Int.lt_trichotomy:=@Int.lt_trichotomy
theorem U1:type_of% @List.size_toArray:=@List.size_toArray
theorem U3:type_of% @Bool.and_false:=@Bool.and_false
theorem U4:type_of% @List.mem_append_right:=@List.mem_append_right
theorem U2:type_of% @Nat.add_zero:=@Nat.add_zero
theorem U5:type_of% @Int.natCast_ediv:=@Int.natCast_ediv
theorem U7:type_of% @List.any_eq_true:=@List.any_eq_true
theorem U9:type_of% @List.mem_flatMap:=@List.mem_flatMap
theorem U8:type_of% @Nat.mul_lt_mul'':=@Nat.mul_lt_mul''
theorem U6:type_of% @Nat.sub_le:=@Nat.sub_le
theorem Ue:type_of% @Int.le_refl:=@Int.le_refl
theorem Ud:type_of% @Int.neg_mul:=@Int.neg_mul
theorem Ub:type_of% @Nat.mul_pos:=@Nat.mul_pos
theorem Uf:type_of% @List.nodup_cons:=@List.nodup_cons
theorem Ug:type_of% @Nat.min_eq_left:=@Nat.min_eq_left
def LB:Nat:=18446744073709551616
theorem YW:LB=18446744073709551616:=rfl
theorem Xn:LB=2^64:=rfl
theorem Qu:0<LB:=by decide
def Ql(B v j:Nat): Nat:=v / B^j % B
theorem Q8{B:Nat}(h:0<B)(v j:Nat): Ql B v j<B:=Ly _ h
theorem ZV(B j:Nat): Ql B 0 j=0:=by simp[Ql]
theorem Hu{B v j:Nat}(h:v<B^j): Ql B v j=0:=by
 unfold Ql;rw[Rz h];simp
theorem Yu{B v n j:Nat}(hB:0<B)(h:v<B^n)(hj:n≤j): Ql B v j=0 :=
 Hu (Lb h (Le hB hj))
theorem YP(B v k:Nat): v % B^(k+1)=v % B^k+B^k*Ql B v k:=by
 unfold Ql
 rw[Lx,Nat.mod_mul]
theorem Hw(B v k:Nat): v=v % B^k+B^k*(Ql B v k+B*(v / B^(k+1))):=by
 have h1:=Sh v (B^k)
 have h2:=Sh (v / B^k) B
 rw[R4,← Lx]at h2
 have h2':Ql B v k+B*(v / B^(k+1))=v / B^k:=h2
 rw[h2']
 exact h1.symm
theorem JY{B v n j:Nat}(h:j<n): Ql B (v % B^n) j=Ql B v j:=by
 unfold Ql
 obtain⟨d,rfl⟩:∃d,n=j+(d+1):=⟨n-j-1,by omega⟩
 rw[Ll,Tl,Lx,Lh (B^d),Nat.mod_mul_right_mod]
theorem Vk{B:Nat}: ∀ {n u v:Nat},u<B^n→v<B^n→(∀j,j<n→Ql B u j=Ql B v j)→u=v:=by
 intro n
 induction n with
 | zero=>intro u v hu hv _;simp at hu hv;omega
 | succ n ih =>
  intro u v hu hv h
  have hu':u % B^(n+1)=u:=Lz hu
  have hv':v % B^(n+1)=v:=Lz hv
  rw[YP]at hu' hv'
  by_cases hB:B=0
  ·subst hB;simp at hu
  have hp:0<B^n:=Rq (Nat.pos_of_ne_zero hB)
  have e:u % B^n=v % B^n:=ih (Ly _ hp) (Ly _ hp) fun j hj=>by
   rw[JY hj,JY hj];exact h j (by omega)
  rw[← hu',← hv',e,h n (by omega)]
theorem JA(B v n j:Nat): Ql B (v / B^n) j=Ql B v (n+j):=by
 unfold Ql
 rw[R4,← Ll]
theorem Ga(B v n j:Nat)(hB:0<B): Ql B (B^n*v) (n+j)=Ql B v j:=by
 unfold Ql
 rw[Ll,Nat.mul_div_mul_left _ _ (Rq hB)]
theorem CQ(B v n j:Nat)(h:j<n)(hB:0<B): Ql B (B^n*v) j=0:=by
 unfold Ql
 obtain⟨d,rfl⟩:∃d,n=j+(d+1):=⟨n-j-1,by omega⟩
 rw[Ll,Lw,Nat.mul_div_cancel_left _ (Rq hB),Lx,Lh (B^d),Lw,Nat.mul_mod_right]
theorem GH{B u d k:Nat}(hB:0<B)(hu:u<B^k)(hd:d<B)(j:Nat):
  Ql B (u+B^k*d) j=if j<k then Ql B u j else if j=k then d else 0:=by
 by_cases h:j<k
 ·rw[if_pos h,← JY h,T9,JY h]
 ·rw[if_neg h]
  by_cases e:j=k
  ·subst e
   rw[if_pos rfl]
   unfold Ql
   rw[Ru _ _ (Rq hB),Rz hu,Ld,Lz hd]
  ·rw[if_neg e]
   refine Yu (n:=k+1) hB ?_ (by omega)
   rw[Lx]
   calc u+B^k*d<B^k+B^k*d:=by omega
    _=B^k*(d+1):=by rw[Re,Si,Ta]
    _≤B^k*B:=Lt _ hd
def Ys(B x y k:Nat): Nat:=(x % B^k+y % B^k) / B^k
theorem ED(B x y:Nat): Ys B x y 0=0:=by simp[Ys,Ty]
theorem Eb{B:Nat}(hB:0<B)(x y k:Nat): Ys B x y k≤1:=by
 unfold Ys
 have hp:=Nat.pow_pos (n:=k) hB
 have h1:=Ly x hp
 have h2:=Ly y hp
 have:(x % B^k+y % B^k) / B^k<2:=by rw[Li hp];omega
 omega
theorem CF{B:Nat}(hB:0<B)(x y k:Nat): Ys B x y (k+1)=(Ql B x k+Ql B y k+Ys B x y k) / B:=by
 unfold Ys
 have hp:=Nat.pow_pos (n:=k) hB
 rw[YP,YP,show x % B^k+B^k*Ql B x k+(y % B^k+B^k*Ql B y k)=(x % B^k+y % B^k)+B^k*(Ql B x k+Ql B y k)by rw[Re];omega,
  Lx,← R4,Ru _ _ hp,Ta]
theorem Ip{B:Nat}(hB:0<B)(x y k:Nat): Ql B (x+y) k=(Ql B x k+Ql B y k+Ys B x y k) % B:=by
 have hp:=Nat.pow_pos (n:=k) hB
 have e:x+y=(x % B^k+y % B^k)+B^k*(x / B^k+y / B^k):=by
  have h1:=Sh x (B^k)
  have h2:=Sh y (B^k)
  rw[Re];omega
 have e2:(x+y) / B^k=Ys B x y k+(x / B^k+y / B^k):=by
  unfold Ys
  rw[e,Ru _ _ hp]
 unfold Ql
 rw[e2,Ta (Ys B x y k),Tz (x / B^k+y / B^k),Tz (x / B^k),Tz (x / B^k % B+y / B^k % B)]
def XZ(B x y k:Nat): Nat:=if x % B^k<y % B^k then 1 else 0
theorem Aa(B x y:Nat): XZ B x y 0=0:=by simp[XZ,Ty]
theorem Fp(B x y k:Nat): XZ B x y k≤1:=by unfold XZ;split<;>omega
theorem Al{B:Nat}(hB:0<B)(x y k:Nat): XZ B x y (k+1)=if Ql B x k<Ql B y k+XZ B x y k then 1 else 0:=by
 have hp:=Nat.pow_pos (n:=k) hB
 unfold XZ
 rw[YP,YP]
 have h1:=Ly x hp
 have h2:=Ly y hp
 generalize Ql B x k=a
 generalize Ql B y k=b
 generalize x % B^k=p at *
 generalize y % B^k=q at *
 generalize B^k=m at *
 have key:(p+m*a<q+m*b)↔(a<b+if p<q then 1 else 0):=by
  by_cases hpq:p<q
  ·rw[if_pos hpq]
   constructor
   ·intro h
    apply Tr
    intro hle
    obtain⟨d,rfl⟩:∃d,a=b+1+d:=⟨a-b-1,by omega⟩
    rw[Re,Re,Si]at h
    have:0≤m*d:=L9 _
    omega
   ·intro h
    have:m*a≤m*b:=Lt _ (by omega)
    omega
  ·rw[if_neg hpq]
   constructor
   ·intro h
    apply Tr
    intro hle
    have:m*b≤m*a:=Lt _ (by omega)
    omega
   ·intro h
    have:m*(a+1)≤m*b:=Lt _ (by omega)
    rw[Re,Si]at this
    omega
 by_cases hc:p+m*a<q+m*b
 ·rw[if_pos hc,if_pos (key.1 hc)]
 ·rw[if_neg hc,if_neg (fun h=>hc (key.2 h))]
theorem Pi{B:Nat}(hB:0<B){x y:Nat}(hyx:y≤x)(k:Nat): Ql B (x-y) k=(Ql B x k+B-Ql B y k-XZ B x y k) % B:=by
 have hp:=Nat.pow_pos (n:=k) hB
 obtain⟨z,rfl⟩:∃z,x=z+y:=⟨x-y,by omega⟩
 rw[Tf]
 have hadd:=Ip hB z y k
 have hz:=Q8 hB z k
 have hy:=Q8 hB y k
 have hc:=Eb hB z y k
 have hcb:XZ B (z+y) y k=Ys B z y k:=by
  unfold XZ Ys
  have h1:=Ly z hp
  have h2:=Ly y hp
  rw[Tz]
  generalize z % B^k=p at *
  generalize y % B^k=q at *
  generalize B^k=m at *
  by_cases hlt:p+q<m
  ·rw[Lz hlt,Rz hlt,if_neg (by omega)]
  ·have e:(p+q) % m=p+q-m:=by
    rw[Nat.mod_eq_sub_mod (by omega),Lz (show p+q-m<m by omega)]
   have e2:(p+q) / m=1:=by
    rw[Nat.div_eq_sub_div hp (by omega),Rz (show p+q-m<m by omega)]
   rw[e,e2,if_pos (by omega)]
 rw[hadd,hcb]
 generalize Ql B z k=a at *
 generalize Ql B y k=b at *
 generalize Ys B z y k=c at *
 by_cases hlt:a+b+c<B
 ·rw[Lz hlt,show a+b+c+B-b-c=a+B by omega,Nat.add_mod_right,Lz hz]
 ·rw[Nat.mod_eq_sub_mod (by omega:a+b+c≥B),Lz (by omega:a+b+c-B<B)]
  rw[show a+b+c-B+B-b-c=a by omega,Lz hz]
def Ze(B x y m k:Nat): Nat:=(x % B^k+y % B^k*m) / B^k
theorem Nk(B x y m:Nat): Ze B x y m 0=0:=by simp[Ze,Ty]
theorem MN{B:Nat}(hB:0<B)(x y m k:Nat): Ze B x y m (k+1)=(Ql B x k+Ql B y k*m+Ze B x y m k) / B:=by
 unfold Ze
 have hp:=Nat.pow_pos (n:=k) hB
 rw[YP,YP,show x % B^k+B^k*Ql B x k+(y % B^k+B^k*Ql B y k)*m=(x % B^k+y % B^k*m)+B^k*(Ql B x k+Ql B y k*m)by
   rw[Rv,Re,Lw];omega,
  Lx,← R4,Ru _ _ hp,Ta]
theorem Fe{B:Nat}(hB:0<B){m:Nat}(hm:m<B)(x y k:Nat): Ze B x y m k<B:=by
 unfold Ze
 have hp:=Nat.pow_pos (n:=k) hB
 have h1:=Ly x hp
 have h2:=Ly y hp
 rw[Li hp]
 calc x % B^k+y % B^k*m<B^k+y % B^k*m:=by omega
  _≤B^k+B^k*m:=Nat.add_le_add_left (Lo _ (T6 h2)) _
  _=(m+1)*B^k:=by rw[Rv,To,Lh];omega
  _≤B*B^k:=Lo _ hm
theorem Ny{B:Nat}(hB:0<B)(x y m k:Nat): Ql B (x+y*m) k=(Ql B x k+Ql B y k*m+Ze B x y m k) % B:=by
 have hp:=Nat.pow_pos (n:=k) hB
 have e2:(x+y*m) / B^k=Ze B x y m k+(x / B^k+y / B^k*m):=by
  have h1:=Sh x (B^k)
  have h2:=Sh y (B^k)
  have e:x+y*m=(x % B^k+y % B^k*m)+B^k*(x / B^k+y / B^k*m):=by
   rw[Re,← Lw]
   calc x+y*m=(x % B^k+B^k*(x / B^k))+(y % B^k+B^k*(y / B^k))*m:=by rw[h1,h2]
    _=_:=by rw[Rv];omega
  unfold Ze
  rw[e,Ru _ _ hp]
 unfold Ql
 rw[e2,Ta (Ze B x y m k),Tz (x / B^k+y / B^k*m),Tz (x / B^k),Nat.mul_mod (y / B^k) m,Tz (x / B^k % B+y / B^k % B*m),
  Tz (x / B^k % B) (y / B^k % B*m),Nat.mod_mod,Nat.mul_mod (y / B^k % B) m,Nat.mod_mod]
def nd(k v:Nat): Nat:=if v=0 then 0 else Nat.log2 v / k+1
theorem Gk(k:Nat): nd k 0=0:=rfl
theorem Xj(k n:Nat): (2^k)^n=2^(k*n):=(Sd 2 k n).symm
theorem Kb{k:Nat}(hk:0<k)(v:Nat): v<(2^k)^nd k v:=by
 unfold nd
 split
 ·rename_i h;subst h;simp
 ·rename_i h
  rw[Xj]
  refine(Nat.log2_lt h).1 ?_
  have:=Nat.lt_div_mul_add (a:=Nat.log2 v) hk
  rw[Re,Si,Lh];omega
theorem CX{k:Nat}(v:Nat)(h:v≠0): (2^k)^(nd k v-1)≤v:=by
 unfold nd
 rw[if_neg h,Tf,Xj]
 refine(Nat.le_log2 h).1 ?_
 rw[Lh];exact Nat.div_mul_le_self _ _
theorem QU{k n v:Nat}(hk:0<k)(h:v<(2^k)^n): nd k v≤n:=by
 by_cases h0:v=0
 ·subst h0;simp[Gk]
 ·have h1:=CX (k:=k) v h0
  have h2:1<2^k:=Nat.one_lt_two_pow (by omega)
  have h3:=(Ts h2).1 (Lu h1 h)
  omega
theorem Y8{k v:Nat}(h:v≠0): 0<nd k v:=by unfold nd;rw[if_neg h];exact S9 _
theorem mG{k n v:Nat}(hk:0<k)(h:(2^k)^n≤v): n<nd k v:=by
 have h1:=Kb hk v
 have h2:1<2^k:=Nat.one_lt_two_pow (by omega)
 exact(Ts h2).1 (Lu h h1)
theorem FK{k n v:Nat}(hk:0<k)(h:v<(2^k)^n)(h':0<n→(2^k)^(n-1)≤v): nd k v=n:=by
 have h1:=QU hk h
 rcases Ss n with h0|h0
 ·omega
 ·have:=mG hk (h' h0)
  omega
theorem JS{k u v:Nat}(hk:0<k)(h:u≤v): nd k u≤nd k v :=
 QU hk (Lu h (Kb hk v))
theorem fX{k v:Nat}(hk:0<k)(h:v≠0): Ql (2^k) v (nd k v-1)≠0:=by
 have h1:=CX (k:=k) v h
 have h2:=Kb hk v
 have hp:=Y8 (k:=k) h
 unfold Ql
 have e:(2^k)^nd k v=2^k*(2^k)^(nd k v-1):=by
  rw[← Nat.pow_succ'];congr 1;omega
 have hq:0<(2^k)^(nd k v-1):=Rq (Lq k)
 have hlt:v / (2^k)^(nd k v-1)<2^k:=(Li hq).2 (by rw[← e];exact h2)
 rw[Lz hlt]
 have:=Nat.div_pos h1 hq
 omega
theorem Vq{k n m v:Nat}(hk:0<k)(h:v<(2^k)^n)(hmn:m≤n)(hz:∀j,m≤j→j<n→Ql (2^k) v j=0)(ht:0<m→Ql (2^k) v (m-1)≠0): nd k v=m:=by
 have hB:=Lq k
 have hv:v<(2^k)^m:=by
  have e:v=v % (2^k)^m:=by
   refine Vk h (Lb (Ly _ (Rq hB)) (Le hB hmn)) fun j hj=>?_
   by_cases hjm:j<m
   ·rw[JY hjm]
   ·rw[hz j (by omega) hj,Yu hB (Ly _ (Rq hB)) (by omega)]
  rw[e];exact Ly _ (Rq hB)
 refine FK hk hv fun h0=>?_
 apply Se
 intro hlt
 exact ht h0 (Hu hlt)
theorem Ae{k u v:Nat}(hk:0<k)(h:nd k u<nd k v): u<v:=by
 apply Tr
 intro hle
 have:=JS hk hle
 omega
theorem BA{B u v k n:Nat}(hB:0<B)(hu:u<B^n)(hv:v<B^n)(_hkn:k<n)(he:∀j,k<j→j<n→Ql B u j=Ql B v j)(hd:Ql B u k<Ql B v k): u<v:=by
 have e:u / B^(k+1)=v / B^(k+1):=by
  refine Vk (n:=n) (Lu (Rl _ _) hu) (Lu (Rl _ _) hv) fun j hj=>?_
  rw[JA,JA]
  by_cases hj2:k+1+j<n
  ·exact he _ (by omega) hj2
  ·rw[Yu hB hu (by omega),Yu hB hv (by omega)]
 rw[Hw B u k,Hw B v k,e]
 have hp:=Nat.pow_pos (n:=k) hB
 have h1:=Ly u hp
 have h2:B^k*(Ql B u k+B*(v / B^(k+1))+1)≤B^k*(Ql B v k+B*(v / B^(k+1))):=Lt _ (by omega)
 rw[Re _ _ 1,Si]at h2
 generalize u % B^k=p at *
 generalize v % B^k=q at *
 generalize B^k*(Ql B u k+B*(v / B^(k+1)))=r at *
 generalize B^k*(Ql B v k+B*(v / B^(k+1)))=s at *
 omega
def ZS(l:List UInt8): Nat:=l.foldl (fun a c=>a*256+c.toNat) 0
theorem M5{α:Type}{motive:List α→Prop}(nil:motive [])(Vd:∀l a,motive l→motive (l++[a])): ∀l:List α,motive l.reverse:=by
 intro l
 induction l with
 | nil=>exact nil
 | cons a l ih=>rw[List.reverse_cons];exact Vd _ _ ih
theorem Px{α:Type}{motive:List α→Prop}(l:List α)(nil:motive [])(Vd:∀l a,motive l→motive (l++[a])): motive l:=by
 have:=M5 nil Vd l.reverse
 rwa [List.reverse_reverse]at this
theorem Fg(l:List UInt8)(c:UInt8): ZS (l++[c])=ZS l*256+c.toNat:=by simp[ZS,List.foldl_append]
theorem DQ(l:List UInt8): ZS l<256^l.length:=by
 induction l using Px with
 | nil=>decide
 | Vd l c ih =>
  rw[Fg,Lg,List.length_singleton,Lx]
  have:=c.toNat_lt
  omega
theorem K9(l:List UInt8)(i:Nat)(h:i<l.length): Ql 256 (ZS l) i=(l[l.length-1-i]'(by omega)).toNat:=by
 induction l using Px generalizing i with
 | nil=>simp at h
 | Vd l c ih =>
  have hc:=c.toNat_lt
  rw[Fg]
  rcases i with _|i
  ·simp[Ql]
  ·have e:Ql 256 (ZS l*256+c.toNat) (i+1)=Ql 256 (ZS l) i:=by
    unfold Ql
    rw[Nat.pow_succ',← R4]
    congr 2
    omega
   have hi:i<l.length:=by simpa using h
   rw[e,ih i hi]
   congr 1
   rw[List.getElem_append_left (by simp;omega)]
   congr 1
   simp only[Lg,List.length_singleton];omega
theorem aY{u q e d f:Nat}(hu:u<LB^q*2^e)(hd:d<2^f)(hef:e+f≤64)(j:Nat):
  Ql LB (u+LB^q*(2^e*d)) j=if j=q then Ql LB u q ||| (d*2^e)else Ql LB u j:=by
 have hp:=Nat.pow_pos (n:=q) Qu
 have h0:=Sh u (LB^q)
 have hlo:=Ly u hp
 have hh:u / LB^q<2^e:=(Li hp).2 (by rw[Lh];exact hu)
 generalize u % LB^q=lo at *
 generalize u / LB^q=h at *
 have h64:2^e*2^f≤LB:=by rw[Xn,← Ll];exact Le (by decide) hef
 have hle:2^e≤LB:=L8 (S5 _ (Lq f)) h64
 have hsum:h+2^e*d<LB:=by
  have:2^e*(d+1)≤2^e*2^f:=Lt _ hd
  rw[Re,Si]at this
  omega
 have e1:u+LB^q*(2^e*d)=lo+LB^q*(h+2^e*d):=by rw[Re,← h0];omega
 rw[e1,GH Qu hlo hsum,← h0,GH Qu hlo (Lb hh hle),GH Qu hlo (Lb hh hle)]
 by_cases hj:j=q
 ·subst hj
  simp only[Nat.lt_irrefl,if_false,if_true]
  rw[Nat.or_comm,Lh d,← Nat.two_pow_add_eq_or_of_lt hh d];omega
 ·by_cases hj2:j<q
  ·simp[hj,hj2]
  ·simp[hj,hj2]
theorem dl(V k j:Nat): Ql LB (V % 256^(k+1)) j=if j=k / 8 then Ql LB (V % 256^k) (k / 8) ||| (Ql 256 V k*2^(k % 8*8))else Ql LB (V % 256^k) j:=by
 have e:256^k=LB^(k / 8)*2^(k % 8*8):=by
  rw[Xn,show 256=2^8 from rfl,← Sd,← Sd,← Ll];congr 1;omega
 have h:=aY (u:=V % 256^k) (q:=k / 8) (e:=k % 8*8) (d:=Ql 256 V k) (f:=8) (by rw[← e];exact Ly _ (Rq (by decide))) (Q8 (B:=256) (by decide) _ _) (by omega) j
 rw[← h,YP,e,Lw]
theorem Nj{d r:Nat}(hd:d<256)(hr:r<8): d*2^(r*8)<LB:=by
 have h1:d*2^(r*8)<2^8*2^(r*8):=R9 hd (Lq _)
 rw[← Ll]at h1
 exact Lb h1 (by rw[Xn];exact Le (by decide) (by omega))
theorem cW{m v:Nat}(h:v / 2^m≠0): nd 1 v=m+nd 1 (v / 2^m):=by
 have h1:=Kb (k:=1) (by decide) (v / 2^m)
 have h2:=CX (k:=1) (v / 2^m) h
 have h3:=Y8 (k:=1) h
 have hp:=Lq m
 simp only[Rn]at h1 h2
 refine FK (k:=1) (by decide) ?_ (fun _=>?_)
 ·rw[Rn,Ll,Lh]
  exact(Li hp).1 h1
 ·rw[Rn,show m+nd 1 (v / 2^m)-1=m+(nd 1 (v / 2^m)-1)by omega,Ll,Lh]
  exact(Sq hp).1 h2
theorem BF(x:Nat)(hx:x<2^64): Lib.bitLen x=nd 1 x:=by
 by_cases h0:x=0
 ·subst h0;decide
 ·have h1:=Kb (k:=1) (by decide) x
  have h2:=CX (k:=1) x h0
  have h3:=Y8 (k:=1) h0
  have h4:nd 1 x≤64:=QU (by decide) (by simpa using hx)
  simp only[Rn]at h1 h2
  have h5:=Lib.bitLen_le x (nd 1 x) h4 h1
  have h6:=Lib.bitLen_shift _ x h2 hx
  have h7:x / 2^(nd 1 x-1)≠0:=by
   have:=Nat.div_pos h2 (Lq _)
   omega
  have h8:=Lib.bitLen_half _ h7 (Lu (Rl _ _) hx)
  omega
theorem PN{v:Nat}(h:v≠0): nd 1 v=64*(nd 64 v-1)+nd 1 (Ql LB v (nd 64 v-1)):=by
 have h1:=Kb (k:=64) (by decide) v
 have h2:=CX (k:=64) v h
 have h3:=Y8 (k:=64) h
 have e:Ql LB v (nd 64 v-1)=v / 2^(64*(nd 64 v-1)):=by
  unfold Ql
  rw[Xn,Xj]
  refine Lz ?_
  rw[Li (Lq _),← Ll]
  rw[Xj]at h1
  rwa [show 64+64*(nd 64 v-1)=64*nd 64 v by omega]
 rw[e]
 refine cW ?_
 rw[Xj]at h2
 have:=Nat.div_pos h2 (Lq _)
 omega
theorem My(v:Nat): (nd 1 v+7) / 8=nd 8 v:=by
 by_cases h:v=0
 ·subst h;simp[Gk]
 ·unfold nd
  rw[if_neg h,if_neg h]
  omega
theorem Nu(v i:Nat): Ql LB v (i / 8) / 2^(i % 8*8) % 256=Ql 256 v i:=by
 unfold Ql
 have e:256^i=LB^(i / 8)*2^(i % 8*8):=by
  rw[Xn,show 256=2^8 from rfl,← Sd,← Sd,← Ll];congr 1;omega
 rw[e,← R4]
 generalize v / LB^(i / 8)=x
 have h8:i % 8<8:=Ly _ (by decide)
 generalize i % 8=r at *
 have e2:LB=2^(r*8)*(256*2^(64-8-r*8)):=by
  rw[Xn,show 256=2^8 from rfl,← Ll,← Ll];congr 1;omega
 rw[e2,Tl,Nat.mod_mul_right_mod]
def YA(v:Nat): List UInt8:=(List.range (nd 8 v)).map fun j=>UInt8.ofNat (Ql 256 v (nd 8 v-1-j))
def Qx(v:Nat): ByteArray:=⟨(YA v).toArray⟩
def YM(u v:Nat): Int:=if u<v then -1 else if u=v then 0 else 1
theorem BY{d s:Nat}(hs:s≤64): d*2^s % LB=d % 2^(64-s)*2^s:=by
 have e:LB=2^(64-s)*2^s:=by rw[Xn,← Ll];congr 1;omega
 rw[e,Nat.mul_mod_mul_right]
theorem lm{u at_ d s:Nat}(hu:u<LB^at_*2^s)(hd:d<LB)(hs:s<64)(j:Nat):
  Ql LB (u+LB^at_*(2^s*d)) j=if j=at_ then Ql LB u at_ ||| (d*2^s % LB)else if j=at_+1 then d / 2^(64-s)else Ql LB u j:=by
 have hp:=Nat.pow_pos (n:=at_) Qu
 have e1:2^s*d=2^s*(d % 2^(64-s))+LB*(d / 2^(64-s)):=by
  have h:=Sh d (2^(64-s))
  have e:LB=2^s*2^(64-s):=by rw[Xn,← Ll];congr 1;omega
  rw[e,Lw,← Re,h]
 have hlow:d % 2^(64-s)<2^(64-s):=Ly _ (Lq _)
 have h1:=fun j=>aY (u:=u) (q:=at_) (e:=s) (d:=d % 2^(64-s)) (f:=64-s) hu hlow (by omega) j
 have hU:u+LB^at_*(2^s*(d % 2^(64-s)))<LB^(at_+1):=by
  have e:LB=2^s*2^(64-s):=by rw[Xn,← Ll];congr 1;omega
  rw[Lx]
  have:LB^at_*(2^s*(d % 2^(64-s)+1))≤LB^at_*LB:=Lt _ (by rw[e];exact Lt _ hlow)
  rw[Re,Re,Si]at this
  omega
 have hhi:d / 2^(64-s)<LB:=Lu (Rl _ _) hd
 rw[e1,Re,← Sb,← Lw (LB^at_) LB,← Lx,GH Qu hU hhi,h1,BY (by omega)]
 by_cases ha:j=at_
 ·subst ha;simp
 ·by_cases hb:j=at_+1
  ·subst hb;simp
  ·by_cases hc:j<at_+1
   ·simp[ha,hb,hc]
   ·simp only[ha,hb,hc,if_false]
    rw[Yu (n:=at_+1) Qu ?_ (by omega)]
    rw[Lx]
    refine Lb hu (Lt _ ?_)
    rw[Xn];exact Le (by decide) (by omega)
theorem ed(v q s i:Nat)(hs:s<64): Ql LB (v / 2^(64*q+s)) i=(Ql LB v (q+i) / 2^s) ||| (Ql LB v (q+i+1)*2^(64-s) % LB):=by
 have e:LB=2^s*2^(64-s):=by rw[Xn,← Ll];congr 1;omega
 have e1:v / 2^(64*q+s) / LB^i=v / LB^(q+i) / 2^s:=by
  rw[R4,R4]
  congr 1
  rw[Xn,Xj,Xj,← Ll,← Ll];congr 1;omega
 have e2:Ql LB v (q+i+1)=v / LB^(q+i) / LB % LB:=by unfold Ql;rw[Lx,R4]
 have e3:Ql LB v (q+i)=v / LB^(q+i) % LB:=rfl
 unfold Ql at *
 rw[e1,e2,e3]
 generalize v / LB^(q+i)=y
 have h:=Sh y LB
 have ha:y % LB<LB:=Ly _ Qu
 generalize y % LB=a at *
 generalize y / LB=z at *
 rw[← h,BY (by omega),show 64-(64-s)=s by omega]
 have h1:(a+LB*z) / 2^s=a / 2^s+2^(64-s)*z:=by
  rw[e,Lw,Ru _ _ (Lq s)]
 have h2:a / 2^s<2^(64-s):=(Li (Lq s)).2 (by rw[Lh,← e];exact ha)
 rw[h1]
 have h3:(a / 2^s+2^(64-s)*z) % LB=2^(64-s)*(z % 2^s)+a / 2^s:=by
  rw[e,Lh (2^s) (2^(64-s)),Nat.mod_mul,T9,Lz h2,Ru _ _ (Lq _),Rz h2,Ld]
  omega
 rw[h3,Nat.two_pow_add_eq_or_of_lt h2,Nat.or_comm,Lh (2^(64-s)),Nat.mod_mod_of_dvd z (Nat.pow_dvd_pow 2 (by omega:s≤64) |> fun h=>by rw[Xn];exact h)]
theorem CG{B X Z i j:Nat}(h:j<i): Ql B (X+B^i*Z) j=Ql B X j:=by
 rw[← JY h,T9,JY h]
theorem CV{B X Z i k:Nat}(hB:0<B): Ql B (X+B^i*Z) (i+k)=Ql B (X / B^i+Z) k:=by
 rw[← JA,Ru _ _ (Rq hB)]
theorem jg(l:List UInt8): nd 64 (ZS l)≤(l.length+7) / 8:=by
 refine QU (by decide) (Lb (DQ l) ?_)
 rw[Xj,show 256=2^8 from rfl,← Sd]
 exact Le (by decide) (by omega)
theorem cmpI_lt{u v:Nat}: YM u v<0↔u<v:=by unfold YM;split<;>(try split)<;>omega
theorem cmpI_gt{u v:Nat}: 0<YM u v↔v<u:=by unfold YM;split<;>(try split)<;>omega
def Zf(f:Nat→Nat): Nat→Nat|0=>0|k+1=>Zf f k+f k
theorem Mc{f:Nat→Nat}{M:Nat}(h:∀j,f j<LB^M): ∀k,Zf f k<LB^(M+k)
 | 0=>by show 0<_;exact Rq Qu
 | k+1=>by
  have h1:=Mc h k
  have h2:=h k
  have h3:LB^M≤LB^(M+k):=Le Qu (by omega)
  show Zf f k+f k<LB^(M+k+1)
  rw[Lx]
  have h4:LB^(M+k)*2≤LB^(M+k)*LB:=Lt _ (by decide)
  omega
theorem gU{a b m n:Nat}(h:2^a*(2*m+1)=2^b*(2*n+1)): a=b:=by
 rcases Nat.lt_trichotomy a b with hl|hl|hl
 ·exfalso
  obtain⟨d,rfl⟩:∃d,b=a+(d+1):=⟨b-a-1,by omega⟩
  rw[Ll,Lw]at h
  have h2:=Nat.eq_of_mul_eq_mul_left (Lq a) h
  rw[Lx,Lh (2^d) 2,Lw]at h2
  omega
 ·exact hl
 ·exfalso
  obtain⟨d,rfl⟩:∃d,a=b+(d+1):=⟨a-b-1,by omega⟩
  rw[Ll,Lw]at h
  have h2:=Nat.eq_of_mul_eq_mul_left (Lq b) h
  rw[Lx,Lh (2^d) 2,Lw]at h2
  omega
def tz(v:Nat): Nat:=if v=0 then 0 else Lib.ctzFrom v v
theorem DP{v:Nat}(h:v≠0): ∃m,v=2^tz v*(2*m+1):=by
 obtain⟨m,hm,_⟩:=Lib.ctzFrom_spec v v (by omega) Nat.lt_two_pow_self
 exact⟨m,by unfold tz;rw[if_neg h];exact hm⟩
theorem jo{v k m:Nat}(h:v=2^k*(2*m+1)): tz v=k:=by
 have h0:v≠0:=by have:=Lq k;rw[h];exact Nat.ne_of_gt (Ub this (by omega))
 obtain⟨n,hn⟩:=DP h0
 exact gU (hn.symm.trans h)
theorem kt{x:Nat}(h0:x≠0)(hx:x<2^64): Lib.ctz 64 x=tz x:=by
 obtain⟨m,hm,_⟩:=Lib.ctzFrom_spec 64 x (by omega) hx
 unfold Lib.ctz
 rw[if_neg h0]
 exact(jo hm).symm
theorem fw{v i:Nat}(hz:v % LB^i=0)(hd:Ql LB v i≠0): tz v=64*i+tz (Ql LB v i):=by
 obtain⟨m,hm⟩:=DP hd
 have ht:tz (Ql LB v i)<64:=by
  have h1:=Q8 Qu v i
  apply Tr
  intro hle
  have h2:2^64≤2^tz (Ql LB v i):=Le (by decide) hle
  have h3:2^tz (Ql LB v i)≤Ql LB v i:=by
   conv=>rhs;rw[hm]
   exact S5 _ (by omega)
  have h4:=Xn
  omega
 have h:=Hw LB v i
 rw[hz,Ld]at h
 generalize tz (Ql LB v i)=k at *
 have e:LB=2^k*(2*2^(63-k)):=by rw[Xn,← Nat.pow_succ',← Ll];congr 1;omega
 refine jo (m:=m+2^(63-k)*(v / LB^(i+1))) ?_
 rw[Ll,← Xj,← Xn,Lw]
 conv=>lhs;rw[h]
 congr 1
 rw[hm]
 conv=>lhs;rhs;lhs;rw[e]
 rw[Lw,← Re]
 congr 1
 rw[Re,Lw]
 omega
theorem Cv(l:List UInt8): ZS (0::l)=ZS l:=by simp[ZS]
theorem Xs(v:Nat): (YA v).length=nd 8 v:=by simp[YA]
theorem Ah(v:Nat): ZS (YA v)=v:=by
 have hlen:=Xs v
 refine Vk (B:=256) (n:=nd 8 v) (by have:=DQ (YA v);rwa [hlen]at this) (Kb (k:=8) (by decide) v) fun j hj=>?_
 rw[K9 _ _ (by omega)]
 simp only[YA,Su,Tg,Ri,S7]
 rw[show nd 8 v-1-(nd 8 v-1-j)=j by omega]
 have:=Q8 (B:=256) (by decide) v j
 simp;omega
theorem Bt(v:Nat): ZS (Qx v).data.toList=v:=by show ZS (YA v)=v;exact Ah v
theorem TC{l:List UInt8}(h:∀c,l.head?=some c→c≠0): YA (ZS l)=l:=by
 have hn:nd 8 (ZS l)=l.length:=by
  refine FK (k:=8) (by decide) (DQ l) fun h0=>?_
  rcases l with _|⟨c,l⟩
  ·simp at h0
  ·have hc:c≠0:=h c rfl
   have h1:=K9 (c::l) l.length (by simp)
   simp at h1
   have hcn:c.toNat≠0:=fun e=>hc (by rw[← UInt8.toNat_inj];simpa using e)
   show 256^(l.length+1-1)≤_
   rw[Tf]
   apply Se
   intro hlt
   rw[Hu hlt]at h1
   exact hcn h1.symm
 apply List.ext_getElem
 ·rw[Xs,hn]
 ·intro i h1 h2
  simp only[YA,Su,Tg]
  rw[hn,K9 l _ (by omega)]
  have e:∀j (hj:j<l.length),j=i→l[j]'hj=l[i]'h2:=fun j hj e=>by subst e;rfl
  rw[e _ _ (by omega)]
  simp
theorem BP(l:List UInt8): YA (ZS l)=l.dropWhile (·==0):=by
 induction l with
 | nil=>rfl
 | cons c l ih =>
  by_cases hc:c=0
  ·subst hc;rw[Cv,ih];simp
  ·rw[List.dropWhile_cons_of_neg (by simpa using hc)]
   exact TC fun d hd=>by simp at hd;subst hd;exact hc
theorem Gn(v:Nat): (Qx v).size=nd 8 v:=by show(YA v).toArray.size=_;simp[Xs]
theorem X8(v:Nat): v<LB^nd 64 v:=Kb (k:=64) (by decide) v
def Rd(w:World)(A:Option Addr)(n:Nat)(f:Nat→Value): Prop:=0<n→∃b off,A=some ⟨b,off,none⟩∧∀j,j<n→w.cell? ⟨b,off+j,none⟩=some (f j)
def Off(A:Option Addr)(g:Nat): Prop:=∀a,A=some a→a.block≠g
def Cel(w:World)(g:Nat)(t:TypeId)(T:Nat)(f:Nat→Value): Prop:=∃cs:Array Value,w.heap[g]?=some (.cells cs t (0,0))∧cs.size=T∧∀j,j<T→cs[j]?=some (f j)
def G8(o n:Nat)(h f:Nat→Value)(j:Nat): Value:=if o≤j∧j<o+n then h (j-o)else f j
theorem BV{o n i:Nat}{h f:Nat→Value}(hi:i<n): G8 o n h f (o+i)=h i:=by unfold G8;rw[if_pos ⟨by omega,by omega⟩,S6]
theorem J4{o n:Nat}{h h' f:Nat→Value}(hh:∀i,i<n→h i=h' i)(j:Nat): G8 o n h f j=G8 o n h' f j:=by
 unfold G8;split
 ·exact hh _ (by omega)
 ·rfl
theorem GM{o n i:Nat}{h h' f:Nat→Value}{u:Value}(hi:i<n)(hu:h' i=u)(hh:∀j,j<n→j≠i→h j=h' j)(j:Nat): (if j=o+i then u else G8 o n h f j)=G8 o n h' f j:=by
 by_cases e:j=o+i
 ·subst e;rw[if_pos rfl,BV hi,hu]
 ·rw[if_neg e];unfold G8;split
  ·exact hh _ (by omega) (by omega)
  ·rfl
theorem Ky{w:World}{p:Addr}{u:Value}(h:w.cell? p=some u): p.block<w.heap.size:=by
 unfold World.cell? at h
 split at h
 ·rename_i hh
  rcases Ra p.block w.heap.size with hlt|hge
  ·exact hlt
  ·rw[Array.getElem?_eq_none hge]at hh;cases hh
 ·cases h
section
variable {w w':World} {A:Option Addr} {n n' g:Nat} {t:TypeId} {T:Nat} {f f':Nat→Value}
theorem Rd.of_le(h:Rd w A n f)(hn:n'≤n): Rd w A n' f:=fun h0=>by
 obtain⟨b,off,e,hc⟩:=h (by omega)
 exact⟨b,off,e,fun j hj=>hc j (by omega)⟩
theorem Rd.congr(h:Rd w A n f)(hf:∀j,j<n→f j=f' j): Rd w A n f':=fun h0=>by
 obtain⟨b,off,e,hc⟩:=h h0
 exact⟨b,off,e,fun j hj=>by rw[hc j hj,hf j hj]⟩
theorem Rd.nil_:Rd w A 0 f:=fun h=>absurd h (by omega)
theorem Rd.keep(h:Rd w A n f)(hk:∀p:Addr,p.block<w.heap.size→(∀a,A=some a→p.block=a.block)→w'.cell? p=w.cell? p): Rd w' A n f:=fun h0=>by
 obtain⟨b,off,rfl,hc⟩:=h h0
 exact⟨b,off,rfl,fun j hj=>by rw[hk _ (Ky (hc j hj)) (fun a ha=>by injection ha with ha;subst ha;rfl)];exact hc j hj⟩
theorem Rd.below(h:Rd w A n f)(hb:Below w.heap.size w w'): Rd w' A n f:=h.keep fun _ hp _=>hb.cell hp
theorem Rd.drew(h:Rd w A n f): Rd w.drew A n f:=h
theorem Rd.drewN(h:Rd w A n f)(k:Nat): Rd (w.drewN k) A n f:=h
theorem Rd.alloc(h:Rd w A n f)(o:Obj): Rd (w.alloc o) A n f:=h.keep fun p hp _=>World.cell?_alloc_lt w o p hp
theorem Rd.grown(h:Rd w A n f)(hg:w.grownBy w' (some g))(ho:Off A g): Rd w' A n f:=fun h0=>by
 obtain⟨b,off,rfl,hc⟩:=h h0
 refine⟨b,off,rfl,fun j hj=>?_⟩
 have hlt:=Ky (hc j hj)
 exact(World.cell?_of_block (a:=⟨b,off+j,none⟩) (hg.block b hlt (fun e=>ho _ rfl (by injection e)))).trans (hc j hj)
theorem Cel.lt(h:Cel w g t T f): g<w.heap.size:=by
 obtain⟨cs,hh,_,_⟩:=h
 rcases Ra g w.heap.size with hlt|hge
 ·exact hlt
 ·rw[Array.getElem?_eq_none hge]at hh;cases hh
theorem Cel.cell(h:Cel w g t T f){i:Nat}(hi:i<T): w.cell? ⟨g,i,none⟩=some (f i):=by
 obtain⟨cs,hh,hs,hc⟩:=h
 rw[cell_of_row w g i cs t (0,0) hh];exact hc i hi
theorem Cel.frozen(h:Cel w g t T f)(i:Nat): w.frozen? ⟨g,i,none⟩=false:=by
 obtain⟨cs,hh,hs,hc⟩:=h
 simp[World.frozen?,hh]
theorem Cel.congr(h:Cel w g t T f)(hf:∀j,j<T→f j=f' j): Cel w g t T f':=by
 obtain⟨cs,hh,hs,hc⟩:=h
 exact⟨cs,hh,hs,fun j hj=>by rw[hc j hj,hf j hj]⟩
theorem Cel.drew(h:Cel w g t T f): Cel w.drew g t T f:=h
theorem Cel.drewN(h:Cel w g t T f)(n:Nat): Cel (w.drewN n) g t T f:=h
theorem Cel.below{B:Nat}(h:Cel w g t T f)(hb:Below B w w')(hg:g<B): Cel w' g t T f:=by
 obtain⟨cs,hh,hs,hc⟩:=h
 exact⟨cs,(hb.block g hg).trans hh,hs,hc⟩
theorem Cel.bel(h:Cel w g t T f)(hb:Below w.heap.size w w'): Cel w' g t T f:=h.below hb h.lt
theorem Cel.alloc(h:Cel w g t T f)(o:Obj): Cel (w.alloc o) g t T f:=by
 have:=h.lt
 obtain⟨cs,hh,hs,hc⟩:=h
 exact⟨cs,(Below.heap_alloc w o g this).trans hh,hs,hc⟩
theorem Cel.grown{row:Option Nat}(h:Cel w g t T f)(hb:w.grownBy w' row)(hg:some g≠row): Cel w' g t T f:=by
 have:=h.lt
 obtain⟨cs,hh,hs,hc⟩:=h
 exact⟨cs,(hb.block g this hg).trans hh,hs,hc⟩
theorem Cel.set_(h:Cel w g t T f)(i:Nat)(u:Value): Cel (w.setCell ⟨g,i,none⟩ u) g t T (fun j=>if j=i then u else f j):=by
 obtain⟨cs,hh,hs,hc⟩:=h
 refine⟨cs.setIfInBounds i u,?_,by simpa using hs,fun j hj=>?_⟩
 ·simp[World.setCell,Array.getElem?_modify,hh]
 ·rw[Array.getElem?_setIfInBounds]
  by_cases e:i=j
  ·subst e;simp[hs,hj]
  ·have e':¬ j=i:=fun h=>e h.symm
   simp only[if_neg e,if_neg e',hc j hj]
theorem Cel.far(h:Cel w g t T f){p:Addr}(hp:g≠p.block)(u:Value): Cel (w.setCell p u) g t T f:=by
 obtain⟨cs,hh,hs,hc⟩:=h
 exact⟨cs,(Sv w p u g hp).trans hh,hs,hc⟩
theorem Cel.new(w:World)(t:TypeId)(cs:Array Value): Cel (w.alloc (.cells cs t)) w.heap.size t cs.size (fun j=>cs.getD j undef) :=
 ⟨cs,heap_alloc_new w _,rfl,fun j hj=>by simp[Array.getD,hj]⟩
theorem Cel.rd(h:Cel w g t T f){o n:Nat}(hn:o+n≤T): Rd w (some ⟨g,o,none⟩) n (fun j=>f (o+j)):=fun _=>⟨g,o,rfl,fun j hj=>h.cell (by omega)⟩
theorem Off.some_{b o:Nat}(h:b≠g): Off (some ⟨b,o,none⟩) g:=fun a ha=>by injection ha with ha;subst ha;exact h
theorem JB{a b c:World}{row:Option Nat}(h:a.grownBy b row)(k:b.grownBy c row): a.grownBy c row :=
 ⟨k.os.trans h.os,k.tape.trans h.tape,k.output.trans h.output,L8 h.size k.size,fun i hi hne=>(k.block i (Lb hi h.size) hne).trans (h.block i hi hne)⟩
theorem GZ{a b:World}{row:Option Nat}(h:a.grownBy b row)(k:Nat): a.grownBy (b.drewN k) row:=⟨h.os,h.tape,h.output,h.size,h.block⟩
theorem grownBy_alloc{a w:World}{row:Option Nat}(h:a.grownBy w row)(o:Obj): a.grownBy (w.alloc o) row :=
 ⟨h.os,h.tape,h.output,L8 h.size (by simp),fun i hi hne=>(Below.heap_alloc w o i (Lb hi h.size)).trans (h.block i hi hne)⟩
theorem Ym{a w:World}(h:a.grownBy w (some g)){p:Addr}(hp:p.block=g∨a.heap.size≤p.block)(u:Value): a.grownBy (w.setCell p u) (some g) :=
 ⟨h.os,h.tape,h.output,by simpa [World.setCell]using h.size,fun i hi hne=>(Sv w p u i (by
  rintro rfl
  rcases hp with hp|hp
  ·exact hne (by rw[hp])
  ·omega)).trans (h.block i hi hne)⟩
theorem KS{a w:World}(h:Below a.heap.size a w)(row:Option Nat): a.grownBy w row:=⟨h.os,h.tape,h.output,h.size,fun i hi _=>h.block i hi⟩
theorem G3{a w w1:World}{row:Option Nat}(h:a.grownBy w row)(k:Below w.heap.size w w1): a.grownBy w1 row:=JB h (KS k row)
theorem YC{a w w1:World}{B:Nat}(h:Below B a w)(k:w.grownBy w1 (some g))(hB:B≤w.heap.size)(hg:B≤g): Below B a w1:=h.grown k hB (fun i hi=>by injection hi with hi;omega)
theorem YO{B:Nat}{a w:World}(h:Below B a w)(n:Nat): Below B a (w.drewN n):=⟨h.os,h.tape,h.output,h.size,h.block⟩
theorem Qj{B:Nat}{a w w1:World}(h:Below B a w)(k:Below w.heap.size w w1)(hB:B≤w.heap.size): Below B a w1:=h.trans (k.mono hB)
end
section
variable {P:Program} {w:World} {ops:Array Oper} {rest:List Oper} {o:Oper} {a:Act} {Q:Exit→Act→World→Prop}
theorem Cel.made(w:World)(e:TypeId)(z:Value)(n:Nat): Cel (w.alloc (.cells (madeCells #[z] n) e)) w.heap.size e n (fun _=>z) :=
 ⟨madeCells #[z] n,heap_alloc_new w _,by simp[size_madeCells],fun j hj=>by
  have h:=toList_madeCells_one z n
  rw[← Array.getElem?_toList,h];simp[hj]⟩
theorem Jg{T:TypeId}(s:ByteArray)(h:P.underlying T=some .string)(k:IntKind)(i:Int)(j:Nat)(hi:i=(j:Int))(hj:j<s.size)(w:World):
  (Instr.index T (.string s) (.int k i)).run P w=.ok (.int .u8 ((s.data.toList[j]'(by simpa using hj)).toNat:Nat)) w:=by
 subst hi
 rw[run_index_string _ _ _ _ _ h,dif_pos ⟨by omega,by omega⟩]
 rfl
theorem SJ(l:List Int): ∀s:ByteArray,l.foldl (fun r n=>r.push (UInt8.ofNat n.toNat)) s=⟨(s.data.toList++l.map fun n=>UInt8.ofNat n.toNat).toArray⟩:=by
 induction l with
 | nil=>intro s;simp
 | cons n l ih =>
  intro s
  rw[List.foldl_cons,ih]
  simp[ByteArray.push]
theorem Q9(b off j:Nat): (⟨b,off,none⟩:Addr).add j=⟨b,off+j,none⟩:=by
 unfold Addr.add
 split
 ·rename_i h;subst h;rfl
 ·rfl
theorem Vm(src dst e:TypeId)(hs:P.underlying src=some (.slice e))(he:P.underlying e=some (.int .u8))(hd:P.underlying dst=some .string)(A:Option Addr)(n c:Nat)(f:Nat→Nat)(hr:Rd w A n fun j=>.int .u8 (f j:Nat)): (convert src dst (.slice A n c)).run P w=.ok (.string ⟨((List.range n).map fun j=>UInt8.ofNat (f j)).toArray⟩) w:=by
 rw[run_convert_bytes_string w src dst e A n c hs he hd]
 by_cases hn:n=0
 ·subst hn
  rcases A with _|a
  ·simp[Conv.bytesToString];rfl
  ·rw[run_bytesToString w a 0 c [] (by have:=run_loadCells (P:=P) (w:=w) a 0 (fun _=>undef) (fun j hj=>by omega);simpa using this)]
   rfl
 ·obtain⟨b,off,rfl,hc⟩:=hr (by omega)
  have hl:=run_loadCells (P:=P) (w:=w) ⟨b,off,none⟩ n (fun j=>.int .u8 (f j:Nat)) (fun j hj=>by rw[Q9];exact hc j hj)
  rw[run_bytesToString w _ n c ((List.range n).map fun j=>(f j:Int)) (by rw[hl];simp)]
  rw[SJ]
  simp
theorem ee(a c:Nat)(ci:Int)(hci:ci=(c:Int))(h:a*2^c<LB): IntKind.u64.wrap ((a:Int)*2^ci.toNat)=((a*2^c:Nat):Int):=by
 subst hci
 rw[YW]at h
 rw[IntKind.wrap_u64,Ro,show(2:Int)^c=((2^c:Nat):Int)by simp,← T3]
 omega
theorem DM(a c:Nat): IntKind.u64.wrap ((a:Int)*2^c)=((a*2^c % LB:Nat):Int):=by
 rw[IntKind.wrap_u64,show(2:Int)^c=((2^c:Nat):Int)by simp,← T3,YW]
 omega
theorem MV(a c:Nat): (a:Int) / 2^c=((a / 2^c:Nat):Int):=by
 rw[U5,Int.natCast_pow];rfl
theorem NY(a b:Nat)(ha:a<LB)(hb:b<LB): bits .or .u64 (a:Int) (b:Int)=((a ||| b:Nat):Int):=u64_or_nat a b ha hb
theorem Q1(hg:o.guard=none)(l c:Operand)(t:TypeId)(hop:o.op=Op.makeSlice t l c)(e:TypeId)(z:Value)(bytes:Nat)(h1:P.underlying t=some (.slice e))(hinfo:(P.info? e).map (fun i=>(i.zero,i.size,i.bytes))=some (some z,1,bytes))(hz1:z.cells=#[z])(kl kc:IntKind)(L C:Int)(n:Nat)(hl:a.eval l=.int kl L)(hc:a.eval c=.int kc C)(hL:L=(n:Int))(hC:C=(n:Int))(b2:bytes*n≤281474976710656)(b3:n≤9223372036854775807)(hK:∀w',Cel w' w.heap.size e n (fun _=>z)→Below w.heap.size w w'→w.heap.size<w'.heap.size→wpList P ops Q rest (a.put o.dst (.slice (some ⟨w.heap.size,0,none⟩) n n)) w'):
  wpList P ops Q (o::rest) a w:=by
 obtain⟨i,hi,hz,hsz,hby⟩:=info_parts hinfo
 refine wpList_plain hg fun K hK'=>?_
 have hrun:=run_make (P:=P) w t e i z h1 hi hz kl kc n n (by omega) (by omega) (by rw[hby];omega) (by omega)
 simp only[Ro,hsz,Si,hz1]at hrun
 subst hL
 subst hC
 unfold Oper.wp
 simp[execOp,hop,hl,hc,hrun,Result.andThen]
 exact hK' _ _ (hK _ (Cel.made w e z n) ((Below.refl _ w).alloc (L3 _) _) (by simp))
theorem Av(hgd:o.guard=none)(d s:Operand)(dT sT:TypeId)(ho:o.op=.call { callee:=.builtin .copy,args:=#[d,s],argTypes:=#[dT,sT] })(elem:TypeId)(hu:P.underlying dT=some (.slice elem))(hsz:(P.info? elem).map (·.size)=some 1)(dp sp:Option Addr)(dLen dCap sLen sCap:Nat)(hd:a.eval d=.slice dp dLen dCap)(hs:a.eval s=.slice sp sLen sCap)(g off T:Nat)(t:TypeId)(f fs:Nat→Value)(hg:Cel w g t T f)(m:Nat)(hn:m=Nat.min sLen dLen)(hdp:0<m→dp=some ⟨g,off,none⟩)(hr:Rd w sp m fs)(hfit:off+m≤T)(h1:∀j,(fs j).oneCell'=true)(h:∀w',Cel w' g t T (fun j=>if off≤j∧j<off+m then fs (j-off)else f j)→w.grownBy w' (some g)→wpList P ops Q rest (a.put o.dst (goInt m)) w'):
  wpList P ops Q (o::rest) a w:=by
 by_cases hm:m=0
 ·subst hm
  refine wpList_copy_nothing hgd d s dT sT ho elem hu hsz dp sp dLen dCap sLen sCap hd hs hn.symm ?_
  exact h w (hg.congr fun j _=>by rw[if_neg (by omega)]) (World.grownBy.refl w _)
 ·obtain⟨cs,hh,hcs,hf⟩:=hg
  have hm':0<m:=by omega
  obtain⟨b,o',rfl,hc⟩:=hr hm'
  obtain rfl:=hdp hm'
  have hl:cs.toList.length=T:=by simpa using hcs
  have hlen:((List.range m).map fs).length=m:=by simp
  refine wpList_copy_own hgd d s dT sT ho elem hu hsz g off dLen dCap _ sLen sCap hd hs cs t hh ((List.range m).map fs) (by simpa using hn) (fun j v hv=>?_) (by rw[hlen];omega)
   (fun v hv=>by obtain⟨j,_,rfl⟩:=R5.1 hv;exact h1 j) ?_
  ·by_cases hj:j<m
   ·have e:v=fs j:=by simp[hj]at hv;exact hv.symm
    subst e
    rw[← hc j hj]
    congr 1
    unfold Addr.add
    split
    ·rename_i h0;subst h0;rfl
    ·rfl
   ·simp[hj]at hv
  ·rw[show goInt ((List.range m).map fs).length=goInt m by simp]
   refine h _ ⟨_,setRow_heap w g _ _ t _ hh,by simp;omega,fun j hj=>?_⟩ ⟨rfl,rfl,rfl,by simp[World.setRow],fun i _ hne=>?_⟩
   ·have e:(cs.toList.take off).length=off:=by simp;omega
    simp only[List.getElem?_toArray]
    by_cases h1:j<off
    ·rw[List.getElem?_append_left (by omega),List.getElem?_take_of_lt h1,if_neg (by omega)]
     simpa using hf j hj
    ·rw[List.getElem?_append_right (by omega),e]
     by_cases h2:j<off+m
     ·rw[List.getElem?_append_left (by omega),if_pos ⟨by omega,h2⟩]
      have h3:j-off<m:=by omega
      simp[h3]
     ·rw[List.getElem?_append_right (by omega),if_neg (by omega),hlen]
      simp only[List.getElem?_drop]
      rw[show off+m+(j-off-m)=j by omega]
      simpa using hf j hj
   ·simp only[World.setRow,Array.getElem?_modify]
    rw[if_neg (fun e=>hne (by rw[e]))]
end
def Xv:Nat:=4294967296
theorem YB:Xv=4294967296:=rfl
structure Guess (u u1 y1 y0 q r:Nat):Prop where
 eq:q*y1+r=u
 ge:(u*Xv+u1) / (y1*Xv+y0)≤q
 rlt:r<Xv
 qle:q≤Xv+1
theorem Af{u u1 y1 y0:Nat}(h1:2147483648≤y1)(h2:y1<Xv)(h0:y0<Xv)(hu:u<y1*Xv+y0)(hu1:u1<Xv): Guess u u1 y1 y0 (u / y1) (u % y1):=by
 have hp:0<y1:=by omega
 have hm:=Ly u hp
 have he:=S8 u y1
 refine⟨by rw[Lh];exact he,?_,by omega,?_⟩
 ·apply Nat.le_of_lt_succ
  rw[Li (by have:0<y1*Xv:=Ub hp (by decide);omega)]
  have h3:(u / y1+1)*y1*Xv≤(u / y1+1)*(y1*Xv+y0):=by rw[Lw];exact Lt _ (by omega)
  have h4:u+1≤(u / y1+1)*y1:=by rw[Rv,To,Lh];omega
  have h5:(u+1)*Xv≤(u / y1+1)*y1*Xv:=Lo _ h4
  rw[Rv,To]at h5
  show _<(u / y1+1)*_
  omega
 ·rw[← Nat.lt_add_one_iff,Li hp]
  simp only[YB]at *
  omega
theorem Cg{u u1 y1 y0 q r:Nat}(g:Guess u u1 y1 y0 q r)(hy:0<y1*Xv+y0)(ht:q*y0≤Xv*r+u1): q=(u*Xv+u1) / (y1*Xv+y0):=by
 refine So ?_ g.ge
 rw[Sq hy,Re,← Lw]
 have h:=g.eq
 have h2:u*Xv=q*y1*Xv+r*Xv:=by rw[← h,Rv]
 rw[Lh Xv]at ht
 omega
theorem VC{u u1 y1 y0 q r:Nat}(g:Guess u u1 y1 y0 q r)(_h0:y0<Xv)(hu:u<y1*Xv+y0)(hu1:u1<Xv)(ht:Xv≤q∨Xv*r+u1<q*y0):
  0<q∧(u*Xv+u1) / (y1*Xv+y0)≤q-1∧(q-1)*y1+(r+y1)=u:=by
 have hy:0<y1*Xv+y0:=by omega
 have hq:(u*Xv+u1) / (y1*Xv+y0)<q:=by
  rcases ht with ht|ht
  ·refine Lb ?_ ht
   rw[Li hy]
   have:(u+1)*Xv≤Xv*(y1*Xv+y0):=by rw[Lh];exact Lt _ hu
   rw[Rv,To]at this
   omega
  ·rw[Li hy,Re,← Lw]
   have h2:u*Xv=q*y1*Xv+r*Xv:=by rw[← g.eq,Rv]
   rw[Lh Xv]at ht
   omega
 refine⟨Lu (L9 _) hq,Nat.le_sub_one_of_lt hq,?_⟩
 have hq0:0<q:=Lu (L9 _) hq
 clear hq
 have h:=g.eq
 obtain⟨p,rfl⟩:∃p,q=p+1:=⟨q-1,by omega⟩
 rw[Tf]
 rw[Rv]at h
 omega
theorem A8{u u1 y1 y0 q r:Nat}(g:Guess u u1 y1 y0 q r)(h0:y0<Xv)(hu:u<y1*Xv+y0)(hu1:u1<Xv)(ht:Xv≤q∨Xv*r+u1<q*y0)(hr:r+y1<Xv):
  Guess u u1 y1 y0 (q-1) (r+y1):=by
 obtain⟨_,h2,h3⟩:=VC g h0 hu hu1 ht
 exact⟨h3,h2,hr,by have:=g.qle;omega⟩
theorem Fx{u u1 y1 y0 q r:Nat}(g:Guess u u1 y1 y0 q r)(h0:y0<Xv)(hu:u<y1*Xv+y0)(hu1:u1<Xv)(ht:Xv≤q∨Xv*r+u1<q*y0)(hr:Xv≤r+y1):
  q-1=(u*Xv+u1) / (y1*Xv+y0):=by
 obtain⟨h1,h2,h3⟩:=VC g h0 hu hu1 ht
 refine So ?_ h2
 rw[Sq (by omega),Re,← Lw]
 have e:u*Xv=(q-1)*y1*Xv+(r+y1)*Xv:=by rw[← h3,Rv]
 have hq:=g.qle
 have h4:(q-1)*y0≤Xv*Xv:=Nat.mul_le_mul (by omega) (T6 h0)
 have h5:Xv*Xv≤(r+y1)*Xv:=Lo _ hr
 omega
theorem OD(u u1 u0 y:Nat)(hy:0<y): (u*Xv+u1) / y*Xv+((u*Xv+u1) % y*Xv+u0) / y=((u*Xv+u1)*Xv+u0) / y:=by
 have h:=S8 (u*Xv+u1) y
 generalize (u*Xv+u1) / y=t at *
 generalize (u*Xv+u1) % y=r at *
 rw[← h]
 have e:(y*t+r)*Xv+u0=(r*Xv+u0)+y*(t*Xv):=by rw[Rv,Lw];omega
 rw[e,Ru _ _ hy,Ta]
theorem F3{u u1 y q:Nat}(hq:q=(u*Xv+u1) / y)(hy:0<y)(hy2:y<LB):
  IntKind.u64.wrap (IntKind.u64.wrap (IntKind.u64.wrap ((u:Int)*4294967296)+(u1:Int))-IntKind.u64.wrap ((q:Int)*(y:Int)))=(((u*Xv+u1) % y:Nat):Int):=by
 have h:=S8 (u*Xv+u1) y
 have hr:=Ly (u*Xv+u1) hy
 rw[← hq]at h
 have e:((q:Int)*(y:Int))=((y*q:Nat):Int):=by rw[Lh,T3]
 rw[e]
 generalize y*q=p at *
 generalize (u*Xv+u1) % y=r at *
 simp only[IntKind.wrap_u64]
 rw[YB]at h
 rw[YW]at hy2
 omega
theorem Oe{y:Nat}(h:9223372036854775808≤y)(h2:y<LB): Lib.bitLen y=64:=by
 rw[BF y h2]
 exact FK (k:=1) (by decide) (by rw[Rn];exact h2) (fun _=>by rw[Rn];exact h)
theorem B0{u u1 y1 y0 q r:Nat}(g:Guess u u1 y1 y0 q r)(h1:y1<4294967296)(h0:y0<4294967296)(hu1:u1<4294967296):
  IntKind.u64.wrap ((r:Int)+(y1:Int))=((r+y1:Nat):Int)∧IntKind.u64.wrap (4294967296*(r:Int))=((Xv*r:Nat):Int)∧IntKind.u64.wrap (((Xv*r:Nat):Int)+(u1:Int))=((Xv*r+u1:Nat):Int) ∧
   (q<4294967296→IntKind.u64.wrap ((q:Int)*(y0:Int))=((q*y0:Nat):Int))∧(0<q→IntKind.u64.wrap ((q:Int)-1)=((q-1:Nat):Int)):=by
 have hr:=g.rlt
 have hq:=g.qle
 simp only[IntKind.wrap_u64]
 simp only[YB]at *
 refine⟨by omega,by omega,by omega,fun h=>?_,fun h=>by omega⟩
 have h2:q*y0≤4294967295*4294967295:=Nat.mul_le_mul (by omega) (by omega)
 rw[← T3]
 generalize q*y0=p at *
 omega
theorem WB{R by_ n top next bt:Nat}(hR:R=R % LB^n+LB^n*(next+LB*top))(hb:bt*LB^n≤by_)(hbt:0<bt): R / by_≤(top*LB+next) / bt:=by
 have hp:=Nat.pow_pos (n:=n) Qu
 have hm:=Ly R hp
 have hby:0<by_:=Lb (Ub hbt hp) hb
 rw[Sq hbt]
 apply Nat.le_of_lt_succ
 apply Nat.lt_of_mul_lt_mul_right (a:=LB^n)
 calc R / by_*bt*LB^n=R / by_*(bt*LB^n):=Lw _ _ _
  _≤R / by_*by_:=Lt _ hb
  _≤R:=Nat.div_mul_le_self _ _
  _<(top*LB+next).succ*LB^n:=by
   rw[Rr]
   conv=>lhs;rw[hR]
   rw[Lh (LB^n),Lh LB top,Ta next]
   omega
theorem RU{X Y at_ nb:Nat}(hnb:0<nb)(hX:X<Y*LB^(at_+1))(hY:LB^(nb-1)*9223372036854775808≤Y)(hY2:Y<LB^nb):
  X / LB^at_<Y*LB∧X / LB^at_<LB^(nb+1)∧9223372036854775808≤Ql LB Y (nb-1) ∧
   (Ql LB X (at_+nb)<Ql LB Y (nb-1)→X / LB^at_ / Y≤(Ql LB X (at_+nb)*LB+Ql LB X (at_+nb-1)) / Ql LB Y (nb-1)∧(Ql LB X (at_+nb)*LB+Ql LB X (at_+nb-1)) / Ql LB Y (nb-1)<LB) ∧
   X / LB^at_ / Y<LB∧0<Y:=by
 have hp:=Nat.pow_pos (n:=at_) Qu
 have hpn:=Nat.pow_pos (n:=nb-1) Qu
 have hY0:0<Y:=Lb (Ub hpn (by decide)) hY
 have h1:X / LB^at_<Y*LB:=by
  rw[Li hp,Lw,Lh LB,← Lx];exact hX
 have h2:X / LB^at_<LB^(nb+1):=Lb h1 (by rw[Lx];exact Lo _ (T6 hY2))
 have hbt:Ql LB Y (nb-1)=Y / LB^(nb-1):=by
  unfold Ql
  refine Lz ?_
  rw[Li hpn,Lh,← Lx,show(nb-1).succ=nb by omega];exact hY2
 have h3:9223372036854775808≤Ql LB Y (nb-1):=by
  rw[hbt,Sq hpn,Lh];exact hY
 refine⟨h1,h2,h3,fun hlt=>⟨?_,?_⟩,?_,hY0⟩
 ·have e1:Ql LB X (at_+nb)=Ql LB (X / LB^at_) (nb-1+1):=by rw[JA];congr 1;omega
  have e2:Ql LB X (at_+nb-1)=Ql LB (X / LB^at_) (nb-1):=by rw[JA];congr 1;omega
  rw[e1,e2]
  refine WB (n:=nb-1) (top:=Ql LB (X / LB^at_) (nb-1+1)) (next:=Ql LB (X / LB^at_) (nb-1)) ?_ ?_ (by omega)
  ·have hs:=Hw LB (X / LB^at_) (nb-1)
   have e3:X / LB^at_ / LB^(nb-1+1)=Ql LB (X / LB^at_) (nb-1+1):=by
    unfold Ql
    refine(Lz ?_).symm
    rw[Li (Rq Qu),Lh,← Lx,show(nb-1+1).succ=nb+1 by omega];exact h2
   rw[e3]at hs
   exact hs
  ·rw[hbt];exact Nat.div_mul_le_self _ _
 ·rw[Li (by omega)]
  have h4:=Q8 Qu X (at_+nb-1)
  have h5:(Ql LB X (at_+nb)+1)*LB≤Ql LB Y (nb-1)*LB:=Lo _ hlt
  rw[Rv,To]at h5
  rw[Lh LB]
  omega
 ·rw[Li hY0,Lh];exact h1
theorem eU{X at_ nb Z j:Nat}(hX:X<LB^(at_+nb+1))(hZ:Z≤X / LB^at_):
  Ql LB (X-LB^at_*Z) j=if at_≤j∧j<at_+(nb+1)then Ql LB (X / LB^at_-Z) (j-at_)else Ql LB X j:=by
 have e:X-LB^at_*Z=X % LB^at_+LB^at_*(X / LB^at_-Z):=by
  have h:=Sh X (LB^at_)
  have h2:LB^at_*Z≤LB^at_*(X / LB^at_):=Lt _ hZ
  rw[Nat.mul_sub]
  generalize X % LB^at_=a at *
  generalize LB^at_*(X / LB^at_)=b at *
  generalize LB^at_*Z=c at *
  omega
 have hlt:X % LB^at_<LB^at_:=Ly _ (Rq Qu)
 by_cases h:at_≤j∧j<at_+(nb+1)
 ·rw[if_pos h,e]
  obtain⟨i,rfl⟩:∃i,j=at_+i:=⟨j-at_,by omega⟩
  rw[CV Qu,Rz hlt,Ld,S6]
 ·rw[if_neg h]
  by_cases h2:j<at_
  ·rw[e,CG h2,JY h2]
  ·rw[Yu Qu hX (by omega),Yu Qu (Lu (U6 _ _) hX) (by omega)]
theorem OX{v:Nat}(h:v≠0):
  0<nd 1 (Ql LB v (nd 64 v-1))∧nd 1 (Ql LB v (nd 64 v-1))≤64∧LB^(nd 64 v-1)*9223372036854775808≤v*2^(64-nd 1 (Ql LB v (nd 64 v-1)))∧v*2^(64-nd 1 (Ql LB v (nd 64 v-1)))<LB^nd 64 v:=by
 have h0:Ql LB v (nd 64 v-1)≠0:=fX (k:=64) (by decide) h
 have h1:=Y8 (k:=1) h0
 have h2:nd 1 (Ql LB v (nd 64 v-1))≤64:=QU (by decide) (by rw[Rn];exact Q8 Qu _ _)
 have h3:=PN h
 have h4:=Kb (k:=1) (by decide) v
 have h5:=CX (k:=1) v h
 have h6:=Y8 (k:=64) h
 simp only[Rn]at h4 h5
 generalize nd 1 (Ql LB v (nd 64 v-1))=b at *
 rw[h3]at h4 h5
 refine⟨h1,h2,?_,?_⟩
 ·have e:LB^(nd 64 v-1)*9223372036854775808=2^(64*(nd 64 v-1)+b-1)*2^(64-b):=by
   rw[Xn,Xj,show 9223372036854775808=2^63 from rfl,← Ll,← Ll];congr 1;omega
  rw[e];exact Lo _ h5
 ·have e:LB^nd 64 v=2^(64*(nd 64 v-1)+b)*2^(64-b):=by
   rw[Xn,Xj,← Ll];congr 1;omega
  rw[e];exact R9 h4 (Lq _)
theorem BT(U Y p:Nat): U % (Y*LB^(p+1)) / LB^p / Y=Ql LB (U / Y) p:=by
 unfold Ql
 rw[R4,R4,Lh (LB^p),Lx,← Lw,Tl]
theorem Wi(U Y p:Nat): U % (Y*LB^(p+1))-LB^p*(Y*Ql LB (U / Y) p)=U % (Y*LB^p):=by
 have h:=Nat.mod_mod_of_dvd U (show Y*LB^p ∣ Y*LB^(p+1)from⟨LB,by rw[Lx,Lw]⟩)
 rw[← BT]
 generalize U % (Y*LB^(p+1))=X at *
 rw[← h,R4]
 have h2:=S8 X (Y*LB^p)
 rw[Lh (LB^p) Y,← Lw,Lh (LB^p) Y]
 omega
def OwnR(w:World)(base:Nat)(e:TypeId)(v:Value)(n:Nat)(f:Nat→Value): Prop:=w.ownsRow base e 1 v n ((List.range n).map f)
theorem OwnR.nil_(w:World)(base:Nat)(e:TypeId)(f:Nat→Value): OwnR w base e (.slice none 0 0) 0 f:=⟨by simp,.inl ⟨rfl,rfl⟩⟩
theorem OwnR.congr{w:World}{base:Nat}{e:TypeId}{v:Value}{n:Nat}{f f':Nat→Value}(h:OwnR w base e v n f)(hf:∀j,j<n→f j=f' j): OwnR w base e v n f':=by
 unfold OwnR at *
 rw[show(List.range n).map f'=(List.range n).map f from T5 fun j hj=>(hf j (by simpa using hj)).symm]
 exact h
theorem OwnR.rd{w:World}{base:Nat}{e:TypeId}{v:Value}{n:Nat}{f:Nat→Value}(h:OwnR w base e v n f): ∃A c,v=.slice A n c∧n≤c∧Rd w A n f∧(∀a,A=some a→base≤a.block):=by
 rcases h.2 with⟨rfl,rfl⟩|⟨g,cap,cur,rfl,hb,hh,hn,_,hs,hx⟩
 ·exact⟨none,0,rfl,L3 _,Rd.nil_,fun a ha=>by cases ha⟩
 ·refine⟨_,cap,rfl,hn,fun _=>⟨g,0,rfl,fun j hj=>?_⟩,fun a ha=>by injection ha with ha;subst ha;exact hb⟩
  rw[cell_of_row w g (0+j) cur e (0,0) hh,Ld,← Array.getElem?_toList]
  have h1:(cur.toList.take (n*1))[j]?=some (f j):=by rw[hx];simp[hj]
  rw[List.getElem?_take_of_lt (by omega)]at h1
  exact h1
section
variable {P:Program} {w:World} {ops:Array Oper} {rest:List Oper} {o:Oper} {a:Act} {Q:Exit→Act→World→Prop}
theorem Gf(hgd:o.guard=none)(s x:Operand)(t:TypeId)(ho:o.op=.call { callee:=.builtin .append,args:=#[s,x],argTypes:=#[t,t] })(base:Nat)(e:TypeId)(z:Value)(bytes:Nat)(ht:P.underlying t=some (.slice e))(hinfo:(P.info? e).map (fun i=>(i.zero,i.size,i.bytes))=some (some z,1,bytes))(hz1:z.cells.size=1)(v:Value)(n:Nat)(f:Nat→Value)(u:Value)(hs:a.eval s=v)(hx:a.eval x=.slice (some ⟨w.heap.size,0,none⟩) 1 1)(hown:OwnR w base e v n f)(hu:u.oneCell'=true)(h63:n+1≤9223372036854775807)(hbytes:(n+1)*bytes≤140737488355328)(hbase:base≤w.heap.size)(h:∀v' w',OwnR w' base e v' (n+1) (fun j=>if j=n then u else f j)→Below base w w'→w.grownBy w' v.ownBlock→wpList P ops Q rest (a.put o.dst v') w'):
  wpList P ops Q (o::rest) a (w.alloc (.cells #[u] e)):=by
 obtain⟨i,hi,hz,hsz,hby⟩:=info_parts hinfo
 refine wpList_append_own (P:=P) _ hgd s x t ho base e i z 1 bytes ht hi hz hsz hby hz1 (by decide) v n ((List.range n).map f) hs (hown.alloc _) ⟨w.heap.size,0,none⟩ 1 1 [u] hx rfl ?_ (by simpa using hu) (by unfold maxLen;omega) hbytes (by simp;omega) ?_
 ·intro j u' hj
  rcases j with _|j
  ·simp at hj;subst hj
   rw[Q9,World.cell?_alloc_at _ _ _ _ rfl];rfl
  ·simp at hj
 ·intro v' w' hown' hg _
  have e1:((List.range n).map f)++[u]=(List.range (n+1)).map (fun j=>if j=n then u else f j):=by
   rw[List.range_succ,Sj]
   congr 1
   ·exact T5 fun j hj=>by
     have:j<n:=by simpa using hj
     rw[if_neg (by omega)]
   ·simp
  rw[e1]at hown'
  have hg':w.grownBy w' v.ownBlock:=JB (World.grownBy_alloc w _ _) hg
  refine h v' w' hown' ((Below.refl _ _).grown hg' hbase (fun k hk=>?_)) hg'
  exact(hown.lt k hk).1
end
theorem AY{n:Int}{m:Nat}(h:n=(m:Int))(hm:m<256): IntKind.u8.wrap n=(m:Int):=by
 subst h;simp[IntKind.wrap,IntKind.signed,IntKind.bits];omega
theorem CE(x:Nat)(hx:x<256): bits .and .u8 (x:Int) 1=((x % 2:Nat):Int):=by
 have h1:(BitVec.ofInt 8 (x:Int)).toNat=x:=by rw[BitVec.ofInt_natCast,BitVec.toNat_ofNat];omega
 show IntKind.u8.wrap ((BitVec.ofInt 8 (x:Int) &&& BitVec.ofInt 8 1).toNat:Int)=_
 rw[BitVec.toNat_and,h1,show(BitVec.ofInt 8 1).toNat=1 from rfl,Nat.and_one_is_mod]
 exact AY rfl (by omega)
def YQ(v j:Nat): Value:=.int .u8 (Ql 2 v j:Nat)
theorem iv(v p k:Nat)(hk:k<8): Ql 2 v (8*p+k)=Ql 256 v p / 2^k % 2:=by
 unfold Ql
 rw[Ll,← R4,Sd,show 2^8=256 from rfl]
 generalize v / 256^p=x
 have e2:256=2^k*(2*2^(7-k)):=by rw[← Nat.pow_succ',← Ll];rw[show k+(7-k).succ=8 by omega]
 rw[e2,Tl,Nat.mod_mul_right_mod]
theorem Wk(v i p:Nat): Ql 256 (v % 2^(i+1)) p=if p=i / 8 then Ql 256 (v % 2^i) p+Ql 2 v i*2^(i % 8)else Ql 256 (v % 2^i) p:=by
 have e:(2:Nat)^i=256^(i / 8)*2^(i % 8):=by
  rw[show 256=2^8 from rfl,← Sd,← Ll];congr 1;omega
 have hu:v % 2^i<2^i:=Ly _ (Lq i)
 have hd:Ql 2 v i<2:=Q8 (by decide) v i
 rw[YP]
 generalize v % 2^i=u at *
 generalize Ql 2 v i=d at *
 rw[e]at hu
 have hr:i % 8<8:=Ly _ (by decide)
 have hlo:u / 256^(i / 8)<2^(i % 8):=(Li (Rq (by decide))).2 (by rw[Lh];exact hu)
 have h256:2^(i % 8)*2≤256:=by
  have:=Nat.pow_le_pow_right (n:=2) (by decide) (show i % 8+1≤8 by omega)
  rwa [Lx]at this
 have h0:=Sh u (256^(i / 8))
 have hm:u % 256^(i / 8)<256^(i / 8):=Ly _ (Rq (by decide))
 generalize u % 256^(i / 8)=lo at *
 generalize u / 256^(i / 8)=h at *
 generalize i % 8=r at *
 generalize i / 8=q at *
 have hd2:h+d*2^r<256:=by
  have:d*2^r≤1*2^r:=Lo _ (by omega)
  omega
 have e1:u+2^i*d=lo+256^q*(h+d*2^r):=by
  rw[e,Re,← h0,Lw,Lh (2^r) d];omega
 rw[e1,← h0,GH (by decide) hm hd2,GH (by decide) hm (show h<256 by omega)]
 by_cases hj:p=q
 ·subst hj;simp
 ·simp[hj]
theorem Ib(y up i:Nat): Ql 2 (y*2^up) i=if up≤i then Ql 2 y (i-up)else 0:=by
 rw[Lh]
 by_cases h:up≤i
 ·rw[if_pos h]
  obtain⟨j,rfl⟩:∃j,i=up+j:=⟨i-up,by omega⟩
  rw[Ga _ _ _ _ (by decide),S6]
 ·rw[if_neg h,CQ _ _ _ _ (by omega) (by decide)]
def Bx(w:World)(g:Nat)(t:TypeId)(cs:Array Value): Prop:=w.heap[g]?=some (.cells cs t (0,0))
theorem Bx.lt{w:World}{g:Nat}{t:TypeId}{cs:Array Value}(h:Bx w g t cs): g<w.heap.size:=by
 rcases Ra g w.heap.size with hlt|hge
 ·exact hlt
 ·unfold Bx at h;rw[Array.getElem?_eq_none hge]at h;cases h
theorem Bx.later{w w':World}{g:Nat}{t:TypeId}{cs:Array Value}(h:Bx w g t cs)(hb:Below w.heap.size w w'): Bx w' g t cs:=(hb.block g h.lt).trans h
theorem Bx.drew{w:World}{g:Nat}{t:TypeId}{cs:Array Value}(h:Bx w g t cs): Bx w.drew g t cs:=h
theorem Bx.new(w:World)(t:TypeId)(cs:Array Value): Bx (w.alloc (.cells cs t)) w.heap.size t cs:=heap_alloc_new w _
theorem Bx.alloc{w:World}{g:Nat}{t:TypeId}{cs:Array Value}(h:Bx w g t cs)(o:Obj): Bx (w.alloc o) g t cs:=(Below.heap_alloc w o g h.lt).trans h
theorem Bx.at1(w:World)(o:Obj)(t:TypeId)(cs:Array Value): Bx ((w.alloc o).alloc (.cells cs t)) (w.heap.size+1) t cs:=by
 have:=Bx.new (w.alloc o) t cs
 simpa using this
theorem Bx.at2(w:World)(o p:Obj)(t:TypeId)(cs:Array Value): Bx (((w.alloc o).alloc p).alloc (.cells cs t)) (w.heap.size+2) t cs:=by
 have:=Bx.new ((w.alloc o).alloc p) t cs
 simpa using this
theorem Bx.at3(w:World)(o p q:Obj)(t:TypeId)(cs:Array Value): Bx ((((w.alloc o).alloc p).alloc q).alloc (.cells cs t)) (w.heap.size+3) t cs:=by
 have:=Bx.new (((w.alloc o).alloc p).alloc q) t cs
 simpa using this
theorem Bx.cel{w:World}{g:Nat}{t:TypeId}{cs:Array Value}(h:Bx w g t cs)(i:Nat): w.cell? ⟨g,i,none⟩=cs[i]?:=by
 unfold Bx at h;simp[World.cell?,h]
theorem Bx.free{w:World}{g:Nat}{t:TypeId}{cs:Array Value}(h:Bx w g t cs)(i:Nat): w.frozen? ⟨g,i,none⟩=false:=by
 unfold Bx at h;simp[World.frozen?,h]
theorem Bx.two{w:World}{g:Nat}{t:TypeId}{x y:Value}(h:Bx w g t #[x,y]): w.cell? ⟨g,0,none⟩=some x∧w.cell? ⟨g,1,none⟩=some y∧w.frozen? ⟨g,0,none⟩=false∧w.frozen? ⟨g,1,none⟩=false :=
 ⟨h.cel 0,h.cel 1,h.free 0,h.free 1⟩
theorem Bx.three{w:World}{g:Nat}{t:TypeId}{x y z:Value}(h:Bx w g t #[x,y,z]): w.cell? ⟨g,0,none⟩=some x∧w.cell? ⟨g,1,none⟩=some y∧w.cell? ⟨g,2,none⟩=some z∧w.frozen? ⟨g,0,none⟩=false∧w.frozen? ⟨g,1,none⟩=false∧w.frozen? ⟨g,2,none⟩=false :=
 ⟨h.cel 0,h.cel 1,h.cel 2,h.free 0,h.free 1,h.free 2⟩
theorem Bx.set{w:World}{g:Nat}{t:TypeId}{cs:Array Value}(h:Bx w g t cs)(i:Nat)(u:Value): Bx (w.setCell ⟨g,i,none⟩ u) g t (cs.setIfInBounds i u):=by
 unfold Bx at *
 simp[World.setCell,Array.getElem?_modify,h]
theorem Bx.far{w:World}{g:Nat}{t:TypeId}{cs:Array Value}(h:Bx w g t cs){p:Addr}(hp:g≠p.block)(u:Value): Bx (w.setCell p u) g t cs:=(Sv w p u g hp).trans h
theorem Bx.far2{w:World}{g g' i j:Nat}{t:TypeId}{cs:Array Value}(h:Bx w g t cs)(hp:g≠g')(u v:Value): Bx ((w.setCell ⟨g',i,none⟩ u).setCell ⟨g',j,none⟩ v) g t cs:=(h.far (p:=⟨g',i,none⟩) hp u).far (p:=⟨g',j,none⟩) hp v
theorem Bx.set2{w:World}{g:Nat}{t:TypeId}{x y:Value}(h:Bx w g t #[x,y])(u v:Value): Bx ((w.setCell ⟨g,0,none⟩ u).setCell ⟨g,1,none⟩ v) g t #[u,v]:=(h.set 0 u).set 1 v
theorem Bx.set3{w:World}{g:Nat}{t:TypeId}{x y z:Value}(h:Bx w g t #[x,y,z])(u v s:Value): Bx (((w.setCell ⟨g,0,none⟩ u).setCell ⟨g,1,none⟩ v).setCell ⟨g,2,none⟩ s) g t #[u,v,s]:=((h.set 0 u).set 1 v).set 2 s
theorem FQ{w:World}{b o g i:Nat}{v:Value}(h:w.cell? ⟨b,o,none⟩=some v)(hne:b≠g)(x:Value): (w.setCell ⟨g,i,none⟩ x).cell? ⟨b,o,none⟩=some v :=
 (World.cell?_of_block (a:=⟨b,o,none⟩) (Sv w ⟨g,i,none⟩ x b hne)).trans h
theorem Xh{w:World}{b o g i j:Nat}{v:Value}(h:w.cell? ⟨b,o,none⟩=some v)(hne:b≠g)(x y:Value): ((w.setCell ⟨g,i,none⟩ x).setCell ⟨g,j,none⟩ y).cell? ⟨b,o,none⟩=some v:=FQ (FQ h hne x) hne y
theorem KJ{w w':World}(h:Below w.drew.heap.size w.drew w'): Below w.heap.size w w':=⟨h.os,h.tape,h.output,h.size,h.block⟩
theorem nxt{a w1 w2:World}(h:Below a.heap.size a w1)(hb:Below w1.heap.size w1 w2): Below a.heap.size a w2:=Qj h hb h.size
theorem JJ{a w1:World}(h:Below a.heap.size a w1)(o:Obj): Below a.heap.size a (w1.alloc o):=h.alloc h.size o
theorem b1(w:World)(o:Obj): Below w.heap.size w (w.alloc o):=JJ (Below.refl _ _) o
theorem b2(w:World)(o p:Obj): Below w.heap.size w ((w.alloc o).alloc p):=JJ (b1 w o) p
theorem b3(w:World)(o p q:Obj): Below w.heap.size w (((w.alloc o).alloc p).alloc q):=JJ (b2 w o p) q
theorem b4(w:World)(o p q r:Obj): Below w.heap.size w ((((w.alloc o).alloc p).alloc q).alloc r):=JJ (b3 w o p q) r
theorem Kq{B:Nat}{a w:World}(h:Below B a w){g:Nat}(hg:B≤g)(u v:Value): Below B a ((w.setCell ⟨g,0,none⟩ u).setCell ⟨g,1,none⟩ v):=(h.setCell hg u).setCell hg v
theorem cx{B:Nat}{a w:World}(h:Below B a w){g:Nat}(hg:B≤g)(u v s:Value): Below B a (((w.setCell ⟨g,0,none⟩ u).setCell ⟨g,1,none⟩ v).setCell ⟨g,2,none⟩ s):=((h.setCell hg u).setCell hg v).setCell hg s
def X6(ops:Array Oper)(i:Nat): List Nat:=match ops[i]? with
 | some o=>(o.after.toList.filter (Region.binds .any)).map (·.on)
 | none=>[]
def IJ(ops:Array Oper): Nat→Nat→Nat→Bool
 | 0,a,i=>(X6 ops a).any (·==i)
 | f+1,a,i=>(X6 ops a).any fun j=>j==i||IJ ops f j i
def VO(ops:Array Oper)(n:Nat)(st:Nat→Bool): Bool :=
 decide (n≤ops.size)&&Region.noSelect ops&&Region.chainB .any ops n&&(List.range n).all (fun i=>n==ops.size||!st i||IJ ops 6 n i) &&
 (List.range n).all (fun i=>st i||(List.range ops.size).all fun j=>j==i||(decide (j<n)&&st j)||Region.waitsFor .any ops j i||(match ops[i]?,ops[j]? with|some x,some y=>x.apart ops y|_,_=>false)) &&
 (List.range n).all (fun i=>(X6 ops i).all (·<i))&&Region.seqB .any ops (ops.size-n) n (Array.replicate n true++Array.replicate (ops.size-n) false)
def left(n:Nat)(listed:Array Bool): Nat:=((List.range n).filter fun i=>!listed.getD i true).length
theorem E8{n:Nat}{listed:Array Bool}(h:left n listed=0): ∀i,i<n→listed.getD i true=true:=fun i hi=>by
 have h1:=Sr h
 rw[List.filter_eq_nil_iff]at h1
 have h2:=h1 i (Lm.2 hi)
 simpa using h2
theorem Fi{n:Nat}{listed:Array Bool}(h:left n listed≠0): ∃i,i<n∧listed.getD i true=false∧∀j,j<i→listed.getD j true=true:=by
 have:∃i,i<n∧listed.getD i true=false:=by
  apply Classical.byContradiction
  intro hno
  apply h
  unfold left
  rw[List.length_eq_zero_iff,List.filter_eq_nil_iff]
  intro i hi
  have hi':=Lm.1 hi
  cases hl:listed.getD i true with
  | true=>simp
  | false=>exact absurd ⟨i,hi',hl⟩ hno
 obtain⟨i,hi,hl⟩:=this
 induction i using Nat.strongRecOn with
 | _ i ih =>
  by_cases hc:∃j,j<i∧listed.getD j true=false
  ·obtain⟨j,hj,hjl⟩:=hc
   exact ih j hj (by omega) hjl
  ·refine⟨i,hi,hl,fun j hj=>?_⟩
   cases hl2:listed.getD j true with
   | true=>rfl
   | false=>exact absurd ⟨j,hj,hl2⟩ hc
theorem DJ{n i:Nat}{listed:Array Bool}(hi:i<n)(hl:listed.getD i true=false): left n (listed.setIfInBounds i true)+1=left n listed:=by
 have hsz:i<listed.size:=by
  rcases Ra i listed.size with h|h
  ·exact h
  ·simp[Array.getElem?_eq_none h]at hl
 unfold left
 have key:∀l:List Nat,l.Nodup→i∈l→((l.filter fun j=>!(listed.setIfInBounds i true).getD j true).length+1=(l.filter fun j=>!listed.getD j true).length):=by
  intro l
  induction l with
  | nil=>intro _ h;cases h
  | cons x l ih =>
   intro hnd hm
   rw[Uf]at hnd
   by_cases hx:x=i
   ·subst hx
    have e1:(listed.setIfInBounds x true).getD x true=true:=by simp[hsz]
    have e2:(l.filter fun j=>!(listed.setIfInBounds x true).getD j true)=(l.filter fun j=>!listed.getD j true):=List.filter_congr fun j hj=>by
     have hne:x≠j:=fun e=>hnd.1 (e▸hj)
     rw[getD_set_ne true hne]
    rw[List.filter_cons_of_neg (by simp[e1]),List.filter_cons_of_pos (by simp[hl]),e2,Rb]
   ·have hm':i∈l:=by
     rcases Lp.1 hm with h|h
     ·exact absurd h.symm hx
     ·exact h
    have e3:(listed.setIfInBounds i true).getD x true=listed.getD x true:=getD_set_ne true (Ne.symm hx)
    have:=ih hnd.2 hm'
    cases hxl:listed.getD x true with
    | true=>rw[List.filter_cons_of_neg (by simp[e3,hxl]),List.filter_cons_of_neg (by simp[hxl])];exact this
    | false=>rw[List.filter_cons_of_pos (by simp[e3,hxl]),List.filter_cons_of_pos (by simp[hxl]),Rb,Rb];omega
 exact key _ List.nodup_range (Lm.2 hi)
def blk:Value→Option Nat
 | .pointer (some a)=>some a.block
 | .slice (some a) _ _=>some a.block
 | _=>none
def Od(P:Program)(ops:Array Oper)(F:(Nat→Value)→Act)(G:World→Prop)(Φ:Nat→Value→World→Prop)(fr:Nat→Bool)(i:Nat): Prop :=
 ∀(o:Oper),ops[i]?=some o→∀(u:Nat→Value) (w:World),G w→(∀j,j∈X6 ops i→Φ j (u j) w)→∀(Q:Exit→Act→World→Prop) (K:Act→World→Prop),
  (∀v w',Below w.heap.size w w'→G w'→Φ i v w'→(fr i=true→∀g,blk v=some g→w.heap.size≤g)→K ((F u).put o.dst v) w')→if Region.wanted o (yielded ops (F u).tmps)=true then Oper.wp P o (F u) w K Q else K ((F u).put o.dst undef) w
theorem Vv{ops:Array Oper}{n:Nat}{listed:Array Bool}(inv:HeadInv .any ops n listed){a:Nat}(ha:listed.getD a false=true){j:Nat}(hj:j∈X6 ops a): listed.getD j false=true:=by
 unfold X6 at hj
 cases ho:ops[a]? with
 | none=>rw[ho]at hj;cases hj
 | some o =>
  rw[ho]at hj
  obtain⟨e,he,rfl⟩:=R5.1 hj
  obtain⟨he1,he2⟩:=Tk.1 he
  exact inv.closed a o ho ha e (T1.1 he1) he2
theorem D5{ops:Array Oper}{n:Nat}{listed:Array Bool}(inv:HeadInv .any ops n listed){i:Nat}: ∀(f a:Nat),(∀j,j∈X6 ops a→listed.getD j false=true)→IJ ops f a i=true→listed.getD i false=true
 | 0,a,h,hr=>by
  obtain⟨j,hj,e⟩:=U7.1 hr
  have:j=i:=by simpa using e
  exact this▸h j hj
 | f+1,a,h,hr=>by
  obtain⟨j,hj,e⟩:=U7.1 hr
  rcases Bool.or_eq_true_iff.1 e with e|e
  ·have:j=i:=by simpa using e
   exact this▸h j hj
  ·exact D5 inv f j (fun k hk=>Vv inv (h j hj) hk) e
theorem V6{ops:Array Oper}{n:Nat}{st:Nat→Bool}{listed:Array Bool}(hs:(List.range n).all (fun i=>n==ops.size||!st i||IJ ops 6 n i)=true)(hc:Region.chainB .any ops n=true)(inv:HeadInv .any ops n listed){i:Nat}(hi:i<n)(hsi:st i=true)(hun:listed.getD i true=false): ∀t,n≤t→t ∉ Region.ready .any ops listed:=by
 intro t ht hr
 obtain⟨_,ot,hot,hall⟩:=mem_ready.1 hr
 have htlt:t<ops.size:=(Array.getElem?_eq_some_iff.1 hot).1
 have hdir:∀j,j∈X6 ops t→listed.getD j false=true:=fun j hj=>by
  unfold X6 at hj;rw[hot]at hj
  obtain⟨e,he,rfl⟩:=R5.1 hj
  obtain⟨he1,he2⟩:=Tk.1 he
  exact hall e (T1.1 he1) he2
 by_cases htn:t=n
 ·subst htn
  have h1:=Ls.1 hs i (Lm.2 hi)
  rw[hsi,show(t==ops.size)=false by simpa using Sk htlt]at h1
  have h2:=D5 inv 6 t hdir (by simpa using h1)
  rw[getD_both hun]at h2
  cases h2
 ·have h1:=Ls.1 hc t (Lm.2 htlt)
  simp only[Bool.or_eq_true,decide_eq_true_eq]at h1
  rcases h1 with h1|h1
  ·omega
  ·obtain⟨o',ho',e,he,hb,hon⟩:=Region.waitsFor_spec h1
   have:o'=ot:=Option.some.inj (ho'.symm.trans hot)
   subst this
   have h2:=hall e he hb
   rw[hon,getD_both (inv.tail (t-1) (by omega) (by omega))]at h2
   cases h2
def bS(P:Program)(ops:Array Oper)(F:(Nat→Value)→Act)(Φ:Nat→Value→World→Prop)(i:Nat): Prop :=
 ∀(o:Oper),ops[i]?=some o→∀(u:Nat→Value) (w:World),(∀j,j∈X6 ops i→Φ j (u j) w)→∃v,Yields P ops o v (F u)∧Φ i v w
theorem OJ{P:Program}{ops:Array Oper}{n:Nat}{Q:Exit→Act→World→Prop}{l:List Oper}(hl:l.toArray=ops)(F:(Nat→Value)→Act)(G:World→Prop)(Φ:Nat→Value→World→Prop)(st:Nat→Bool)(hB:VO ops n st=true)(hQ:∀(d:Tmp) (v:Value) c a w,Q (.panic c) (a.put (some d) v) w→Q (.panic c) a w)(hdd:∀i o,i<n→ops[i]?=some o→∃d:Tmp,o.dst=some d)(hput:∀(u:Nat→Value) (i:Nat) (v:Value) (o:Oper),i<n→ops[i]?=some o→(F u).put o.dst v=F (fun k=>if k=i then v else u k))(hst:∀i v w w',i<n→Below w.heap.size w w'→Φ i v w→Φ i v w')(fr:Nat→Bool)(hfr:∀i v w,i<n→fr i=true→Φ i v w→∃g,blk v=some g∧g<w.heap.size)(hop:∀i,i<n→Od P ops F G Φ fr i)(hlate:∀i,i<n→st i=false→fr i=false∧bS P ops F Φ i)(u0:Nat→Value)(htail:∀u w,(∀k,n≤k→u k=u0 k)→G w→(∀i,i<n→Φ i (u i) w)→(∀i j,i<n→j<n→fr i=true→fr j=true→i≠j→blk (u i)≠blk (u j))→wpList P ops Q (l.drop n) (F u) w):
  ∀(f:Nat) (listed:Array Bool) (u:Nat→Value) (w:World),left n listed=f→HeadInv .any ops n listed→(∀k,n≤k→u k=u0 k)→G w→(∀i,i<n→listed.getD i true=true→Φ i (u i) w) →
   (∀i j,i<n→j<n→listed.getD i true=true→listed.getD j true=true→fr i=true→fr j=true→i≠j→blk (u i)≠blk (u j)) →
   wpAny P .any ops Q (f+(ops.size-n)) listed (F u) w:=by
 simp only[VO,R8,decide_eq_true_eq]at hB
 obtain⟨⟨⟨⟨⟨⟨hn,hsel⟩,hc⟩,hs⟩,hfree⟩,hback⟩,hseq⟩:=hB
 intro f
 induction f with
 | zero =>
  intro listed u w hf inv hu0 hG hΦ hD
  have hall:=E8 hf
  have he:listed=Array.replicate n true++Array.replicate (ops.size-n) false:=by
   apply Array.ext
   ·simp[inv.size];omega
   ·intro i h1 h2
    by_cases hi:i<n
    ·have:=hall i hi
     rw[Array.getElem_append_left (by simpa using hi)]
     simpa [h1]using this
    ·have:=inv.tail i (by omega) (by rw[← inv.size];exact h1)
     rw[Array.getElem_append_right (by simp;omega)]
     simpa [h1]using this
  rw[Ld]
  have hlen:(l.drop n).length=ops.size-n:=by rw[← hl];simp
  rw[← hlen]at hseq ⊢
  exact wpAny_of_seq (l.drop n) n listed (F u) w (fun j=>by rw[← hl];simp[List.getElem?_drop]) (by rw[he,← hlen];exact hseq) (htail u w hu0 hG (fun i hi=>hΦ i hi (hall i hi)) (fun i j hi hj=>hD i j hi hj (hall i hi) (hall j hj)))
 | succ f ih =>
  intro listed u w hf inv hu0 hG hΦ hD
  obtain⟨i0,hi0,hl0,hmin⟩:=Fi (n:=n) (listed:=listed) (by omega)
  have hready:i0∈Region.ready .any ops listed:=by
   have hlt:i0<ops.size:=by omega
   obtain⟨o,ho⟩:∃o,ops[i0]?=some o:=⟨ops[i0],by simp[hlt]⟩
   refine mem_ready.2 ⟨hl0,o,ho,fun e he hb=>?_⟩
   have hw:e.on∈X6 ops i0:=by
    unfold X6;rw[ho]
    exact R5.2 ⟨e,Tk.2 ⟨T1.2 he,hb⟩,rfl⟩
   have hlt2:e.on<i0:=by
    have h1:=Ls.1 hback i0 (Lm.2 hi0)
    simpa using Ls.1 h1 _ hw
   have h3:=hmin _ hlt2
   have h4:e.on<listed.size:=by rw[inv.size];omega
   simpa [h4]using h3
  rw[show f+1+(ops.size-n)=(f+(ops.size-n))+1 by omega]
  by_cases hall:∃i,i<n∧st i=true∧listed.getD i true=false
  case neg =>
   have hst0:st i0=false:=by
    cases h:st i0 with
    | false=>rfl
    | true=>exact absurd ⟨i0,hi0,h,hl0⟩ hall
   obtain⟨hfr0,hlt0⟩:=hlate i0 hi0 hst0
   obtain⟨_,o,ho,hdeps⟩:=mem_ready.1 hready
   have hfacts:∀j,j∈X6 ops i0→Φ j (u j) w:=fun j hj=>by
    have hj0:=hj
    unfold X6 at hj;rw[ho]at hj
    obtain⟨e,he,rfl⟩:=R5.1 hj
    obtain⟨he1,he2⟩:=Tk.1 he
    have h1:=hdeps e (T1.1 he1) he2
    have hlt2:e.on<i0:=by
     have h1:=Ls.1 hback i0 (Lm.2 hi0)
     simpa using Ls.1 h1 _ hj0
    refine hΦ _ (by omega) ?_
    have h4:e.on<listed.size:=by rw[inv.size];omega
    simpa [h4]using h1
   obtain⟨v,hy,hv⟩:=hlt0 o ho u w hfacts
   have hQ2:∀c a w,Q (.panic c) (a.put o.dst v) w→Q (.panic c) a w:=by
    obtain⟨d,hd⟩:=hdd i0 o hi0 ho
    rw[hd];exact hQ d v
   refine wpAny_first ho (Region.noSelect_spec hsel) hQ2 _ listed (F u) w (fun j oj hoj hji hjun hnot=>?_) hready hy ?_
   ·have hjs:j<ops.size:=(Array.getElem?_eq_some_iff.1 hoj).1
    have h1:=Ls.1 hfree i0 (Lm.2 hi0)
    rw[hst0,Bool.false_or]at h1
    have h2:=Ls.1 h1 j (Lm.2 hjs)
    simp only[Bool.or_eq_true,R8,decide_eq_true_eq,Rg,ho,hoj]at h2
    rcases h2 with((h2|h2)|h2)|h2
    ·exact absurd h2 hji
    ·exact absurd ⟨j,h2.1,h2.2,hjun⟩ hall
    ·obtain⟨o',ho',e,he,hb,hon⟩:=Region.waitsFor_spec h2
     have:o'=oj:=Option.some.inj (ho'.symm.trans hoj)
     subst this
     exact absurd hon (hnot e he hb)
    ·exact h2
   ·rw[hput u i0 v o hi0 ho]
    refine ih _ _ w (by have:=DJ hi0 hl0;omega) (inv.set hready hi0) (fun k hk=>by rw[if_neg (by omega)];exact hu0 k hk) hG (fun j hj hjl=>?_) (fun j k hj hk hjl hkl hfj hfk hne=>?_)
    ·by_cases e:j=i0
     ·subst e;simpa using hv
     ·rw[if_neg e]
      rw[getD_set_ne true (Ne.symm e)]at hjl
      exact hΦ j hj hjl
    ·have ej:j≠i0:=fun e=>by rw[e,hfr0]at hfj;cases hfj
     have ek:k≠i0:=fun e=>by rw[e,hfr0]at hfk;cases hfk
     rw[getD_set_ne true (Ne.symm ej)]at hjl
     rw[getD_set_ne true (Ne.symm ek)]at hkl
     rw[if_neg ej,if_neg ek]
     exact hD j k hj hk hjl hkl hfj hfk hne
  obtain⟨is,his,hss,hsl⟩:=hall
  refine⟨fun h0=>(by rw[h0]at hready;cases hready),fun i hi=>?_⟩
  have hin:i<n:=by
   rcases Ra i n with h|h
   ·exact h
   ·exact absurd hi (V6 hs hc inv his hss hsl i h)
  obtain⟨hil,o,ho,hdeps⟩:=mem_ready.1 hi
  have hfacts:∀j,j∈X6 ops i→Φ j (u j) w:=fun j hj=>by
   have hj0:=hj
   unfold X6 at hj;rw[ho]at hj
   obtain⟨e,he,rfl⟩:=R5.1 hj
   obtain⟨he1,he2⟩:=Tk.1 he
   have h1:=hdeps e (T1.1 he1) he2
   have hlt2:e.on<i:=by
    have h1:=Ls.1 hback i (Lm.2 hin)
    simpa using Ls.1 h1 _ hj0
   refine hΦ _ (by omega) ?_
   have h4:e.on<listed.size:=by rw[inv.size];omega
   simpa [h4]using h1
  have hgo:∀v w',Below w.heap.size w w'→G w'→Φ i v w'→(fr i=true→∀g,blk v=some g→w.heap.size≤g)→wpAny P .any ops Q (f+(ops.size-n)) (listed.setIfInBounds i true) ((F u).put o.dst v) w':=fun v w' hb hG' hv hnew=>by
   rw[hput u i v o hin ho]
   refine ih _ _ w' (by have:=DJ hin hil;omega) (inv.set hi hin) (fun k hk=>by rw[if_neg (by omega)];exact hu0 k hk) hG' (fun j hj hjl=>?_) (fun j k hj hk hjl hkl hfj hfk hne=>?_)
   ·by_cases e:j=i
    ·subst e;simpa using hv
    ·rw[if_neg e]
     rw[getD_set_ne true (Ne.symm e)]at hjl
     exact hst j _ w w' hj hb (hΦ j hj hjl)
   ·by_cases ej:j=i
    ·subst ej
     have ek:k≠j:=Ne.symm hne
     rw[if_pos rfl,if_neg ek]
     rw[getD_set_ne true (Ne.symm ek)]at hkl
     obtain⟨g,hg,hlt⟩:=hfr k _ w hk hfk (hΦ k hk hkl)
     intro e2
     rw[hg]at e2
     have:=hnew hfj g e2
     omega
    ·rw[getD_set_ne true (Ne.symm ej)]at hjl
     rw[if_neg ej]
     by_cases ek:k=i
     ·subst ek
      rw[if_pos rfl]
      obtain⟨g,hg,hlt⟩:=hfr j _ w hj hfj (hΦ j hj hjl)
      intro e2
      rw[hg]at e2
      have:=hnew hfk g e2.symm
      omega
     ·rw[if_neg ek]
      rw[getD_set_ne true (Ne.symm ek)]at hkl
      exact hD j k hj hk hjl hkl hfj hfk hne
  have hrun:=hop i hin o ho u w hG hfacts Q _ hgo
  unfold wpOp
  simp only[ho]
  split
  ·rename_i hw;rw[if_pos hw]at hrun;exact .inl hrun
  ·rename_i hw;rw[if_neg hw]at hrun;exact hrun
def Z5(a:Act): List Nat→Nat→(Nat→Value)→Act
 | [],_,_=>a
 | d::ds,i,u=>Z5 (a.put (some d) (u i)) ds (i+1) u
def PutsOk(F:List Deferred→(Nat→Value)→(Nat→Value)→Act): List Nat→Nat→Prop
 | [],_=>True
 | d::ds,i=>(∀d0 b u v,(F d0 b u).put (some d) v=F d0 b (fun k=>if k=i then v else u k))∧PutsOk F ds (i+1)
theorem PutsOk.at{F:List Deferred→(Nat→Value)→(Nat→Value)→Act}: ∀ {ds:List Nat} {i:Nat},PutsOk F ds i→∀(j d:Nat),ds[j]?=some d→∀d0 b u v,(F d0 b u).put (some d) v=F d0 b (fun k=>if k=i+j then v else u k)
 | [],_,_,_,_,h=>by simp at h
 | d::ds,i,h,0,d',hd=>by simp at hd;subst hd;exact h.1
 | d::ds,i,h,j+1,d',hd=>fun d0 b u v=>by
  have:=PutsOk.at h.2 j d' (by simpa using hd) d0 b u v
  rw[this,show i+1+j=i+(j+1)by omega]
theorem Fo{F:List Deferred→(Nat→Value)→(Nat→Value)→Act}(d0:List Deferred)(b u0 u:Nat→Value): ∀(ds:List Nat) (i:Nat),PutsOk F ds i→Z5 (F d0 b (fun k=>if k<i then u k else u0 k)) ds i u=F d0 b (fun k=>if k<i+ds.length then u k else u0 k)
 | [],i,_=>by simp[Z5]
 | d::ds,i,h=>by
  show Z5 ((F d0 b _).put (some d) (u i)) ds (i+1) u=_
  rw[h.1]
  have e:(fun k=>if k=i then u i else if k<i then u k else u0 k)=(fun k=>if k<i+1 then u k else u0 k):=by
   funext k
   by_cases hk:k=i
   ·subst hk;rw[if_pos rfl,if_pos (by omega)]
   ·rw[if_neg hk]
    by_cases hk2:k<i
    ·rw[if_pos hk2,if_pos (by omega)]
    ·rw[if_neg hk2,if_neg (by omega)]
  rw[e,Fo d0 b u0 u ds (i+1) h.2,Rb]
  congr 1
  funext k
  rw[show i+1+ds.length=i+(ds.length+1)by omega]
def OpsOk(P:Program)(ops:Array Oper)(F:(Nat→Value)→Act)(G:World→Prop)(Φ:Nat→Value→World→Prop)(fr:Nat→Bool): Nat→Nat→Prop
 | 0,_=>True
 | n+1,i=>Od P ops F G Φ fr i∧OpsOk P ops F G Φ fr n (i+1)
theorem OpsOk.at{P:Program}{ops:Array Oper}{F:(Nat→Value)→Act}{G:World→Prop}{Φ:Nat→Value→World→Prop}{fr:Nat→Bool}: ∀ {n i:Nat},OpsOk P ops F G Φ fr n i→∀j,j<n→Od P ops F G Φ fr (i+j)
 | 0,_,_,_,h=>by omega
 | n+1,i,h,0,_=>h.1
 | n+1,i,h,j+1,hj=>by
  have:=OpsOk.at h.2 j (by omega)
  rwa [show i+1+j=i+(j+1)by omega]at this
theorem C2{P:Program}{id:Nat}{Q:Exit→Act→World→Prop}{a:Act}{w:World}{l:List Oper}(ds:List Nat)(F:List Deferred→(Nat→Value)→(Nat→Value)→Act)(G:World→Prop)(Φ:Nat→Value→World→Prop)(st:Nat→Bool)(hm:P.follows .mixedOrders=true)(hB:VO l.toArray ds.length st=true)(hQ:∀(d:Tmp) (v:Value) c a w,Q (.panic c) (a.put (some d) v) w→Q (.panic c) a w)(hds:((List.range ds.length).all fun i=>((l.toArray[i]?).bind (·.dst))==ds[i]?)=true)(ha:a=F a.defers (fun k=>a.tmps.getD k undef) (fun i=>a.tmps.getD (ds.getD i 0) undef))(hG:G w.drew)(hput:PutsOk F ds 0)(hst:∀i v w w',i<ds.length→Below w.heap.size w w'→Φ i v w→Φ i v w')(fr:Nat→Bool)(hfr:∀i v w,i<ds.length→fr i=true→Φ i v w→∃g,blk v=some g∧g<w.heap.size)(hop:∀d0 b,b=(fun k=>a.tmps.getD k undef)→OpsOk P l.toArray (F d0 b) G Φ fr ds.length 0)(hlate:∀d0 b,b=(fun k=>a.tmps.getD k undef)→∀i,i<ds.length→st i=false→fr i=false∧bS P l.toArray (F d0 b) Φ i)(htail:∀u w',G w'→(∀i,i<ds.length→Φ i (u i) w')→(∀i j,i<ds.length→j<ds.length→fr i=true→fr j=true→i≠j→blk (u i)≠blk (u j))→wpList P l.toArray Q (l.drop ds.length) (Z5 a ds 0 u) w'): (Code.region id l.toArray true).wp P Q a w:=by
 refine wp_region_any hm ?_
 have hn:ds.length≤l.toArray.size:=by
  simp only[VO,R8,decide_eq_true_eq]at hB
  exact hB.1.1.1.1.1.1
 have inv0:HeadInv .any l.toArray ds.length (Array.replicate l.toArray.size false) :=
  ⟨by simp,fun j oj _ hl=>(by rw[getD_replicate_false]at hl;cases hl),fun t _ ht=>getD_in (by simpa using ht) (getD_replicate_false _ _)⟩
 have hnone:∀i,i<ds.length→(Array.replicate l.toArray.size false).getD i true=false:=fun i hi=>getD_in (by simpa using(by omega:i<l.toArray.size)) (getD_replicate_false _ _)
 have hleft:left ds.length (Array.replicate l.toArray.size false)=ds.length:=by
  unfold left
  rw[List.filter_eq_self.2 (fun i hi=>by rw[hnone i (Lm.1 hi)];rfl),S7]
 generalize hb:(fun k=>a.tmps.getD k undef)=b at *
 generalize hu:(fun i=>a.tmps.getD (ds.getD i 0) undef)=u0 at *
 have hdst:∀i,i<ds.length→∃d,ds[i]?=some d∧∀o,l.toArray[i]?=some o→o.dst=some d:=fun i hi=>by
  have h1:=Ls.1 hds i (Lm.2 hi)
  have h2:((l.toArray[i]?).bind (·.dst))=ds[i]?:=by simpa using h1
  refine⟨ds[i],by simp[hi],fun o ho=>?_⟩
  rw[ho]at h2
  have h3:ds[i]?=some ds[i]:=by simp[hi]
  rw[h3]at h2
  exact h2
 have h:=OJ (Q:=Q) (l:=l) rfl (F a.defers b) G Φ st hB hQ (fun i o hi ho=>by obtain⟨d,_,hd2⟩:=hdst i hi;exact⟨d,hd2 o ho⟩) (fun u i v o hi ho=>by
   obtain⟨d,hd,hd2⟩:=hdst i hi
   rw[hd2 o ho,PutsOk.at hput i d hd,Ld]) hst fr hfr (fun i hi=>by have:=OpsOk.at (hop a.defers b rfl) i hi;rwa [Ld]at this) (hlate a.defers b rfl) u0 (fun u w' hk hG' hΦ hD=>by
   have e:=Fo a.defers b u0 u ds 0 hput
   simp only[Rc,if_false,Ld]at e
   rw[show F a.defers b u0=a from ha.symm]at e
   have e2:(fun k=>if k<ds.length then u k else u0 k)=u:=by
    funext k
    split
    ·rfl
    ·exact(hk k (by omega)).symm
   rw[e2]at e
   rw[← e]
   exact htail u w' hG' hΦ hD) ds.length _ u0 w.drew hleft inv0 (fun _ _=>rfl) hG (fun i hi hl=>(by rw[hnone i hi]at hl;cases hl)) (fun i j hi hj hl=>(by rw[hnone i hi]at hl;cases hl))
 rw[show ds.length+(l.toArray.size-ds.length)=l.toArray.size by omega]at h
 have e:(Code.region id l.toArray true).wp P Q a w=(Code.region id l.toArray true).wp P Q a w:=rfl
 rw[← ha]at h
 exact h
def Nw(k:Nat): List Nat→Nat→Option Nat
 | [],_=>none
 | d::ds,i=>if k=d then some i else Nw k ds (i+1)
theorem C0{k:Nat}: ∀ {ds:List Nat} {i j:Nat},Nw k ds i=some j→i≤j∧ds[j-i]?=some k
 | [],_,_,h=>by cases h
 | d::ds,i,j,h=>by
  unfold Nw at h
  split at h
  ·subst_vars
   obtain rfl:=Option.some.inj h
   exact⟨L3 _,by simp⟩
  ·obtain⟨h1,h2⟩:=C0 h
   refine⟨by omega,?_⟩
   rw[show j-i=(j-(i+1))+1 by omega,List.getElem?_cons_succ]
   exact h2
theorem Cz{d:Nat}: ∀ {ds:List Nat} {i j:Nat},ds.Nodup→ds[j]?=some d→Nw d ds i=some (i+j)
 | [],_,_,_,h=>by simp at h
 | e::ds,i,0,_,h=>by
  simp at h;subst h
  simp[Nw]
 | e::ds,i,j+1,hn,h=>by
  rw[Uf]at hn
  have h':ds[j]?=some d:=by simpa using h
  have hne:d≠e:=fun e1=>hn.1 (e1▸List.mem_of_getElem? h')
  unfold Nw
  rw[if_neg hne,Cz hn.2 h']
  congr 1;omega
def Gl(a:Act)(ds:List Nat)(u:Nat→Value): Act:={ a with tmps:=Array.ofFn (n:=a.tmps.size) fun k=>match Nw k.val ds 0 with|some i=>u i|none=>a.tmps.getD k.val undef }
theorem DZ(a:Act)(ds:List Nat)(u:Nat→Value): (Gl a ds u).tmps.size=a.tmps.size:=by simp[Gl]
theorem Hy(a:Act)(ds:List Nat)(u:Nat→Value){k:Nat}(hk:k<a.tmps.size): (Gl a ds u).tmps[k]?=some (match Nw k ds 0 with|some i=>u i|none=>a.tmps.getD k undef):=by
 simp[Gl,hk]
theorem Kd{a:Act}{ds:List Nat}{u:Nat→Value}{k i:Nat}{v:Value}(hk:k<a.tmps.size)(h:Nw k ds 0=some i)(hv:u i=v): (Gl a ds u).eval (.tmp k)=v:=by
 show(Gl a ds u).tmps.getD k undef=v
 rw[Array.getD_eq_getD_getElem?,Hy a ds u hk,h,← hv];rfl
theorem C8{a:Act}{ds:List Nat}{u:Nat→Value}{k:Nat}{v:Value}(hk:k<a.tmps.size)(h:Nw k ds 0=none)(hv:a.tmps.getD k undef=v): (Gl a ds u).eval (.tmp k)=v:=by
 show(Gl a ds u).tmps.getD k undef=v
 rw[Array.getD_eq_getD_getElem?,Hy a ds u hk,h,← hv];rfl
theorem M1(a:Act)(ds:List Nat): a=Gl a ds (fun i=>a.tmps.getD (ds.getD i 0) undef):=by
 obtain⟨t,d⟩:=a
 unfold Gl
 congr 1
 apply Array.ext
 ·simp
 ·intro k h1 h2
  rw[Array.getElem_ofFn]
  cases e:Nw k ds 0 with
  | none=>simp[h1]
  | some i =>
   have h3:=(C0 e).2
   rw[Nat.sub_zero]at h3
   simp[List.getD,h3,h1]
theorem Pw{a:Act}{ds:List Nat}(hn:ds.Nodup)(u:Nat→Value){i d:Nat}(hd:ds[i]?=some d)(v:Value): (Gl a ds u).put (some d) v=Gl a ds (fun k=>if k=i then v else u k):=by
 unfold Gl Act.put
 simp only
 congr 1
 apply Array.ext
 ·simp
 ·intro k h1 h2
  rw[Array.getElem_setIfInBounds (by simpa using h2),Array.getElem_ofFn,Array.getElem_ofFn]
  by_cases e:d=k
  ·subst e
   rw[if_pos rfl,Cz hn hd]
   simp
  ·rw[if_neg e]
   cases e2:Nw k ds 0 with
   | none=>rfl
   | some j =>
    have hj:j≠i:=fun e3=>by
     subst e3
     have h3:=(C0 e2).2
     rw[Nat.sub_zero,hd]at h3
     exact e (Option.some.inj h3)
    simp only[if_neg hj]
theorem Mv{a:Act}{ds:List Nat}(hn:ds.Nodup): ∀(es:List Nat) (i:Nat),(∀j d,es[j]?=some d→ds[i+j]?=some d)→PutsOk (fun _ _ u=>Gl a ds u) es i
 | [],_,_=>trivial
 | e::es,i,h=>⟨fun _ _ u v=>Pw hn u (by simpa using h 0 e rfl) v,Mv hn es (i+1) fun j d hj=>by
  rw[show i+1+j=i+(j+1)by omega];exact h (j+1) d (by simpa using hj)⟩
def Gg(o:Oper): List Nat:=(o.after.toList.filter (Region.binds .any)).map (·.on)
def EN(u:Nat→Value)(o:Oper)(b:Bool): Prop:=match o.guard with
 | none=>b=true
 | some (g,c)=>∃x,u g=.bool x∧b=(x==c)
def TW(P:Program)(G:World→Prop)(Φ:Nat→Value→World→Prop)(fr:Nat→Bool)(i:Nat)(o:Oper)(u:Nat→Value)(ev:Operand→Value)(W:World): Prop :=
 (EN u o true∧∃v w',(execOp ev o).run P W=.ok (.value v) w'∧Below W.heap.size W w'∧G w'∧Φ i v w'∧(fr i=true→∀g,blk v=some g→W.heap.size≤g)) ∨
 (fr i=false∧EN u o true∧∃f args,(execOp ev o).run P W=.ok (.enter f args) W∧Calls P f args W fun e w'=>∃v,e=.returned v∧Below W.heap.size W w'∧G w'∧Φ i v w') ∨
 (fr i=false∧EN u o false∧Φ i undef W)
def oY(P:Program)(ds:List Nat)(A:Act)(G:World→Prop)(Φ:Nat→Value→World→Prop)(fr:Nat→Bool)(i:Nat)(o:Oper): Prop :=
 ∀(u:Nat→Value) (W:World),G W→(∀j,j∈Gg o→Φ j (u j) W)→TW P G Φ fr i o u (Gl A ds u).eval W
def KsOk(P:Program)(ds:List Nat)(A:Act)(G:World→Prop)(Φ:Nat→Value→World→Prop)(fr:Nat→Bool): List Oper→Nat→Nat→Prop
 | o::l,n+1,i=>oY P ds A G Φ fr i o∧KsOk P ds A G Φ fr l n (i+1)
 | _,_,_=>True
def pw(P:Program)(ds:List Nat)(A:Act)(Φ:Nat→Value→World→Prop)(i:Nat)(o:Oper): Prop :=
 ∀(u:Nat→Value) (W:World),(∀j,j∈Gg o→Φ j (u j) W)→∃v,EN u o true∧(∀w,(execOp (Gl A ds u).eval o).run P w=.ok (.value v) w)∧Φ i v W
def LsOk(P:Program)(ds:List Nat)(A:Act)(Φ:Nat→Value→World→Prop)(fr st:Nat→Bool): List Oper→Nat→Nat→Prop
 | o::l,n+1,i=>(match st i with|true=>True|false=>fr i=false∧pw P ds A Φ i o)∧LsOk P ds A Φ fr st l n (i+1)
 | _,_,_=>True
def P6(ops:Array Oper)(n:Nat): Bool:=(List.range n).all fun i=>match ops[i]? with|some o=>(match o.guard with|some (g,_)=>decide (g<n)|none=>true)|none=>true
theorem DG{ops:Array Oper}{ds:List Nat}{a:Act}{u:Nat→Value}(hn:ds.Nodup)(hds:∀i,i<ds.length→∃d,ds[i]?=some d∧d<a.tmps.size∧∀o,ops[i]?=some o→o.dst=some d)(hsz:ds.length≤ops.size){o:Oper}(hg:∀g c,o.guard=some (g,c)→g<ds.length){b:Bool}(h:EN u o b): Region.wanted o (yielded ops (Gl a ds u).tmps)=b:=by
 unfold Region.wanted
 unfold EN at h
 split at h
 ·rename_i e;rw[e];exact h.symm
 ·rename_i g c e
  obtain⟨x,hx,rfl⟩:=h
  rw[e]
  obtain⟨d,hd,hlt,ho⟩:=hds g (hg g c e)
  have hlt2:g<ops.size:=Lb (hg g c e) hsz
  have h1:ops[g]?=some ops[g]:=by simp[hlt2]
  have h2:yielded ops (Gl a ds u).tmps g=some x:=by
   unfold yielded
   rw[h1,Sw,ho _ h1,Sw,Hy a ds u hlt,Cz hn hd,Ld]
   simp only[hx]
  show(yielded ops (Gl a ds u).tmps g==some c)=(x==c)
  rw[h2];rfl
theorem KsOk.at{P:Program}{ds:List Nat}{A:Act}{G:World→Prop}{Φ:Nat→Value→World→Prop}{fr:Nat→Bool}: ∀ {l:List Oper} {n i:Nat},KsOk P ds A G Φ fr l n i→∀j o,j<n→l[j]?=some o→oY P ds A G Φ fr (i+j) o
 | [],_,_,_,_,_,_,ho=>by simp at ho
 | _::_,0,_,_,_,_,hj,_=>by omega
 | x::l,n+1,i,h,0,o,_,ho=>by
  simp at ho;subst ho;exact h.1
 | x::l,n+1,i,h,j+1,o,hj,ho=>by
  have:=KsOk.at h.2 j o (by omega) (by simpa using ho)
  rwa [show i+1+j=i+(j+1)by omega]at this
theorem LsOk.at{P:Program}{ds:List Nat}{A:Act}{Φ:Nat→Value→World→Prop}{fr st:Nat→Bool}: ∀ {l:List Oper} {n i:Nat},LsOk P ds A Φ fr st l n i→∀j o,j<n→l[j]?=some o→st (i+j)=false→fr (i+j)=false∧pw P ds A Φ (i+j) o
 | [],_,_,_,_,_,_,ho,_=>by simp at ho
 | _::_,0,_,_,_,_,hj,_,_=>by omega
 | x::l,n+1,i,h,0,o,_,ho,hs=>by
  simp at ho;subst ho
  have h1:=h.1
  rw[U2]at hs
  rw[hs]at h1
  exact h1
 | x::l,n+1,i,h,j+1,o,hj,ho,hs=>by
  have e:i+1+j=i+(j+1):=by omega
  have:=LsOk.at h.2 j o (by omega) (by simpa using ho) (by rw[e];exact hs)
  rwa [e]at this
def Bv:List Nat→Bool | []=>true|d::ds=>!(ds.contains d)&&Bv ds
theorem DK:∀ {ds:List Nat},Bv ds=true→ds.Nodup
 | [],_=>List.nodup_nil
 | d::ds,h=>by
  simp only[Bv,R8,Bool.not_eq_true',List.contains_eq_mem,decide_eq_false_iff_not]at h
  exact Uf.2 ⟨h.1,DK h.2⟩
theorem Ez{P:Program}{id:Nat}{Q:Exit→Act→World→Prop}{a:Act}{w:World}{l:List Oper}(ds:List Nat)(G:World→Prop)(Φ:Nat→Value→World→Prop)(st:Nat→Bool)(fr:Nat→Bool)(hm:P.follows .mixedOrders=true)(hB:VO l.toArray ds.length st=true)(hQ:∀(d:Tmp) (v:Value) c a w,Q (.panic c) (a.put (some d) v) w→Q (.panic c) a w)(hds:((List.range ds.length).all fun i=>((l.toArray[i]?).bind (·.dst))==ds[i]?)=true)(hnb:Bv ds=true)(N:Nat)(hN:a.tmps.size=N)(hlt:ds.all (·<N)=true)(hgd:P6 l.toArray ds.length=true)(hG:G w.drew)(hst:∀i v w w',i<ds.length→Below w.heap.size w w'→Φ i v w→Φ i v w')(hfr:∀i v w,i<ds.length→fr i=true→Φ i v w→∃g,blk v=some g∧g<w.heap.size)(hop:∀A,A=a→KsOk P ds A G Φ fr l ds.length 0)(hlate:∀A,A=a→LsOk P ds A Φ fr st l ds.length 0)(htail:∀u w',G w'→(∀i,i<ds.length→Φ i (u i) w')→(∀i j,i<ds.length→j<ds.length→fr i=true→fr j=true→i≠j→blk (u i)≠blk (u j))→wpList P l.toArray Q (l.drop ds.length) (Z5 a ds 0 u) w'): (Code.region id l.toArray true).wp P Q a w:=by
 rw[← hN]at hlt
 have hnd:=DK hnb
 have hsz:ds.length≤l.toArray.size:=by
  simp only[VO,R8,decide_eq_true_eq]at hB
  exact hB.1.1.1.1.1.1
 have hd:∀i,i<ds.length→∃d,ds[i]?=some d∧d<a.tmps.size∧∀o,l.toArray[i]?=some o→o.dst=some d:=fun i hi=>by
  have h1:=Ls.1 hds i (Lm.2 hi)
  have h2:((l.toArray[i]?).bind (·.dst))=ds[i]?:=by simpa using h1
  refine⟨ds[i],by simp[hi],by simpa using Ls.1 hlt ds[i] (by simp),fun o ho=>?_⟩
  rw[ho]at h2
  have h3:ds[i]?=some ds[i]:=by simp[hi]
  rw[h3]at h2
  exact h2
 have hgg:∀i o,i<ds.length→l.toArray[i]?=some o→∀g c,o.guard=some (g,c)→g<ds.length:=fun i o hi ho g c hg=>by
  have h1:=Ls.1 hgd i (Lm.2 hi)
  rw[ho]at h1
  simp only[hg,decide_eq_true_eq]at h1
  exact h1
 refine C2 ds (fun _ _ u=>Gl a ds u) G Φ st hm hB hQ hds (M1 a ds) hG (Mv hnd ds 0 fun j d h=>by rw[Ld];exact h) hst fr hfr (fun _ _ _=>?_) (fun _ _ _ i hi hs=>?_) htail
 ·have hk:=hop a rfl
  have key:∀n i,i+n=ds.length→OpsOk P l.toArray (Gl a ds) G Φ fr n i:=by
   intro n
   induction n with
   | zero=>intro _ _;trivial
   | succ n ih =>
    intro i hi
    refine⟨fun o ho u W hG hf Q K hK=>?_,ih (i+1) (by omega)⟩
    have h1:=KsOk.at hk i o (by omega) (by simpa using ho)
    rw[Ld]at h1
    have hw:X6 l.toArray i=Gg o:=by unfold X6;rw[ho];rfl
    rw[hw]at hf
    rcases h1 u W hG hf with⟨hw,v,w',hr,hb,hg,hv,hn⟩|⟨hf0,hw,f,args,hr,hc⟩|⟨hf0,hw,hv⟩
    ·rw[DG hnd hd hsz (hgg i o (by omega) ho) hw,if_pos rfl]
     unfold Oper.wp
     rw[hr]
     exact hK v w' hb hg hv hn
    ·rw[DG hnd hd hsz (hgg i o (by omega) ho) hw,if_pos rfl]
     unfold Oper.wp
     rw[hr]
     refine hc.mono ?_
     rintro e w' ⟨v,rfl,hb,hg,hv⟩
     exact hK v w' hb hg hv (fun h=>by rw[hf0]at h;cases h)
    ·rw[DG hnd hd hsz (hgg i o (by omega) ho) hw,if_neg (by simp)]
     exact hK undef W (Below.refl _ _) hG hv (fun h=>by rw[hf0]at h;cases h)
  exact key ds.length 0 (Ld _)
 ·have hlt2:i<l.length:=by simpa using Lb hi hsz
  obtain⟨hf0,hl⟩:=LsOk.at (hlate a rfl) i l[i] hi (by simp[hlt2]) (by rw[Ld];exact hs)
  rw[Ld]at hf0 hl
  refine⟨hf0,fun o ho u W hf=>?_⟩
  have e:o=l[i]:=by
   have h1:l.toArray[i]?=some l[i]:=by simp[hlt2]
   exact Option.some.inj (ho.symm.trans h1)
  subst e
  have hw:X6 l.toArray i=Gg l[i]:=by unfold X6;rw[ho];rfl
  rw[hw]at hf
  obtain⟨v,hwt,hr,hv⟩:=hl u W hf
  exact⟨v,.inl ⟨DG hnd hd hsz (hgg i _ hi ho) hwt,hr⟩,hv⟩
section
variable {P:Program} {G:World→Prop} {Φ:Nat→Value→World→Prop} {fr:Nat→Bool} {i:Nat} {o:Oper} {u:Nat→Value} {ev:Operand→Value} {W:World}
theorem QV(v:Value)(hw:EN u o true)(hf:fr i=false)(hG:G W)(hr:(execOp ev o).run P W=.ok (.value v) W)(hv:Φ i v W): TW P G Φ fr i o u ev W :=
 .inl ⟨hw,v,W,hr,Below.refl _ _,hG,hv,fun h=>by rw[hf]at h;cases h⟩
theorem MW(v:Value)(x:Obj)(hw:EN u o true)(hr:(execOp ev o).run P W=.ok (.value v) (W.alloc x))(hG:G (W.alloc x))(hv:Φ i v (W.alloc x))(hb:blk v=some W.heap.size): TW P G Φ fr i o u ev W :=
 .inl ⟨hw,v,W.alloc x,hr,b1 W x,hG,hv,fun _ g h=>by rw[hb]at h;exact Nat.le_of_eq (Option.some.inj h)⟩
theorem kC{R:Value}(f:FuncId)(args:Array Value)(hw:EN u o true)(hf:fr i=false)(hr:(execOp ev o).run P W=.ok (.enter f args) W)(hc:Calls P f args W fun e w'=>e=.returned R∧Below W.heap.size W w')(hG:∀w',Below W.heap.size W w'→G w')(hv:∀w',Below W.heap.size W w'→Φ i R w'): TW P G Φ fr i o u ev W :=
 .inr (.inl ⟨hf,hw,f,args,hr,hc.mono fun _ w' ⟨h,hb⟩=>⟨R,h,hb,hG w' hb,hv w' hb⟩⟩)
end
abbrev Kn:=Value→World→Prop
def Uk(p:Kn): Prop:=∀v w w',Below w.heap.size w w'→p v w→p v w'
def pn(c:Value): Kn:=fun v _=>v=c
def mS:Kn:=fun _ _=>True
def jD(B:Nat)(t:TypeId)(cs:Array Value): Kn:=fun v W=>∃g,v=.pointer (some ⟨g,0,none⟩)∧B≤g∧Bx W g t cs
def jM(B:Nat)(t:TypeId)(n:Nat)(cs:Array Value): Kn:=fun v W=>∃g,v=.slice (some ⟨g,0,none⟩) n n∧B≤g∧Bx W g t cs
theorem iO(c:Value): Uk (pn c):=fun _ _ _ _ h=>h
theorem bB:Uk mS:=fun _ _ _ _ _=>trivial
theorem WN(B:Nat)(t:TypeId)(cs:Array Value): Uk (jD B t cs):=fun _ _ _ hb ⟨g,e,h1,h⟩=>⟨g,e,h1,h.later hb⟩
theorem dP(B:Nat)(t:TypeId)(n:Nat)(cs:Array Value): Uk (jM B t n cs):=fun _ _ _ hb ⟨g,e,h1,h⟩=>⟨g,e,h1,h.later hb⟩
theorem TU{B:Nat}{t:TypeId}{cs:Array Value}(v:Value)(w:World)(h:jD B t cs v w): ∃g,blk v=some g∧g<w.heap.size:=by
 obtain⟨g,rfl,_,hx⟩:=h
 exact⟨g,rfl,hx.lt⟩
theorem TQ{B:Nat}{t:TypeId}{n:Nat}{cs:Array Value}(v:Value)(w:World)(h:jM B t n cs v w): ∃g,blk v=some g∧g<w.heap.size:=by
 obtain⟨g,rfl,_,hx⟩:=h
 exact⟨g,rfl,hx.lt⟩
theorem V9{w W:World}(h:Below w.heap.size w W): w.heap.size≤W.heap.size:=h.size
theorem YT{P:Program}{ds:List Nat}{A:Act}{G:World→Prop}{Φ:Nat→Value→World→Prop}{fr:Nat→Bool}{i:Nat}{o:Oper}{N:Nat}(hN:A.tmps.size=N)(h:∀(u:Nat→Value) (W:World) (ev:Operand→Value),(∀v,ev (.const v)=v)→(∀f,ev (.func f)=.func (.func f) #[] #[])→(∀ {v:Value} (k j:Nat),Nat.blt k N=true→Nw k ds 0=some j→u j=v→ev (.tmp k)=v)→(∀ {v:Value} (k:Nat),Nat.blt k N=true→Nw k ds 0=none→A.tmps.getD k undef=v→ev (.tmp k)=v) →
  G W→(∀j,(Gg o).contains j=true→Φ j (u j) W)→TW P G Φ fr i o u ev W): oY P ds A G Φ fr i o :=
 fun u W hG hf=>h u W (Gl A ds u).eval (fun _=>rfl) (fun _=>rfl) (fun k j hk=>Kd (by rw[hN];exact Nat.blt_eq.mp hk)) (fun k hk=>C8 (by rw[hN];exact Nat.blt_eq.mp hk)) hG (fun j hj=>hf j (by simpa using hj))
inductive KN where
 | eq (v:Value)
 | any
 | ptr (B:Nat) (t:TypeId) (cs:Array Value)
 | sli (B:Nat) (t:TypeId) (n:Nat) (cs:Array Value)
 | prd (p:Kn) (h:Uk p)
def KN.at:KN→Kn
 | .eq v=>pn v
 | .any=>mS
 | .ptr B t cs=>jD B t cs
 | .sli B t n cs=>jM B t n cs
 | .prd p _=>p
def KN.fresh:KN→Bool
 | .ptr _ _ _=>true
 | .sli _ _ _ _=>true
 | _=>false
theorem KN.stab:∀p:KN,Uk p.at
 | .eq _=>iO _
 | .any=>bB
 | .ptr _ _ _=>WN _ _ _
 | .sli _ _ _ _=>dP _ _ _ _
 | .prd _ h=>h
theorem KN.blk:∀(p:KN),p.fresh=true→∀v w,p.at v w→∃g,blk v=some g∧g<w.heap.size
 | .ptr _ _ _,_=>TU
 | .sli _ _ _ _,_=>TQ
 | .eq _,h=>by cases h
 | .any,h=>by cases h
 | .prd _ _,h=>by cases h
def kA(L:List KN)(i:Nat)(v:Value)(W:World): Prop:=match L[i]? with|some p=>p.at v W|none=>True
def eX(L:List KN)(i:Nat): Bool:=match L[i]? with|some p=>p.fresh|none=>false
theorem iY(L:List KN)(i:Nat)(v:Value)(w w':World)(hb:Below w.heap.size w w')(h:kA L i v w): kA L i v w':=by
 unfold kA at *
 split at h
 ·exact KN.stab _ v w w' hb h
 ·trivial
theorem kK(L:List KN)(i:Nat)(v:Value)(w:World)(hf:eX L i=true)(h:kA L i v w): ∃g,blk v=some g∧g<w.heap.size:=by
 unfold eX at hf
 unfold kA at h
 split at hf
 ·rename_i p e
  rw[e]at h
  exact KN.blk p hf v w h
 ·cases hf
def mP(l:List Oper)(ds:List Nat)(late:List Nat)(N:Nat): Bool :=
 VO l.toArray ds.length (fun i=>!late.contains i)&&((List.range ds.length).all fun i=>((l.toArray[i]?).bind (·.dst))==ds[i]?)&&Bv ds&&ds.all (·<N)&&P6 l.toArray ds.length
section
variable {P:Program} {id:Nat} {Q:Exit→Act→World→Prop} {a:Act} {w:World} {l:List Oper}
theorem Vl(ds:List Nat)(L:List KN)(late:List Nat)(N:Nat)(hm:P.follows .mixedOrders=true)(hQ:∀(d:Tmp) (v:Value) c a w,Q (.panic c) (a.put (some d) v) w→Q (.panic c) a w)(hc:mP l ds late N=true)(hN:a.tmps.size=N)(hop:∀A,A=a→KsOk P ds A (fun W=>Below w.heap.size w W) (kA L) (eX L) l ds.length 0)(hlate:∀A,A=a→LsOk P ds A (kA L) (eX L) (fun i=>!late.contains i) l ds.length 0)(htail:∀u w',Below w.heap.size w w'→(∀i,i<ds.length→kA L i (u i) w')→(∀i j,i<ds.length→j<ds.length→eX L i=true→eX L j=true→i≠j→blk (u i)≠blk (u j))→wpList P l.toArray Q (l.drop ds.length) (Z5 a ds 0 u) w'): (Code.region id l.toArray true).wp P Q a w:=by
 simp only[mP,R8]at hc
 obtain⟨⟨⟨⟨h1,h2⟩,h3⟩,h4⟩,h5⟩:=hc
 exact Ez ds (fun W=>Below w.heap.size w W) (kA L) (fun i=>!late.contains i) (eX L) hm h1 hQ h2 h3 N hN h4 h5 (Below.refl _ _).drew (fun i v w w' _ hb h=>iY L i v w w' hb h) (fun i v w _ hf h=>kK L i v w hf h) hop hlate htail
theorem Ff{ds:List Nat}{A:Act}{Φ:Nat→Value→World→Prop}{fr:Nat→Bool}: ∀(l:List Oper) (n i:Nat),LsOk P ds A Φ fr (fun i=>!([]:List Nat).contains i) l n i
 | [],_,_=>trivial
 | _::_,0,_=>trivial
 | _::l,n+1,i=>⟨trivial,Ff l n (i+1)⟩
theorem Kx(ds:List Nat)(L:List KN)(N:Nat)(hm:P.follows .mixedOrders=true)(hQ:∀(d:Tmp) (v:Value) c a w,Q (.panic c) (a.put (some d) v) w→Q (.panic c) a w)(hc:mP l ds [] N=true)(hN:a.tmps.size=N)(hop:∀A,A=a→KsOk P ds A (fun W=>Below w.heap.size w W) (kA L) (eX L) l ds.length 0)(htail:∀u w',Below w.heap.size w w'→(∀i,i<ds.length→kA L i (u i) w')→(∀i j,i<ds.length→j<ds.length→eX L i=true→eX L j=true→i≠j→blk (u i)≠blk (u j))→wpList P l.toArray Q (l.drop ds.length) (Z5 a ds 0 u) w'): (Code.region id l.toArray true).wp P Q a w :=
 Vl ds L [] N hm hQ hc hN hop (fun _ _=>Ff _ _ _) htail
end
section
variable {P:Program} {Φ:Nat→Value→World→Prop} {fr:Nat→Bool} {i:Nat} {o:Oper} {u:Nat→Value} {ev:Operand→Value} {W S:World}
theorem EL{R:Value}{f:FuncId}{args:Array Value}(hw:EN u o true)(hf:fr i=false)(hr:(execOp ev o).run P W=.ok (.enter f args) W)(hc:Calls P f args W fun e w'=>e=.returned R∧Below W.heap.size W w')(hG:Below S.heap.size S W)(hv:∀w',Below W.heap.size W w'→Φ i R w'): TW P (fun W=>Below S.heap.size S W) Φ fr i o u ev W :=
 kC f args hw hf hr hc (fun _ hb=>nxt hG hb) hv
end
def VQ(w:World)(g:Nat): Nat→List Value→World
 | _,[]=>w
 | k,v::vs=>VQ (w.setCell ⟨g,k,none⟩ v) g (k+1) vs
def gt(cs:Array Value): Nat→List Value→Array Value
 | _,[]=>cs
 | k,v::vs=>gt (cs.setIfInBounds k v) (k+1) vs
theorem Bx.farN{g g':Nat}{t:TypeId}{cs:Array Value}(hp:g≠g'): ∀(vs:List Value) (k:Nat) {w:World},Bx w g t cs→Bx (VQ w g' k vs) g t cs
 | [],_,_,h=>h
 | v::vs,k,_,h=>Bx.farN hp vs (k+1) (h.far (p:=⟨g',k,none⟩) hp v)
theorem Bx.stores{g:Nat}{t:TypeId}: ∀(vs:List Value) (k:Nat) {w:World} {cs:Array Value},Bx w g t cs→Bx (VQ w g k vs) g t (gt cs k vs)
 | [],_,_,_,h=>h
 | v::vs,k,_,_,h=>Bx.stores vs (k+1) (h.set k v)
theorem pr{B g:Nat}{a:World}(hg:B≤g): ∀(vs:List Value) (k:Nat) {w:World},Below B a w→Below B a (VQ w g k vs)
 | [],_,_,h=>h
 | v::vs,k,_,h=>pr hg vs (k+1) (h.setCell hg v)
theorem Bx.k1{w:World}{g:Nat}{t:TypeId}{x0:Value}(h:Bx w g t #[x0]): w.cell? ⟨g,0,none⟩=some x0∧w.frozen? ⟨g,0,none⟩=false :=
 ⟨h.cel 0,h.free 0⟩
