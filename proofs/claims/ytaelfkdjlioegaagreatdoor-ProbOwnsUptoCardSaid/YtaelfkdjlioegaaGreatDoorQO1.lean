/- The walks and plain laws beneath the statements. -/
import Derived.Below
import Derived.Lib.BitFns
import Derived.Lib.TrailingZeros
import Derived.Deep.Draws
import Derived.Lib.Hide
import Derived.WalkKit
import Derived.WalkSpells
import Derived.WalkLawsBesides
import Derived.WalkSmall
import Derived.Deep.OwnRows
import Derived.Laws.CopyOwn
import Derived.Laws.BytesArg
import Derived.StillTail
import Derived.OrdersHeld
namespace Go.Proofs.YtaelfkdjlioegaaGreatDoor
def LB:Nat:=18446744073709551616
theorem LB_eq:LB=18446744073709551616:=rfl
theorem LB_pow:LB=2^64:=rfl
theorem LB_pos:0<LB:=by decide
def dgt(B v j:Nat): Nat:=v / B^j % B
theorem dgt_lt{B:Nat}(h:0<B)(v j:Nat): dgt B v j<B:=Nat.mod_lt _ h
theorem dgt_zero(B j:Nat): dgt B 0 j=0:=by simp[dgt]
theorem dgt_big{B v j:Nat}(h:v<B^j): dgt B v j=0:=by
 unfold dgt;rw[Nat.div_eq_of_lt h];simp
theorem dgt_big'{B v n j:Nat}(hB:0<B)(h:v<B^n)(hj:n≤j): dgt B v j=0 :=
 dgt_big (Nat.lt_of_lt_of_le h (Nat.pow_le_pow_right hB hj))
theorem mod_succ(B v k:Nat): v % B^(k+1)=v % B^k+B^k*dgt B v k:=by
 unfold dgt
 rw[Nat.pow_succ,Nat.mod_mul]
theorem split3(B v k:Nat): v=v % B^k+B^k*(dgt B v k+B*(v / B^(k+1))):=by
 have h1:=Nat.mod_add_div v (B^k)
 have h2:=Nat.mod_add_div (v / B^k) B
 rw[Nat.div_div_eq_div_mul,← Nat.pow_succ]at h2
 have h2':dgt B v k+B*(v / B^(k+1))=v / B^k:=h2
 rw[h2']
 exact h1.symm
theorem dgt_mod{B v n j:Nat}(h:j<n): dgt B (v % B^n) j=dgt B v j:=by
 unfold dgt
 obtain⟨d,rfl⟩:∃d,n=j+(d+1):=⟨n-j-1,by omega⟩
 rw[Nat.pow_add,Nat.mod_mul_right_div_self,Nat.pow_succ,Nat.mul_comm (B^d),Nat.mod_mul_right_mod]
theorem dgt_ext{B:Nat}: ∀ {n u v:Nat},u<B^n→v<B^n→(∀j,j<n→dgt B u j=dgt B v j)→u=v:=by
 intro n
 induction n with
 | zero=>intro u v hu hv _;simp at hu hv;omega
 | succ n ih =>
  intro u v hu hv h
  have hu':u % B^(n+1)=u:=Nat.mod_eq_of_lt hu
  have hv':v % B^(n+1)=v:=Nat.mod_eq_of_lt hv
  rw[mod_succ]at hu' hv'
  by_cases hB:B=0
  ·subst hB;simp at hu
  have hp:0<B^n:=Nat.pow_pos (Nat.pos_of_ne_zero hB)
  have e:u % B^n=v % B^n:=ih (Nat.mod_lt _ hp) (Nat.mod_lt _ hp) fun j hj=>by
   rw[dgt_mod hj,dgt_mod hj];exact h j (by omega)
  rw[← hu',← hv',e,h n (by omega)]
theorem dgt_div(B v n j:Nat): dgt B (v / B^n) j=dgt B v (n+j):=by
 unfold dgt
 rw[Nat.div_div_eq_div_mul,← Nat.pow_add]
theorem dgt_put{B u d k:Nat}(hB:0<B)(hu:u<B^k)(hd:d<B)(j:Nat):
  dgt B (u+B^k*d) j=if j<k then dgt B u j else if j=k then d else 0:=by
 by_cases h:j<k
 ·rw[if_pos h,← dgt_mod h,Nat.add_mul_mod_self_left,dgt_mod h]
 ·rw[if_neg h]
  by_cases e:j=k
  ·subst e
   rw[if_pos rfl]
   unfold dgt
   rw[Nat.add_mul_div_left _ _ (Nat.pow_pos hB),Nat.div_eq_of_lt hu,Nat.zero_add,Nat.mod_eq_of_lt hd]
  ·rw[if_neg e]
   refine dgt_big' (n:=k+1) hB ?_ (by omega)
   rw[Nat.pow_succ]
   calc u+B^k*d<B^k+B^k*d:=by omega
    _=B^k*(d+1):=by rw[Nat.mul_add,Nat.mul_one,Nat.add_comm]
    _≤B^k*B:=Nat.mul_le_mul_left _ hd
def carry(B x y k:Nat): Nat:=(x % B^k+y % B^k) / B^k
theorem carry_zero(B x y:Nat): carry B x y 0=0:=by simp[carry,Nat.mod_one]
theorem carry_le{B:Nat}(hB:0<B)(x y k:Nat): carry B x y k≤1:=by
 unfold carry
 have hp:=Nat.pow_pos (n:=k) hB
 have h1:=Nat.mod_lt x hp
 have h2:=Nat.mod_lt y hp
 have:(x % B^k+y % B^k) / B^k<2:=by rw[Nat.div_lt_iff_lt_mul hp];omega
 omega
theorem carry_succ{B:Nat}(hB:0<B)(x y k:Nat): carry B x y (k+1)=(dgt B x k+dgt B y k+carry B x y k) / B:=by
 unfold carry
 have hp:=Nat.pow_pos (n:=k) hB
 rw[mod_succ,mod_succ,show x % B^k+B^k*dgt B x k+(y % B^k+B^k*dgt B y k)=(x % B^k+y % B^k)+B^k*(dgt B x k+dgt B y k)by rw[Nat.mul_add];omega,
  Nat.pow_succ,← Nat.div_div_eq_div_mul,Nat.add_mul_div_left _ _ hp,Nat.add_comm]
theorem dgt_add{B:Nat}(hB:0<B)(x y k:Nat): dgt B (x+y) k=(dgt B x k+dgt B y k+carry B x y k) % B:=by
 have hp:=Nat.pow_pos (n:=k) hB
 have e:x+y=(x % B^k+y % B^k)+B^k*(x / B^k+y / B^k):=by
  have h1:=Nat.mod_add_div x (B^k)
  have h2:=Nat.mod_add_div y (B^k)
  rw[Nat.mul_add];omega
 have e2:(x+y) / B^k=carry B x y k+(x / B^k+y / B^k):=by
  unfold carry
  rw[e,Nat.add_mul_div_left _ _ hp]
 unfold dgt
 rw[e2,Nat.add_comm (carry B x y k),Nat.add_mod (x / B^k+y / B^k),Nat.add_mod (x / B^k),Nat.add_mod (x / B^k % B+y / B^k % B)]
def borrow(B x y k:Nat): Nat:=if x % B^k<y % B^k then 1 else 0
theorem borrow_zero(B x y:Nat): borrow B x y 0=0:=by simp[borrow,Nat.mod_one]
theorem borrow_le(B x y k:Nat): borrow B x y k≤1:=by unfold borrow;split<;>omega
theorem borrow_succ{B:Nat}(hB:0<B)(x y k:Nat): borrow B x y (k+1)=if dgt B x k<dgt B y k+borrow B x y k then 1 else 0:=by
 have hp:=Nat.pow_pos (n:=k) hB
 unfold borrow
 rw[mod_succ,mod_succ]
 have h1:=Nat.mod_lt x hp
 have h2:=Nat.mod_lt y hp
 generalize dgt B x k=a
 generalize dgt B y k=b
 generalize x % B^k=p at *
 generalize y % B^k=q at *
 generalize B^k=m at *
 have key:(p+m*a<q+m*b)↔(a<b+if p<q then 1 else 0):=by
  by_cases hpq:p<q
  ·rw[if_pos hpq]
   constructor
   ·intro h
    apply Nat.lt_of_not_le
    intro hle
    obtain⟨d,rfl⟩:∃d,a=b+1+d:=⟨a-b-1,by omega⟩
    rw[Nat.mul_add,Nat.mul_add,Nat.mul_one]at h
    have:0≤m*d:=Nat.zero_le _
    omega
   ·intro h
    have:m*a≤m*b:=Nat.mul_le_mul_left _ (by omega)
    omega
  ·rw[if_neg hpq]
   constructor
   ·intro h
    apply Nat.lt_of_not_le
    intro hle
    have:m*b≤m*a:=Nat.mul_le_mul_left _ (by omega)
    omega
   ·intro h
    have:m*(a+1)≤m*b:=Nat.mul_le_mul_left _ (by omega)
    rw[Nat.mul_add,Nat.mul_one]at this
    omega
 by_cases hc:p+m*a<q+m*b
 ·rw[if_pos hc,if_pos (key.1 hc)]
 ·rw[if_neg hc,if_neg (fun h=>hc (key.2 h))]
theorem dgt_sub{B:Nat}(hB:0<B){x y:Nat}(hyx:y≤x)(k:Nat): dgt B (x-y) k=(dgt B x k+B-dgt B y k-borrow B x y k) % B:=by
 have hp:=Nat.pow_pos (n:=k) hB
 obtain⟨z,rfl⟩:∃z,x=z+y:=⟨x-y,by omega⟩
 rw[Nat.add_sub_cancel]
 have hadd:=dgt_add hB z y k
 have hz:=dgt_lt hB z k
 have hy:=dgt_lt hB y k
 have hc:=carry_le hB z y k
 have hcb:borrow B (z+y) y k=carry B z y k:=by
  unfold borrow carry
  have h1:=Nat.mod_lt z hp
  have h2:=Nat.mod_lt y hp
  rw[Nat.add_mod]
  generalize z % B^k=p at *
  generalize y % B^k=q at *
  generalize B^k=m at *
  by_cases hlt:p+q<m
  ·rw[Nat.mod_eq_of_lt hlt,Nat.div_eq_of_lt hlt,if_neg (by omega)]
  ·have e:(p+q) % m=p+q-m:=by
    rw[Nat.mod_eq_sub_mod (by omega),Nat.mod_eq_of_lt (show p+q-m<m by omega)]
   have e2:(p+q) / m=1:=by
    rw[Nat.div_eq_sub_div hp (by omega),Nat.div_eq_of_lt (show p+q-m<m by omega)]
   rw[e,e2,if_pos (by omega)]
 rw[hadd,hcb]
 generalize dgt B z k=a at *
 generalize dgt B y k=b at *
 generalize carry B z y k=c at *
 by_cases hlt:a+b+c<B
 ·rw[Nat.mod_eq_of_lt hlt,show a+b+c+B-b-c=a+B by omega,Nat.add_mod_right,Nat.mod_eq_of_lt hz]
 ·rw[Nat.mod_eq_sub_mod (by omega:a+b+c≥B),Nat.mod_eq_of_lt (by omega:a+b+c-B<B)]
  rw[show a+b+c-B+B-b-c=a by omega,Nat.mod_eq_of_lt hz]
def nd(k v:Nat): Nat:=if v=0 then 0 else Nat.log2 v / k+1
theorem nd_zero(k:Nat): nd k 0=0:=rfl
theorem pow2_pow(k n:Nat): (2^k)^n=2^(k*n):=(Nat.pow_mul 2 k n).symm
theorem nd_lt{k:Nat}(hk:0<k)(v:Nat): v<(2^k)^nd k v:=by
 unfold nd
 split
 ·rename_i h;subst h;simp
 ·rename_i h
  rw[pow2_pow]
  refine(Nat.log2_lt h).1 ?_
  have:=Nat.lt_div_mul_add (a:=Nat.log2 v) hk
  rw[Nat.mul_add,Nat.mul_one,Nat.mul_comm];omega
theorem nd_le{k:Nat}(v:Nat)(h:v≠0): (2^k)^(nd k v-1)≤v:=by
 unfold nd
 rw[if_neg h,Nat.add_sub_cancel,pow2_pow]
 refine(Nat.le_log2 h).1 ?_
 rw[Nat.mul_comm];exact Nat.div_mul_le_self _ _
theorem nd_le_of_lt{k n v:Nat}(hk:0<k)(h:v<(2^k)^n): nd k v≤n:=by
 by_cases h0:v=0
 ·subst h0;simp[nd_zero]
 ·have h1:=nd_le (k:=k) v h0
  have h2:1<2^k:=Nat.one_lt_two_pow (by omega)
  have h3:=(Nat.pow_lt_pow_iff_right h2).1 (Nat.lt_of_le_of_lt h1 h)
  omega
theorem nd_pos{k v:Nat}(h:v≠0): 0<nd k v:=by unfold nd;rw[if_neg h];exact Nat.succ_pos _
theorem lt_nd{k n v:Nat}(hk:0<k)(h:(2^k)^n≤v): n<nd k v:=by
 have h1:=nd_lt hk v
 have h2:1<2^k:=Nat.one_lt_two_pow (by omega)
 exact(Nat.pow_lt_pow_iff_right h2).1 (Nat.lt_of_le_of_lt h h1)
theorem nd_eq{k n v:Nat}(hk:0<k)(h:v<(2^k)^n)(h':0<n→(2^k)^(n-1)≤v): nd k v=n:=by
 have h1:=nd_le_of_lt hk h
 rcases Nat.eq_zero_or_pos n with h0|h0
 ·omega
 ·have:=lt_nd hk (h' h0)
  omega
theorem nd_mono{k u v:Nat}(hk:0<k)(h:u≤v): nd k u≤nd k v :=
 nd_le_of_lt hk (Nat.lt_of_le_of_lt h (nd_lt hk v))
theorem nd_of_dgts{k n m v:Nat}(hk:0<k)(h:v<(2^k)^n)(hmn:m≤n)(hz:∀j,m≤j→j<n→dgt (2^k) v j=0)(ht:0<m→dgt (2^k) v (m-1)≠0): nd k v=m:=by
 have hB:=Nat.two_pow_pos k
 have hv:v<(2^k)^m:=by
  have e:v=v % (2^k)^m:=by
   refine dgt_ext h (Nat.lt_of_lt_of_le (Nat.mod_lt _ (Nat.pow_pos hB)) (Nat.pow_le_pow_right hB hmn)) fun j hj=>?_
   by_cases hjm:j<m
   ·rw[dgt_mod hjm]
   ·rw[hz j (by omega) hj,dgt_big' hB (Nat.mod_lt _ (Nat.pow_pos hB)) (by omega)]
  rw[e];exact Nat.mod_lt _ (Nat.pow_pos hB)
 refine nd_eq hk hv fun h0=>?_
 apply Nat.le_of_not_lt
 intro hlt
 exact ht h0 (dgt_big hlt)
theorem lt_of_nd_lt{k u v:Nat}(hk:0<k)(h:nd k u<nd k v): u<v:=by
 apply Nat.lt_of_not_le
 intro hle
 have:=nd_mono hk hle
 omega
theorem lt_of_dgt{B u v k n:Nat}(hB:0<B)(hu:u<B^n)(hv:v<B^n)(_hkn:k<n)(he:∀j,k<j→j<n→dgt B u j=dgt B v j)(hd:dgt B u k<dgt B v k): u<v:=by
 have e:u / B^(k+1)=v / B^(k+1):=by
  refine dgt_ext (n:=n) (Nat.lt_of_le_of_lt (Nat.div_le_self _ _) hu) (Nat.lt_of_le_of_lt (Nat.div_le_self _ _) hv) fun j hj=>?_
  rw[dgt_div,dgt_div]
  by_cases hj2:k+1+j<n
  ·exact he _ (by omega) hj2
  ·rw[dgt_big' hB hu (by omega),dgt_big' hB hv (by omega)]
 rw[split3 B u k,split3 B v k,e]
 have hp:=Nat.pow_pos (n:=k) hB
 have h1:=Nat.mod_lt u hp
 have h2:B^k*(dgt B u k+B*(v / B^(k+1))+1)≤B^k*(dgt B v k+B*(v / B^(k+1))):=Nat.mul_le_mul_left _ (by omega)
 rw[Nat.mul_add _ _ 1,Nat.mul_one]at h2
 generalize u % B^k=p at *
 generalize v % B^k=q at *
 generalize B^k*(dgt B u k+B*(v / B^(k+1)))=r at *
 generalize B^k*(dgt B v k+B*(v / B^(k+1)))=s at *
 omega
def bval(l:List UInt8): Nat:=l.foldl (fun a c=>a*256+c.toNat) 0
theorem snocRec_aux{α:Type}{motive:List α→Prop}(nil:motive [])(snoc:∀l a,motive l→motive (l++[a])): ∀l:List α,motive l.reverse:=by
 intro l
 induction l with
 | nil=>exact nil
 | cons a l ih=>rw[List.reverse_cons];exact snoc _ _ ih
theorem snocRec{α:Type}{motive:List α→Prop}(l:List α)(nil:motive [])(snoc:∀l a,motive l→motive (l++[a])): motive l:=by
 have:=snocRec_aux nil snoc l.reverse
 rwa [List.reverse_reverse]at this
theorem bval_snoc(l:List UInt8)(c:UInt8): bval (l++[c])=bval l*256+c.toNat:=by simp[bval,List.foldl_append]
theorem bval_lt(l:List UInt8): bval l<256^l.length:=by
 induction l using snocRec with
 | nil=>decide
 | snoc l c ih =>
  rw[bval_snoc,List.length_append,List.length_singleton,Nat.pow_succ]
  have:=c.toNat_lt
  omega
theorem dgt_bval(l:List UInt8)(i:Nat)(h:i<l.length): dgt 256 (bval l) i=(l[l.length-1-i]'(by omega)).toNat:=by
 induction l using snocRec generalizing i with
 | nil=>simp at h
 | snoc l c ih =>
  have hc:=c.toNat_lt
  rw[bval_snoc]
  rcases i with _|i
  ·simp[dgt]
  ·have e:dgt 256 (bval l*256+c.toNat) (i+1)=dgt 256 (bval l) i:=by
    unfold dgt
    rw[Nat.pow_succ',← Nat.div_div_eq_div_mul]
    congr 2
    omega
   have hi:i<l.length:=by simpa using h
   rw[e,ih i hi]
   congr 1
   rw[List.getElem_append_left (by simp;omega)]
   congr 1
   simp only[List.length_append,List.length_singleton];omega
theorem dgt_or{u q e d f:Nat}(hu:u<LB^q*2^e)(hd:d<2^f)(hef:e+f≤64)(j:Nat):
  dgt LB (u+LB^q*(2^e*d)) j=if j=q then dgt LB u q ||| (d*2^e)else dgt LB u j:=by
 have hp:=Nat.pow_pos (n:=q) LB_pos
 have h0:=Nat.mod_add_div u (LB^q)
 have hlo:=Nat.mod_lt u hp
 have hh:u / LB^q<2^e:=(Nat.div_lt_iff_lt_mul hp).2 (by rw[Nat.mul_comm];exact hu)
 generalize u % LB^q=lo at *
 generalize u / LB^q=h at *
 have h64:2^e*2^f≤LB:=by rw[LB_pow,← Nat.pow_add];exact Nat.pow_le_pow_right (by decide) hef
 have hle:2^e≤LB:=Nat.le_trans (Nat.le_mul_of_pos_right _ (Nat.two_pow_pos f)) h64
 have hsum:h+2^e*d<LB:=by
  have:2^e*(d+1)≤2^e*2^f:=Nat.mul_le_mul_left _ hd
  rw[Nat.mul_add,Nat.mul_one]at this
  omega
 have e1:u+LB^q*(2^e*d)=lo+LB^q*(h+2^e*d):=by rw[Nat.mul_add,← h0];omega
 rw[e1,dgt_put LB_pos hlo hsum,← h0,dgt_put LB_pos hlo (Nat.lt_of_lt_of_le hh hle),dgt_put LB_pos hlo (Nat.lt_of_lt_of_le hh hle)]
 by_cases hj:j=q
 ·subst hj
  simp only[Nat.lt_irrefl,if_false,if_true]
  rw[Nat.or_comm,Nat.mul_comm d,← Nat.two_pow_add_eq_or_of_lt hh d];omega
 ·by_cases hj2:j<q
  ·simp[hj,hj2]
  ·simp[hj,hj2]
theorem dgt_byte(V k j:Nat): dgt LB (V % 256^(k+1)) j=if j=k / 8 then dgt LB (V % 256^k) (k / 8) ||| (dgt 256 V k*2^(k % 8*8))else dgt LB (V % 256^k) j:=by
 have e:256^k=LB^(k / 8)*2^(k % 8*8):=by
  rw[LB_pow,show 256=2^8 from rfl,← Nat.pow_mul,← Nat.pow_mul,← Nat.pow_add];congr 1;omega
 have h:=dgt_or (u:=V % 256^k) (q:=k / 8) (e:=k % 8*8) (d:=dgt 256 V k) (f:=8) (by rw[← e];exact Nat.mod_lt _ (Nat.pow_pos (by decide))) (dgt_lt (B:=256) (by decide) _ _) (by omega) j
 rw[← h,mod_succ,e,Nat.mul_assoc]
theorem byte_shl_lt{d r:Nat}(hd:d<256)(hr:r<8): d*2^(r*8)<LB:=by
 have h1:d*2^(r*8)<2^8*2^(r*8):=Nat.mul_lt_mul_of_pos_right hd (Nat.two_pow_pos _)
 rw[← Nat.pow_add]at h1
 exact Nat.lt_of_lt_of_le h1 (by rw[LB_pow];exact Nat.pow_le_pow_right (by decide) (by omega))
theorem nd_shift{m v:Nat}(h:v / 2^m≠0): nd 1 v=m+nd 1 (v / 2^m):=by
 have h1:=nd_lt (k:=1) (by decide) (v / 2^m)
 have h2:=nd_le (k:=1) (v / 2^m) h
 have h3:=nd_pos (k:=1) h
 have hp:=Nat.two_pow_pos m
 simp only[Nat.pow_one]at h1 h2
 refine nd_eq (k:=1) (by decide) ?_ (fun _=>?_)
 ·rw[Nat.pow_one,Nat.pow_add,Nat.mul_comm]
  exact(Nat.div_lt_iff_lt_mul hp).1 h1
 ·rw[Nat.pow_one,show m+nd 1 (v / 2^m)-1=m+(nd 1 (v / 2^m)-1)by omega,Nat.pow_add,Nat.mul_comm]
  exact(Nat.le_div_iff_mul_le hp).1 h2
theorem bitLen_nd(x:Nat)(hx:x<2^64): Lib.bitLen x=nd 1 x:=by
 by_cases h0:x=0
 ·subst h0;decide
 ·have h1:=nd_lt (k:=1) (by decide) x
  have h2:=nd_le (k:=1) x h0
  have h3:=nd_pos (k:=1) h0
  have h4:nd 1 x≤64:=nd_le_of_lt (by decide) (by simpa using hx)
  simp only[Nat.pow_one]at h1 h2
  have h5:=Lib.bitLen_le x (nd 1 x) h4 h1
  have h6:=Lib.bitLen_shift _ x h2 hx
  have h7:x / 2^(nd 1 x-1)≠0:=by
   have:=Nat.div_pos h2 (Nat.two_pow_pos _)
   omega
  have h8:=Lib.bitLen_half _ h7 (Nat.lt_of_le_of_lt (Nat.div_le_self _ _) hx)
  omega
theorem nd1_top{v:Nat}(h:v≠0): nd 1 v=64*(nd 64 v-1)+nd 1 (dgt LB v (nd 64 v-1)):=by
 have h1:=nd_lt (k:=64) (by decide) v
 have h2:=nd_le (k:=64) v h
 have h3:=nd_pos (k:=64) h
 have e:dgt LB v (nd 64 v-1)=v / 2^(64*(nd 64 v-1)):=by
  unfold dgt
  rw[LB_pow,pow2_pow]
  refine Nat.mod_eq_of_lt ?_
  rw[Nat.div_lt_iff_lt_mul (Nat.two_pow_pos _),← Nat.pow_add]
  rw[pow2_pow]at h1
  rwa [show 64+64*(nd 64 v-1)=64*nd 64 v by omega]
 rw[e]
 refine nd_shift ?_
 rw[pow2_pow]at h2
 have:=Nat.div_pos h2 (Nat.two_pow_pos _)
 omega
theorem nd_bytes(v:Nat): (nd 1 v+7) / 8=nd 8 v:=by
 by_cases h:v=0
 ·subst h;simp[nd_zero]
 ·unfold nd
  rw[if_neg h,if_neg h]
  omega
theorem dgt_of_limb(v i:Nat): dgt LB v (i / 8) / 2^(i % 8*8) % 256=dgt 256 v i:=by
 unfold dgt
 have e:256^i=LB^(i / 8)*2^(i % 8*8):=by
  rw[LB_pow,show 256=2^8 from rfl,← Nat.pow_mul,← Nat.pow_mul,← Nat.pow_add];congr 1;omega
 rw[e,← Nat.div_div_eq_div_mul]
 generalize v / LB^(i / 8)=x
 have h8:i % 8<8:=Nat.mod_lt _ (by decide)
 generalize i % 8=r at *
 have e2:LB=2^(r*8)*(256*2^(64-8-r*8)):=by
  rw[LB_pow,show 256=2^8 from rfl,← Nat.pow_add,← Nat.pow_add];congr 1;omega
 rw[e2,Nat.mod_mul_right_div_self,Nat.mod_mul_right_mod]
def nbytes(v:Nat): List UInt8:=(List.range (nd 8 v)).map fun j=>UInt8.ofNat (dgt 256 v (nd 8 v-1-j))
def nstr(v:Nat): ByteArray:=⟨(nbytes v).toArray⟩
def cmpI(u v:Nat): Int:=if u<v then -1 else if u=v then 0 else 1
theorem mul_pow_mod{d s:Nat}(hs:s≤64): d*2^s % LB=d % 2^(64-s)*2^s:=by
 have e:LB=2^(64-s)*2^s:=by rw[LB_pow,← Nat.pow_add];congr 1;omega
 rw[e,Nat.mul_mod_mul_right]
theorem dgt_up{u at_ d s:Nat}(hu:u<LB^at_*2^s)(hd:d<LB)(hs:s<64)(j:Nat):
  dgt LB (u+LB^at_*(2^s*d)) j=if j=at_ then dgt LB u at_ ||| (d*2^s % LB)else if j=at_+1 then d / 2^(64-s)else dgt LB u j:=by
 have hp:=Nat.pow_pos (n:=at_) LB_pos
 have e1:2^s*d=2^s*(d % 2^(64-s))+LB*(d / 2^(64-s)):=by
  have h:=Nat.mod_add_div d (2^(64-s))
  have e:LB=2^s*2^(64-s):=by rw[LB_pow,← Nat.pow_add];congr 1;omega
  rw[e,Nat.mul_assoc,← Nat.mul_add,h]
 have hlow:d % 2^(64-s)<2^(64-s):=Nat.mod_lt _ (Nat.two_pow_pos _)
 have h1:=fun j=>dgt_or (u:=u) (q:=at_) (e:=s) (d:=d % 2^(64-s)) (f:=64-s) hu hlow (by omega) j
 have hU:u+LB^at_*(2^s*(d % 2^(64-s)))<LB^(at_+1):=by
  have e:LB=2^s*2^(64-s):=by rw[LB_pow,← Nat.pow_add];congr 1;omega
  rw[Nat.pow_succ]
  have:LB^at_*(2^s*(d % 2^(64-s)+1))≤LB^at_*LB:=Nat.mul_le_mul_left _ (by rw[e];exact Nat.mul_le_mul_left _ hlow)
  rw[Nat.mul_add,Nat.mul_add,Nat.mul_one]at this
  omega
 have hhi:d / 2^(64-s)<LB:=Nat.lt_of_le_of_lt (Nat.div_le_self _ _) hd
 rw[e1,Nat.mul_add,← Nat.add_assoc,← Nat.mul_assoc (LB^at_) LB,← Nat.pow_succ,dgt_put LB_pos hU hhi,h1,mul_pow_mod (by omega)]
 by_cases ha:j=at_
 ·subst ha;simp
 ·by_cases hb:j=at_+1
  ·subst hb;simp
  ·by_cases hc:j<at_+1
   ·simp[ha,hb,hc]
   ·simp only[ha,hb,hc,if_false]
    rw[dgt_big' (n:=at_+1) LB_pos ?_ (by omega)]
    rw[Nat.pow_succ]
    refine Nat.lt_of_lt_of_le hu (Nat.mul_le_mul_left _ ?_)
    rw[LB_pow];exact Nat.pow_le_pow_right (by decide) (by omega)
theorem dgt_down(v q s i:Nat)(hs:s<64): dgt LB (v / 2^(64*q+s)) i=(dgt LB v (q+i) / 2^s) ||| (dgt LB v (q+i+1)*2^(64-s) % LB):=by
 have e:LB=2^s*2^(64-s):=by rw[LB_pow,← Nat.pow_add];congr 1;omega
 have e1:v / 2^(64*q+s) / LB^i=v / LB^(q+i) / 2^s:=by
  rw[Nat.div_div_eq_div_mul,Nat.div_div_eq_div_mul]
  congr 1
  rw[LB_pow,pow2_pow,pow2_pow,← Nat.pow_add,← Nat.pow_add];congr 1;omega
 have e2:dgt LB v (q+i+1)=v / LB^(q+i) / LB % LB:=by unfold dgt;rw[Nat.pow_succ,Nat.div_div_eq_div_mul]
 have e3:dgt LB v (q+i)=v / LB^(q+i) % LB:=rfl
 unfold dgt at *
 rw[e1,e2,e3]
 generalize v / LB^(q+i)=y
 have h:=Nat.mod_add_div y LB
 have ha:y % LB<LB:=Nat.mod_lt _ LB_pos
 generalize y % LB=a at *
 generalize y / LB=z at *
 rw[← h,mul_pow_mod (by omega),show 64-(64-s)=s by omega]
 have h1:(a+LB*z) / 2^s=a / 2^s+2^(64-s)*z:=by
  rw[e,Nat.mul_assoc,Nat.add_mul_div_left _ _ (Nat.two_pow_pos s)]
 have h2:a / 2^s<2^(64-s):=(Nat.div_lt_iff_lt_mul (Nat.two_pow_pos s)).2 (by rw[Nat.mul_comm,← e];exact ha)
 rw[h1]
 have h3:(a / 2^s+2^(64-s)*z) % LB=2^(64-s)*(z % 2^s)+a / 2^s:=by
  rw[e,Nat.mul_comm (2^s) (2^(64-s)),Nat.mod_mul,Nat.add_mul_mod_self_left,Nat.mod_eq_of_lt h2,Nat.add_mul_div_left _ _ (Nat.two_pow_pos _),Nat.div_eq_of_lt h2,Nat.zero_add]
  omega
 rw[h3,Nat.two_pow_add_eq_or_of_lt h2,Nat.or_comm,Nat.mul_comm (2^(64-s)),Nat.mod_mod_of_dvd z (Nat.pow_dvd_pow 2 (by omega:s≤64) |> fun h=>by rw[LB_pow];exact h)]
theorem nd_bval(l:List UInt8): nd 64 (bval l)≤(l.length+7) / 8:=by
 refine nd_le_of_lt (by decide) (Nat.lt_of_lt_of_le (bval_lt l) ?_)
 rw[pow2_pow,show 256=2^8 from rfl,← Nat.pow_mul]
 exact Nat.pow_le_pow_right (by decide) (by omega)
theorem cmpI_lt{u v:Nat}: cmpI u v<0↔u<v:=by unfold cmpI;split<;>(try split)<;>omega
def sumTo(f:Nat→Nat): Nat→Nat|0=>0|k+1=>sumTo f k+f k
theorem sumTo_lt{f:Nat→Nat}{M:Nat}(h:∀j,f j<LB^M): ∀k,sumTo f k<LB^(M+k)
 | 0=>by show 0<_;exact Nat.pow_pos LB_pos
 | k+1=>by
  have h1:=sumTo_lt h k
  have h2:=h k
  have h3:LB^M≤LB^(M+k):=Nat.pow_le_pow_right LB_pos (by omega)
  show sumTo f k+f k<LB^(M+k+1)
  rw[Nat.pow_succ]
  have h4:LB^(M+k)*2≤LB^(M+k)*LB:=Nat.mul_le_mul_left _ (by decide)
  omega
theorem two_odd{a b m n:Nat}(h:2^a*(2*m+1)=2^b*(2*n+1)): a=b:=by
 rcases Nat.lt_trichotomy a b with hl|hl|hl
 ·exfalso
  obtain⟨d,rfl⟩:∃d,b=a+(d+1):=⟨b-a-1,by omega⟩
  rw[Nat.pow_add,Nat.mul_assoc]at h
  have h2:=Nat.eq_of_mul_eq_mul_left (Nat.two_pow_pos a) h
  rw[Nat.pow_succ,Nat.mul_comm (2^d) 2,Nat.mul_assoc]at h2
  omega
 ·exact hl
 ·exfalso
  obtain⟨d,rfl⟩:∃d,a=b+(d+1):=⟨a-b-1,by omega⟩
  rw[Nat.pow_add,Nat.mul_assoc]at h
  have h2:=Nat.eq_of_mul_eq_mul_left (Nat.two_pow_pos b) h
  rw[Nat.pow_succ,Nat.mul_comm (2^d) 2,Nat.mul_assoc]at h2
  omega
def tz(v:Nat): Nat:=if v=0 then 0 else Lib.ctzFrom v v
theorem tz_spec{v:Nat}(h:v≠0): ∃m,v=2^tz v*(2*m+1):=by
 obtain⟨m,hm,_⟩:=Lib.ctzFrom_spec v v (by omega) Nat.lt_two_pow_self
 exact⟨m,by unfold tz;rw[if_neg h];exact hm⟩
theorem tz_eq{v k m:Nat}(h:v=2^k*(2*m+1)): tz v=k:=by
 have h0:v≠0:=by have:=Nat.two_pow_pos k;rw[h];exact Nat.ne_of_gt (Nat.mul_pos this (by omega))
 obtain⟨n,hn⟩:=tz_spec h0
 exact two_odd (hn.symm.trans h)
theorem tz_ctz{x:Nat}(h0:x≠0)(hx:x<2^64): Lib.ctz 64 x=tz x:=by
 obtain⟨m,hm,_⟩:=Lib.ctzFrom_spec 64 x (by omega) hx
 unfold Lib.ctz
 rw[if_neg h0]
 exact(tz_eq hm).symm
theorem tz_limb{v i:Nat}(hz:v % LB^i=0)(hd:dgt LB v i≠0): tz v=64*i+tz (dgt LB v i):=by
 obtain⟨m,hm⟩:=tz_spec hd
 have ht:tz (dgt LB v i)<64:=by
  have h1:=dgt_lt LB_pos v i
  apply Nat.lt_of_not_le
  intro hle
  have h2:2^64≤2^tz (dgt LB v i):=Nat.pow_le_pow_right (by decide) hle
  have h3:2^tz (dgt LB v i)≤dgt LB v i:=by
   conv=>rhs;rw[hm]
   exact Nat.le_mul_of_pos_right _ (by omega)
  have h4:=LB_pow
  omega
 have h:=split3 LB v i
 rw[hz,Nat.zero_add]at h
 generalize tz (dgt LB v i)=k at *
 have e:LB=2^k*(2*2^(63-k)):=by rw[LB_pow,← Nat.pow_succ',← Nat.pow_add];congr 1;omega
 refine tz_eq (m:=m+2^(63-k)*(v / LB^(i+1))) ?_
 rw[Nat.pow_add,← pow2_pow,← LB_pow,Nat.mul_assoc]
 conv=>lhs;rw[h]
 congr 1
 rw[hm]
 conv=>lhs;rhs;lhs;rw[e]
 rw[Nat.mul_assoc,← Nat.mul_add]
 congr 1
 rw[Nat.mul_add,Nat.mul_assoc]
 omega
theorem bval_cons_zero(l:List UInt8): bval (0::l)=bval l:=by simp[bval]
theorem nbytes_length(v:Nat): (nbytes v).length=nd 8 v:=by simp[nbytes]
theorem bval_nbytes(v:Nat): bval (nbytes v)=v:=by
 have hlen:=nbytes_length v
 refine dgt_ext (B:=256) (n:=nd 8 v) (by have:=bval_lt (nbytes v);rwa [hlen]at this) (nd_lt (k:=8) (by decide) v) fun j hj=>?_
 rw[dgt_bval _ _ (by omega)]
 simp only[nbytes,List.getElem_map,List.getElem_range,List.length_map,List.length_range]
 rw[show nd 8 v-1-(nd 8 v-1-j)=j by omega]
 have:=dgt_lt (B:=256) (by decide) v j
 simp;omega
theorem nstr_bval(v:Nat): bval (nstr v).data.toList=v:=by show bval (nbytes v)=v;exact bval_nbytes v
theorem nbytes_of{l:List UInt8}(h:∀c,l.head?=some c→c≠0): nbytes (bval l)=l:=by
 have hn:nd 8 (bval l)=l.length:=by
  refine nd_eq (k:=8) (by decide) (bval_lt l) fun h0=>?_
  rcases l with _|⟨c,l⟩
  ·simp at h0
  ·have hc:c≠0:=h c rfl
   have h1:=dgt_bval (c::l) l.length (by simp)
   simp at h1
   have hcn:c.toNat≠0:=fun e=>hc (by rw[← UInt8.toNat_inj];simpa using e)
   show 256^(l.length+1-1)≤_
   rw[Nat.add_sub_cancel]
   apply Nat.le_of_not_lt
   intro hlt
   rw[dgt_big hlt]at h1
   exact hcn h1.symm
 apply List.ext_getElem
 ·rw[nbytes_length,hn]
 ·intro i h1 h2
  simp only[nbytes,List.getElem_map,List.getElem_range]
  rw[hn,dgt_bval l _ (by omega)]
  have e:∀j (hj:j<l.length),j=i→l[j]'hj=l[i]'h2:=fun j hj e=>by subst e;rfl
  rw[e _ _ (by omega)]
  simp
theorem nbytes_dropWhile(l:List UInt8): nbytes (bval l)=l.dropWhile (·==0):=by
 induction l with
 | nil=>rfl
 | cons c l ih =>
  by_cases hc:c=0
  ·subst hc;rw[bval_cons_zero,ih];simp
  ·rw[List.dropWhile_cons_of_neg (by simpa using hc)]
   exact nbytes_of fun d hd=>by simp at hd;subst hd;exact hc
theorem nstr_size(v:Nat): (nstr v).size=nd 8 v:=by show(nbytes v).toArray.size=_;simp[nbytes_length]
theorem LB_nd(v:Nat): v<LB^nd 64 v:=nd_lt (k:=64) (by decide) v
open Go.RowKit
def Rd(w:World)(A:Option Addr)(n:Nat)(f:Nat→Value): Prop:=0<n→∃b off,A=some ⟨b,off,none⟩∧∀j,j<n→w.cell? ⟨b,off+j,none⟩=some (f j)
def Off(A:Option Addr)(g:Nat): Prop:=∀a,A=some a→a.block≠g
def Cel(w:World)(g:Nat)(t:TypeId)(T:Nat)(f:Nat→Value): Prop:=∃cs:Array Value,w.heap[g]?=some (.cells cs t (0,0))∧cs.size=T∧∀j,j<T→cs[j]?=some (f j)
def mix(o n:Nat)(h f:Nat→Value)(j:Nat): Value:=if o≤j∧j<o+n then h (j-o)else f j
theorem mix_in{o n i:Nat}{h f:Nat→Value}(hi:i<n): mix o n h f (o+i)=h i:=by unfold mix;rw[if_pos ⟨by omega,by omega⟩,Nat.add_sub_cancel_left]
theorem mix_congr{o n:Nat}{h h' f:Nat→Value}(hh:∀i,i<n→h i=h' i)(j:Nat): mix o n h f j=mix o n h' f j:=by
 unfold mix;split
 ·exact hh _ (by omega)
 ·rfl
theorem mix_set{o n i:Nat}{h h' f:Nat→Value}{u:Value}(hi:i<n)(hu:h' i=u)(hh:∀j,j<n→j≠i→h j=h' j)(j:Nat): (if j=o+i then u else mix o n h f j)=mix o n h' f j:=by
 by_cases e:j=o+i
 ·subst e;rw[if_pos rfl,mix_in hi,hu]
 ·rw[if_neg e];unfold mix;split
  ·exact hh _ (by omega) (by omega)
  ·rfl
theorem cell_lt{w:World}{p:Addr}{u:Value}(h:w.cell? p=some u): p.block<w.heap.size:=by
 unfold World.cell? at h
 split at h
 ·rename_i hh
  rcases Nat.lt_or_ge p.block w.heap.size with hlt|hge
  ·exact hlt
  ·rw[Array.getElem?_eq_none hge]at hh;cases hh
 ·cases h
section
variable {w w':World} {A:Option Addr} {n n' g:Nat} {t:TypeId} {T:Nat} {f f':Nat→Value}
theorem Rd.of_le(h:Rd w A n f)(hn:n'≤n): Rd w A n' f:=fun h0=>by
 obtain⟨b,off,e,hc⟩:=h (by omega)
 exact⟨b,off,e,fun j hj=>hc j (by omega)⟩
theorem Rd.congr(h:Rd w A n f)(hf:∀j,j<n→f j=f' j): Rd w A n f':=fun h0=>by
 obtain⟨b,off,e,hc⟩:=h h0
 exact⟨b,off,e,fun j hj=>by rw[hc j hj,hf j hj]⟩
theorem Rd.nil_:Rd w A 0 f:=fun h=>absurd h (by omega)
theorem Rd.keep(h:Rd w A n f)(hk:∀p:Addr,p.block<w.heap.size→(∀a,A=some a→p.block=a.block)→w'.cell? p=w.cell? p): Rd w' A n f:=fun h0=>by
 obtain⟨b,off,rfl,hc⟩:=h h0
 exact⟨b,off,rfl,fun j hj=>by rw[hk _ (cell_lt (hc j hj)) (fun a ha=>by injection ha with ha;subst ha;rfl)];exact hc j hj⟩
theorem Rd.below(h:Rd w A n f)(hb:Below w.heap.size w w'): Rd w' A n f:=h.keep fun _ hp _=>hb.cell hp
theorem Rd.drew(h:Rd w A n f): Rd w.drew A n f:=h
theorem Rd.drewN(h:Rd w A n f)(k:Nat): Rd (w.drewN k) A n f:=h
theorem Rd.alloc(h:Rd w A n f)(o:Obj): Rd (w.alloc o) A n f:=h.keep fun p hp _=>World.cell?_alloc_lt w o p hp
theorem Rd.grown(h:Rd w A n f)(hg:w.grownBy w' (some g))(ho:Off A g): Rd w' A n f:=fun h0=>by
 obtain⟨b,off,rfl,hc⟩:=h h0
 refine⟨b,off,rfl,fun j hj=>?_⟩
 have hlt:=cell_lt (hc j hj)
 exact(World.cell?_of_block (a:=⟨b,off+j,none⟩) (hg.block b hlt (fun e=>ho _ rfl (by injection e)))).trans (hc j hj)
theorem Cel.lt(h:Cel w g t T f): g<w.heap.size:=by
 obtain⟨cs,hh,_,_⟩:=h
 rcases Nat.lt_or_ge g w.heap.size with hlt|hge
 ·exact hlt
 ·rw[Array.getElem?_eq_none hge]at hh;cases hh
theorem Cel.cell(h:Cel w g t T f){i:Nat}(hi:i<T): w.cell? ⟨g,i,none⟩=some (f i):=by
 obtain⟨cs,hh,hs,hc⟩:=h
 rw[cell_of_row w g i cs t (0,0) hh];exact hc i hi
theorem Cel.frozen(h:Cel w g t T f)(i:Nat): w.frozen? ⟨g,i,none⟩=false:=by
 obtain⟨cs,hh,hs,hc⟩:=h
 simp[World.frozen?,hh]
theorem Cel.congr(h:Cel w g t T f)(hf:∀j,j<T→f j=f' j): Cel w g t T f':=by
 obtain⟨cs,hh,hs,hc⟩:=h
 exact⟨cs,hh,hs,fun j hj=>by rw[hc j hj,hf j hj]⟩
theorem Cel.drew(h:Cel w g t T f): Cel w.drew g t T f:=h
theorem Cel.drewN(h:Cel w g t T f)(n:Nat): Cel (w.drewN n) g t T f:=h
theorem Cel.below{B:Nat}(h:Cel w g t T f)(hb:Below B w w')(hg:g<B): Cel w' g t T f:=by
 obtain⟨cs,hh,hs,hc⟩:=h
 exact⟨cs,(hb.block g hg).trans hh,hs,hc⟩
theorem Cel.bel(h:Cel w g t T f)(hb:Below w.heap.size w w'): Cel w' g t T f:=h.below hb h.lt
theorem Cel.alloc(h:Cel w g t T f)(o:Obj): Cel (w.alloc o) g t T f:=by
 have:=h.lt
 obtain⟨cs,hh,hs,hc⟩:=h
 exact⟨cs,(Below.heap_alloc w o g this).trans hh,hs,hc⟩
theorem Cel.grown{row:Option Nat}(h:Cel w g t T f)(hb:w.grownBy w' row)(hg:some g≠row): Cel w' g t T f:=by
 have:=h.lt
 obtain⟨cs,hh,hs,hc⟩:=h
 exact⟨cs,(hb.block g this hg).trans hh,hs,hc⟩
theorem Cel.set_(h:Cel w g t T f)(i:Nat)(u:Value): Cel (w.setCell ⟨g,i,none⟩ u) g t T (fun j=>if j=i then u else f j):=by
 obtain⟨cs,hh,hs,hc⟩:=h
 refine⟨cs.setIfInBounds i u,?_,by simpa using hs,fun j hj=>?_⟩
 ·simp[World.setCell,Array.getElem?_modify,hh]
 ·rw[Array.getElem?_setIfInBounds]
  by_cases e:i=j
  ·subst e;simp[hs,hj]
  ·have e':¬ j=i:=fun h=>e h.symm
   simp only[if_neg e,if_neg e',hc j hj]
theorem Cel.far(h:Cel w g t T f){p:Addr}(hp:g≠p.block)(u:Value): Cel (w.setCell p u) g t T f:=by
 obtain⟨cs,hh,hs,hc⟩:=h
 exact⟨cs,(Below.heap_setCell w p u g hp).trans hh,hs,hc⟩
theorem Cel.new(w:World)(t:TypeId)(cs:Array Value): Cel (w.alloc (.cells cs t)) w.heap.size t cs.size (fun j=>cs.getD j undef) :=
 ⟨cs,heap_alloc_new w _,rfl,fun j hj=>by simp[Array.getD,hj]⟩
theorem Cel.rd(h:Cel w g t T f){o n:Nat}(hn:o+n≤T): Rd w (some ⟨g,o,none⟩) n (fun j=>f (o+j)):=fun _=>⟨g,o,rfl,fun j hj=>h.cell (by omega)⟩
theorem Off.some_{b o:Nat}(h:b≠g): Off (some ⟨b,o,none⟩) g:=fun a ha=>by injection ha with ha;subst ha;exact h
theorem grownBy_trans{a b c:World}{row:Option Nat}(h:a.grownBy b row)(k:b.grownBy c row): a.grownBy c row :=
 ⟨k.os.trans h.os,k.tape.trans h.tape,k.output.trans h.output,Nat.le_trans h.size k.size,fun i hi hne=>(k.block i (Nat.lt_of_lt_of_le hi h.size) hne).trans (h.block i hi hne)⟩
theorem grownBy_alloc{a w:World}{row:Option Nat}(h:a.grownBy w row)(o:Obj): a.grownBy (w.alloc o) row :=
 ⟨h.os,h.tape,h.output,Nat.le_trans h.size (by simp),fun i hi hne=>(Below.heap_alloc w o i (Nat.lt_of_lt_of_le hi h.size)).trans (h.block i hi hne)⟩
theorem grownBy_setCell{a w:World}(h:a.grownBy w (some g)){p:Addr}(hp:p.block=g∨a.heap.size≤p.block)(u:Value): a.grownBy (w.setCell p u) (some g) :=
 ⟨h.os,h.tape,h.output,by simpa [World.setCell]using h.size,fun i hi hne=>(Below.heap_setCell w p u i (by
  rintro rfl
  rcases hp with hp|hp
  ·exact hne (by rw[hp])
  ·omega)).trans (h.block i hi hne)⟩
theorem grownBy_of_below{a w:World}(h:Below a.heap.size a w)(row:Option Nat): a.grownBy w row:=⟨h.os,h.tape,h.output,h.size,fun i hi _=>h.block i hi⟩
theorem below_grownBy{a w w1:World}{B:Nat}(h:Below B a w)(k:w.grownBy w1 (some g))(hB:B≤w.heap.size)(hg:B≤g): Below B a w1:=h.grown k hB (fun i hi=>by injection hi with hi;omega)
theorem below_drewN'{B:Nat}{a w:World}(h:Below B a w)(n:Nat): Below B a (w.drewN n):=⟨h.os,h.tape,h.output,h.size,h.block⟩
theorem below_bel{B:Nat}{a w w1:World}(h:Below B a w)(k:Below w.heap.size w w1)(hB:B≤w.heap.size): Below B a w1:=h.trans (k.mono hB)
end
section
variable {P:Program} {w:World} {ops:Array Oper} {rest:List Oper} {o:Oper} {a:Act} {Q:Exit→Act→World→Prop}
theorem Cel.made(w:World)(e:TypeId)(z:Value)(n:Nat): Cel (w.alloc (.cells (madeCells #[z] n) e)) w.heap.size e n (fun _=>z) :=
 ⟨madeCells #[z] n,heap_alloc_new w _,by simp[size_madeCells],fun j hj=>by
  have h:=toList_madeCells_one z n
  rw[← Array.getElem?_toList,h];simp[hj]⟩
theorem run_index_at{T:TypeId}(s:ByteArray)(h:P.underlying T=some .string)(k:IntKind)(i:Int)(j:Nat)(hi:i=(j:Int))(hj:j<s.size)(w:World):
  (Instr.index T (.string s) (.int k i)).run P w=.ok (.int .u8 ((s.data.toList[j]'(by simpa using hj)).toNat:Nat)) w:=by
 subst hi
 rw[run_index_string _ _ _ _ _ h,dif_pos ⟨by omega,by omega⟩]
 rfl
theorem fold_push(l:List Int): ∀s:ByteArray,l.foldl (fun r n=>r.push (UInt8.ofNat n.toNat)) s=⟨(s.data.toList++l.map fun n=>UInt8.ofNat n.toNat).toArray⟩:=by
 induction l with
 | nil=>intro s;simp
 | cons n l ih =>
  intro s
  rw[List.foldl_cons,ih]
  simp[ByteArray.push]
theorem add_plain(b off j:Nat): (⟨b,off,none⟩:Addr).add j=⟨b,off+j,none⟩:=by
 unfold Addr.add
 split
 ·rename_i h;subst h;rfl
 ·rfl
theorem run_bytes_rd(src dst e:TypeId)(hs:P.underlying src=some (.slice e))(he:P.underlying e=some (.int .u8))(hd:P.underlying dst=some .string)(A:Option Addr)(n c:Nat)(f:Nat→Nat)(hr:Rd w A n fun j=>.int .u8 (f j:Nat)): (convert src dst (.slice A n c)).run P w=.ok (.string ⟨((List.range n).map fun j=>UInt8.ofNat (f j)).toArray⟩) w:=by
 rw[run_convert_bytes_string w src dst e A n c hs he hd]
 by_cases hn:n=0
 ·subst hn
  rcases A with _|a
  ·simp[Conv.bytesToString];rfl
  ·rw[run_bytesToString w a 0 c [] (by have:=run_loadCells (P:=P) (w:=w) a 0 (fun _=>undef) (fun j hj=>by omega);simpa using this)]
   rfl
 ·obtain⟨b,off,rfl,hc⟩:=hr (by omega)
  have hl:=run_loadCells (P:=P) (w:=w) ⟨b,off,none⟩ n (fun j=>.int .u8 (f j:Nat)) (fun j hj=>by rw[add_plain];exact hc j hj)
  rw[run_bytesToString w _ n c ((List.range n).map fun j=>(f j:Int)) (by rw[hl];simp)]
  rw[fold_push]
  simp
theorem shl_wrap(a c:Nat)(ci:Int)(hci:ci=(c:Int))(h:a*2^c<LB): IntKind.u64.wrap ((a:Int)*2^ci.toNat)=((a*2^c:Nat):Int):=by
 subst hci
 rw[LB_eq]at h
 rw[IntKind.wrap_u64,Int.toNat_natCast,show(2:Int)^c=((2^c:Nat):Int)by simp,← Int.natCast_mul]
 omega
theorem shl_wrap_mod(a c:Nat): IntKind.u64.wrap ((a:Int)*2^c)=((a*2^c % LB:Nat):Int):=by
 rw[IntKind.wrap_u64,show(2:Int)^c=((2^c:Nat):Int)by simp,← Int.natCast_mul,LB_eq]
 omega
theorem shr_cast(a c:Nat): (a:Int) / 2^c=((a / 2^c:Nat):Int):=by
 rw[Int.natCast_ediv,Int.natCast_pow];rfl
theorem or_u64(a b:Nat)(ha:a<LB)(hb:b<LB): bits .or .u64 (a:Int) (b:Int)=((a ||| b:Nat):Int):=u64_or_nat a b ha hb
theorem wpList_make_cel(hg:o.guard=none)(l c:Operand)(t:TypeId)(hop:o.op=Op.makeSlice t l c)(e:TypeId)(z:Value)(bytes:Nat)(h1:P.underlying t=some (.slice e))(hinfo:(P.info? e).map (fun i=>(i.zero,i.size,i.bytes))=some (some z,1,bytes))(hz1:z.cells=#[z])(kl kc:IntKind)(L C:Int)(n:Nat)(hl:a.eval l=.int kl L)(hc:a.eval c=.int kc C)(hL:L=(n:Int))(hC:C=(n:Int))(b2:bytes*n≤281474976710656)(b3:n≤9223372036854775807)(hK:∀w',Cel w' w.heap.size e n (fun _=>z)→Below w.heap.size w w'→w.heap.size<w'.heap.size→wpList P ops Q rest (a.put o.dst (.slice (some ⟨w.heap.size,0,none⟩) n n)) w'):
  wpList P ops Q (o::rest) a w:=by
 obtain⟨i,hi,hz,hsz,hby⟩:=info_parts hinfo
 refine wpList_plain hg fun K hK'=>?_
 have hrun:=run_make (P:=P) w t e i z h1 hi hz kl kc n n (by omega) (by omega) (by rw[hby];omega) (by omega)
 simp only[Int.toNat_natCast,hsz,Nat.mul_one,hz1]at hrun
 subst hL
 subst hC
 unfold Oper.wp
 simp[execOp,hop,hl,hc,hrun,Result.andThen]
 exact hK' _ _ (hK _ (Cel.made w e z n) ((Below.refl _ w).alloc (Nat.le_refl _) _) (by simp))
theorem wpList_copy_cel(hgd:o.guard=none)(d s:Operand)(dT sT:TypeId)(ho:o.op=.call { callee:=.builtin .copy,args:=#[d,s],argTypes:=#[dT,sT] })(elem:TypeId)(hu:P.underlying dT=some (.slice elem))(hsz:(P.info? elem).map (·.size)=some 1)(dp sp:Option Addr)(dLen dCap sLen sCap:Nat)(hd:a.eval d=.slice dp dLen dCap)(hs:a.eval s=.slice sp sLen sCap)(g off T:Nat)(t:TypeId)(f fs:Nat→Value)(hg:Cel w g t T f)(m:Nat)(hn:m=Nat.min sLen dLen)(hdp:0<m→dp=some ⟨g,off,none⟩)(hr:Rd w sp m fs)(hfit:off+m≤T)(h1:∀j,(fs j).oneCell'=true)(h:∀w',Cel w' g t T (fun j=>if off≤j∧j<off+m then fs (j-off)else f j)→w.grownBy w' (some g)→wpList P ops Q rest (a.put o.dst (goInt m)) w'):
  wpList P ops Q (o::rest) a w:=by
 by_cases hm:m=0
 ·subst hm
  refine wpList_copy_nothing hgd d s dT sT ho elem hu hsz dp sp dLen dCap sLen sCap hd hs hn.symm ?_
  exact h w (hg.congr fun j _=>by rw[if_neg (by omega)]) (World.grownBy.refl w _)
 ·obtain⟨cs,hh,hcs,hf⟩:=hg
  have hm':0<m:=by omega
  obtain⟨b,o',rfl,hc⟩:=hr hm'
  obtain rfl:=hdp hm'
  have hl:cs.toList.length=T:=by simpa using hcs
  have hlen:((List.range m).map fs).length=m:=by simp
  refine wpList_copy_own hgd d s dT sT ho elem hu hsz g off dLen dCap _ sLen sCap hd hs cs t hh ((List.range m).map fs) (by simpa using hn) (fun j v hv=>?_) (by rw[hlen];omega)
   (fun v hv=>by obtain⟨j,_,rfl⟩:=List.mem_map.1 hv;exact h1 j) ?_
  ·by_cases hj:j<m
   ·have e:v=fs j:=by simp[hj]at hv;exact hv.symm
    subst e
    rw[← hc j hj]
    congr 1
    unfold Addr.add
    split
    ·rename_i h0;subst h0;rfl
    ·rfl
   ·simp[hj]at hv
  ·rw[show goInt ((List.range m).map fs).length=goInt m by simp]
   refine h _ ⟨_,setRow_heap w g _ _ t _ hh,by simp;omega,fun j hj=>?_⟩ ⟨rfl,rfl,rfl,by simp[World.setRow],fun i _ hne=>?_⟩
   ·have e:(cs.toList.take off).length=off:=by simp;omega
    simp only[List.getElem?_toArray]
    by_cases h1:j<off
    ·rw[List.getElem?_append_left (by omega),List.getElem?_take_of_lt h1,if_neg (by omega)]
     simpa using hf j hj
    ·rw[List.getElem?_append_right (by omega),e]
     by_cases h2:j<off+m
     ·rw[List.getElem?_append_left (by omega),if_pos ⟨by omega,h2⟩]
      have h3:j-off<m:=by omega
      simp[h3]
     ·rw[List.getElem?_append_right (by omega),if_neg (by omega),hlen]
      simp only[List.getElem?_drop]
      rw[show off+m+(j-off-m)=j by omega]
      simpa using hf j hj
   ·simp only[World.setRow,Array.getElem?_modify]
    rw[if_neg (fun e=>hne (by rw[e]))]
end
open Go.RowKit
open Go.RowKit
def OwnR(w:World)(base:Nat)(e:TypeId)(v:Value)(n:Nat)(f:Nat→Value): Prop:=w.ownsRow base e 1 v n ((List.range n).map f)
theorem OwnR.nil_(w:World)(base:Nat)(e:TypeId)(f:Nat→Value): OwnR w base e (.slice none 0 0) 0 f:=⟨by simp,.inl ⟨rfl,rfl⟩⟩
theorem OwnR.congr{w:World}{base:Nat}{e:TypeId}{v:Value}{n:Nat}{f f':Nat→Value}(h:OwnR w base e v n f)(hf:∀j,j<n→f j=f' j): OwnR w base e v n f':=by
 unfold OwnR at *
 rw[show(List.range n).map f'=(List.range n).map f from List.map_congr_left fun j hj=>(hf j (by simpa using hj)).symm]
 exact h
theorem OwnR.rd{w:World}{base:Nat}{e:TypeId}{v:Value}{n:Nat}{f:Nat→Value}(h:OwnR w base e v n f): ∃A c,v=.slice A n c∧n≤c∧Rd w A n f∧(∀a,A=some a→base≤a.block):=by
 rcases h.2 with⟨rfl,rfl⟩|⟨g,cap,cur,rfl,hb,hh,hn,_,hs,hx⟩
 ·exact⟨none,0,rfl,Nat.le_refl _,Rd.nil_,fun a ha=>by cases ha⟩
 ·refine⟨_,cap,rfl,hn,fun _=>⟨g,0,rfl,fun j hj=>?_⟩,fun a ha=>by injection ha with ha;subst ha;exact hb⟩
  rw[cell_of_row w g (0+j) cur e (0,0) hh,Nat.zero_add,← Array.getElem?_toList]
  have h1:(cur.toList.take (n*1))[j]?=some (f j):=by rw[hx];simp[hj]
  rw[List.getElem?_take_of_lt (by omega)]at h1
  exact h1
theorem OwnR.below{w w':World}{B base:Nat}{e:TypeId}{v:Value}{n:Nat}{f:Nat→Value}(h:OwnR w base e v n f)(hb:Below w.heap.size w w')(_:B≤base): OwnR w' base e v n f :=
 World.ownsRow.kept (row:=none) h (grownBy_of_below hb none) (by
  rcases h.2 with⟨rfl,_⟩|⟨g,cap,cur,rfl,_⟩
  ·exact .inl rfl
  ·exact .inr (by simp[Value.ownBlock]))
theorem OwnR.drew{w:World}{base:Nat}{e:TypeId}{v:Value}{n:Nat}{f:Nat→Value}(h:OwnR w base e v n f): OwnR w.drew base e v n f:=h
section
variable {P:Program} {w:World} {ops:Array Oper} {rest:List Oper} {o:Oper} {a:Act} {Q:Exit→Act→World→Prop}
theorem wpList_append1(hgd:o.guard=none)(s x:Operand)(t:TypeId)(ho:o.op=.call { callee:=.builtin .append,args:=#[s,x],argTypes:=#[t,t] })(base:Nat)(e:TypeId)(z:Value)(bytes:Nat)(ht:P.underlying t=some (.slice e))(hinfo:(P.info? e).map (fun i=>(i.zero,i.size,i.bytes))=some (some z,1,bytes))(hz1:z.cells.size=1)(v:Value)(n:Nat)(f:Nat→Value)(u:Value)(hs:a.eval s=v)(hx:a.eval x=.slice (some ⟨w.heap.size,0,none⟩) 1 1)(hown:OwnR w base e v n f)(hu:u.oneCell'=true)(h63:n+1≤9223372036854775807)(hbytes:(n+1)*bytes≤140737488355328)(hbase:base≤w.heap.size)(h:∀v' w',OwnR w' base e v' (n+1) (fun j=>if j=n then u else f j)→Below base w w'→w.grownBy w' v.ownBlock→wpList P ops Q rest (a.put o.dst v') w'):
  wpList P ops Q (o::rest) a (w.alloc (.cells #[u] e)):=by
 obtain⟨i,hi,hz,hsz,hby⟩:=info_parts hinfo
 refine wpList_append_own (P:=P) _ hgd s x t ho base e i z 1 bytes ht hi hz hsz hby hz1 (by decide) v n ((List.range n).map f) hs (hown.alloc _) ⟨w.heap.size,0,none⟩ 1 1 [u] hx rfl ?_ (by simpa using hu) (by unfold maxLen;omega) hbytes (by simp;omega) ?_
 ·intro j u' hj
  rcases j with _|j
  ·simp at hj;subst hj
   rw[add_plain,World.cell?_alloc_at _ _ _ _ rfl];rfl
  ·simp at hj
 ·intro v' w' hown' hg _
  have e1:((List.range n).map f)++[u]=(List.range (n+1)).map (fun j=>if j=n then u else f j):=by
   rw[List.range_succ,List.map_append]
   congr 1
   ·exact List.map_congr_left fun j hj=>by
     have:j<n:=by simpa using hj
     rw[if_neg (by omega)]
   ·simp
  rw[e1]at hown'
  have hg':w.grownBy w' v.ownBlock:=grownBy_trans (World.grownBy_alloc w _ _) hg
  refine h v' w' hown' ((Below.refl _ _).grown hg' hbase (fun k hk=>?_)) hg'
  exact(hown.lt k hk).1
end
theorem u8_wrap{n:Int}{m:Nat}(h:n=(m:Int))(hm:m<256): IntKind.u8.wrap n=(m:Int):=by
 subst h;simp[IntKind.wrap,IntKind.signed,IntKind.bits];omega
theorem u8_and_one(x:Nat)(hx:x<256): bits .and .u8 (x:Int) 1=((x % 2:Nat):Int):=by
 have h1:(BitVec.ofInt 8 (x:Int)).toNat=x:=by rw[BitVec.ofInt_natCast,BitVec.toNat_ofNat];omega
 show IntKind.u8.wrap ((BitVec.ofInt 8 (x:Int) &&& BitVec.ofInt 8 1).toNat:Int)=_
 rw[BitVec.toNat_and,h1,show(BitVec.ofInt 8 1).toNat=1 from rfl,Nat.and_one_is_mod]
 exact u8_wrap rfl (by omega)
def bitv(v j:Nat): Value:=.int .u8 (dgt 2 v j:Nat)
theorem dgt_bit(v p k:Nat)(hk:k<8): dgt 2 v (8*p+k)=dgt 256 v p / 2^k % 2:=by
 unfold dgt
 rw[Nat.pow_add,← Nat.div_div_eq_div_mul,Nat.pow_mul,show 2^8=256 from rfl]
 generalize v / 256^p=x
 have e2:256=2^k*(2*2^(7-k)):=by rw[← Nat.pow_succ',← Nat.pow_add];rw[show k+(7-k).succ=8 by omega]
 rw[e2,Nat.mod_mul_right_div_self,Nat.mod_mul_right_mod]
theorem byte_bit(v i p:Nat): dgt 256 (v % 2^(i+1)) p=if p=i / 8 then dgt 256 (v % 2^i) p+dgt 2 v i*2^(i % 8)else dgt 256 (v % 2^i) p:=by
 have e:(2:Nat)^i=256^(i / 8)*2^(i % 8):=by
  rw[show 256=2^8 from rfl,← Nat.pow_mul,← Nat.pow_add];congr 1;omega
 have hu:v % 2^i<2^i:=Nat.mod_lt _ (Nat.two_pow_pos i)
 have hd:dgt 2 v i<2:=dgt_lt (by decide) v i
 rw[mod_succ]
 generalize v % 2^i=u at *
 generalize dgt 2 v i=d at *
 rw[e]at hu
 have hr:i % 8<8:=Nat.mod_lt _ (by decide)
 have hlo:u / 256^(i / 8)<2^(i % 8):=(Nat.div_lt_iff_lt_mul (Nat.pow_pos (by decide))).2 (by rw[Nat.mul_comm];exact hu)
 have h256:2^(i % 8)*2≤256:=by
  have:=Nat.pow_le_pow_right (n:=2) (by decide) (show i % 8+1≤8 by omega)
  rwa [Nat.pow_succ]at this
 have h0:=Nat.mod_add_div u (256^(i / 8))
 have hm:u % 256^(i / 8)<256^(i / 8):=Nat.mod_lt _ (Nat.pow_pos (by decide))
 generalize u % 256^(i / 8)=lo at *
 generalize u / 256^(i / 8)=h at *
 generalize i % 8=r at *
 generalize i / 8=q at *
 have hd2:h+d*2^r<256:=by
  have:d*2^r≤1*2^r:=Nat.mul_le_mul_right _ (by omega)
  omega
 have e1:u+2^i*d=lo+256^q*(h+d*2^r):=by
  rw[e,Nat.mul_add,← h0,Nat.mul_assoc,Nat.mul_comm (2^r) d];omega
 rw[e1,← h0,dgt_put (by decide) hm hd2,dgt_put (by decide) hm (show h<256 by omega)]
 by_cases hj:p=q
 ·subst hj;simp
 ·simp[hj]
open Go.RowKit
def Bx(w:World)(g:Nat)(t:TypeId)(cs:Array Value): Prop:=w.heap[g]?=some (.cells cs t (0,0))
theorem Bx.lt{w:World}{g:Nat}{t:TypeId}{cs:Array Value}(h:Bx w g t cs): g<w.heap.size:=by
 rcases Nat.lt_or_ge g w.heap.size with hlt|hge
 ·exact hlt
 ·unfold Bx at h;rw[Array.getElem?_eq_none hge]at h;cases h
theorem Bx.later{w w':World}{g:Nat}{t:TypeId}{cs:Array Value}(h:Bx w g t cs)(hb:Below w.heap.size w w'): Bx w' g t cs:=(hb.block g h.lt).trans h
theorem Bx.drew{w:World}{g:Nat}{t:TypeId}{cs:Array Value}(h:Bx w g t cs): Bx w.drew g t cs:=h
theorem Bx.new(w:World)(t:TypeId)(cs:Array Value): Bx (w.alloc (.cells cs t)) w.heap.size t cs:=heap_alloc_new w _
theorem Bx.alloc{w:World}{g:Nat}{t:TypeId}{cs:Array Value}(h:Bx w g t cs)(o:Obj): Bx (w.alloc o) g t cs:=(Below.heap_alloc w o g h.lt).trans h
theorem Bx.at1(w:World)(o:Obj)(t:TypeId)(cs:Array Value): Bx ((w.alloc o).alloc (.cells cs t)) (w.heap.size+1) t cs:=by
 have:=Bx.new (w.alloc o) t cs
 simpa using this
theorem Bx.at2(w:World)(o p:Obj)(t:TypeId)(cs:Array Value): Bx (((w.alloc o).alloc p).alloc (.cells cs t)) (w.heap.size+2) t cs:=by
 have:=Bx.new ((w.alloc o).alloc p) t cs
 simpa using this
theorem Bx.cel{w:World}{g:Nat}{t:TypeId}{cs:Array Value}(h:Bx w g t cs)(i:Nat): w.cell? ⟨g,i,none⟩=cs[i]?:=by
 unfold Bx at h;simp[World.cell?,h]
theorem Bx.free{w:World}{g:Nat}{t:TypeId}{cs:Array Value}(h:Bx w g t cs)(i:Nat): w.frozen? ⟨g,i,none⟩=false:=by
 unfold Bx at h;simp[World.frozen?,h]
theorem Bx.two{w:World}{g:Nat}{t:TypeId}{x y:Value}(h:Bx w g t #[x,y]): w.cell? ⟨g,0,none⟩=some x∧w.cell? ⟨g,1,none⟩=some y∧w.frozen? ⟨g,0,none⟩=false∧w.frozen? ⟨g,1,none⟩=false :=
 ⟨h.cel 0,h.cel 1,h.free 0,h.free 1⟩
theorem Bx.three{w:World}{g:Nat}{t:TypeId}{x y z:Value}(h:Bx w g t #[x,y,z]): w.cell? ⟨g,0,none⟩=some x∧w.cell? ⟨g,1,none⟩=some y∧w.cell? ⟨g,2,none⟩=some z∧w.frozen? ⟨g,0,none⟩=false∧w.frozen? ⟨g,1,none⟩=false∧w.frozen? ⟨g,2,none⟩=false :=
 ⟨h.cel 0,h.cel 1,h.cel 2,h.free 0,h.free 1,h.free 2⟩
theorem Bx.set{w:World}{g:Nat}{t:TypeId}{cs:Array Value}(h:Bx w g t cs)(i:Nat)(u:Value): Bx (w.setCell ⟨g,i,none⟩ u) g t (cs.setIfInBounds i u):=by
 unfold Bx at *
 simp[World.setCell,Array.getElem?_modify,h]
theorem Bx.far{w:World}{g:Nat}{t:TypeId}{cs:Array Value}(h:Bx w g t cs){p:Addr}(hp:g≠p.block)(u:Value): Bx (w.setCell p u) g t cs:=(Below.heap_setCell w p u g hp).trans h
theorem Bx.set2{w:World}{g:Nat}{t:TypeId}{x y:Value}(h:Bx w g t #[x,y])(u v:Value): Bx ((w.setCell ⟨g,0,none⟩ u).setCell ⟨g,1,none⟩ v) g t #[u,v]:=(h.set 0 u).set 1 v
theorem Bx.set3{w:World}{g:Nat}{t:TypeId}{x y z:Value}(h:Bx w g t #[x,y,z])(u v s:Value): Bx (((w.setCell ⟨g,0,none⟩ u).setCell ⟨g,1,none⟩ v).setCell ⟨g,2,none⟩ s) g t #[u,v,s]:=((h.set 0 u).set 1 v).set 2 s
theorem cell_far1{w:World}{b o g i:Nat}{v:Value}(h:w.cell? ⟨b,o,none⟩=some v)(hne:b≠g)(x:Value): (w.setCell ⟨g,i,none⟩ x).cell? ⟨b,o,none⟩=some v :=
 (World.cell?_of_block (a:=⟨b,o,none⟩) (Below.heap_setCell w ⟨g,i,none⟩ x b hne)).trans h
theorem cell_far2{w:World}{b o g i j:Nat}{v:Value}(h:w.cell? ⟨b,o,none⟩=some v)(hne:b≠g)(x y:Value): ((w.setCell ⟨g,i,none⟩ x).setCell ⟨g,j,none⟩ y).cell? ⟨b,o,none⟩=some v:=cell_far1 (cell_far1 h hne x) hne y
theorem undrew{w w':World}(h:Below w.drew.heap.size w.drew w'): Below w.heap.size w w':=⟨h.os,h.tape,h.output,h.size,h.block⟩
theorem nxt{a w1 w2:World}(h:Below a.heap.size a w1)(hb:Below w1.heap.size w1 w2): Below a.heap.size a w2:=below_bel h hb h.size
theorem nxtA{a w1:World}(h:Below a.heap.size a w1)(o:Obj): Below a.heap.size a (w1.alloc o):=h.alloc h.size o
theorem b1(w:World)(o:Obj): Below w.heap.size w (w.alloc o):=nxtA (Below.refl _ _) o
theorem b2(w:World)(o p:Obj): Below w.heap.size w ((w.alloc o).alloc p):=nxtA (b1 w o) p
theorem b3(w:World)(o p q:Obj): Below w.heap.size w (((w.alloc o).alloc p).alloc q):=nxtA (b2 w o p) q
theorem b4(w:World)(o p q r:Obj): Below w.heap.size w ((((w.alloc o).alloc p).alloc q).alloc r):=nxtA (b3 w o p q) r
theorem st2{B:Nat}{a w:World}(h:Below B a w){g:Nat}(hg:B≤g)(u v:Value): Below B a ((w.setCell ⟨g,0,none⟩ u).setCell ⟨g,1,none⟩ v):=(h.setCell hg u).setCell hg v
theorem st3{B:Nat}{a w:World}(h:Below B a w){g:Nat}(hg:B≤g)(u v s:Value): Below B a (((w.setCell ⟨g,0,none⟩ u).setCell ⟨g,1,none⟩ v).setCell ⟨g,2,none⟩ s):=((h.setCell hg u).setCell hg v).setCell hg s
open Go Go.RowKit
def waits(ops:Array Oper)(i:Nat): List Nat:=match ops[i]? with
 | some o=>(o.after.toList.filter (Region.binds .any)).map (·.on)
 | none=>[]
def reachB(ops:Array Oper): Nat→Nat→Nat→Bool
 | 0,a,i=>(waits ops a).any (·==i)
 | f+1,a,i=>(waits ops a).any fun j=>j==i||reachB ops f j i
def growB(ops:Array Oper)(n:Nat)(st:Nat→Bool): Bool :=
 decide (n≤ops.size)&&Region.noSelect ops&&Region.chainB .any ops n&&(List.range n).all (fun i=>n==ops.size||!st i||reachB ops 6 n i) &&
 (List.range n).all (fun i=>st i||(List.range ops.size).all fun j=>j==i||(decide (j<n)&&st j)||Region.waitsFor .any ops j i||(match ops[i]?,ops[j]? with|some x,some y=>x.apart ops y|_,_=>false)) &&
 (List.range n).all (fun i=>(waits ops i).all (·<i))&&Region.seqB .any ops (ops.size-n) n (Array.replicate n true++Array.replicate (ops.size-n) false)
def left(n:Nat)(listed:Array Bool): Nat:=((List.range n).filter fun i=>!listed.getD i true).length
theorem left_zero{n:Nat}{listed:Array Bool}(h:left n listed=0): ∀i,i<n→listed.getD i true=true:=fun i hi=>by
 have h1:=List.eq_nil_of_length_eq_zero h
 rw[List.filter_eq_nil_iff]at h1
 have h2:=h1 i (List.mem_range.2 hi)
 simpa using h2
theorem left_some{n:Nat}{listed:Array Bool}(h:left n listed≠0): ∃i,i<n∧listed.getD i true=false∧∀j,j<i→listed.getD j true=true:=by
 have:∃i,i<n∧listed.getD i true=false:=by
  apply Classical.byContradiction
  intro hno
  apply h
  unfold left
  rw[List.length_eq_zero_iff,List.filter_eq_nil_iff]
  intro i hi
  have hi':=List.mem_range.1 hi
  cases hl:listed.getD i true with
  | true=>simp
  | false=>exact absurd ⟨i,hi',hl⟩ hno
 obtain⟨i,hi,hl⟩:=this
 induction i using Nat.strongRecOn with
 | _ i ih =>
  by_cases hc:∃j,j<i∧listed.getD j true=false
  ·obtain⟨j,hj,hjl⟩:=hc
   exact ih j hj (by omega) hjl
  ·refine⟨i,hi,hl,fun j hj=>?_⟩
   cases hl2:listed.getD j true with
   | true=>rfl
   | false=>exact absurd ⟨j,hj,hl2⟩ hc
theorem left_set{n i:Nat}{listed:Array Bool}(hi:i<n)(hl:listed.getD i true=false): left n (listed.setIfInBounds i true)+1=left n listed:=by
 have hsz:i<listed.size:=by
  rcases Nat.lt_or_ge i listed.size with h|h
  ·exact h
  ·simp[Array.getElem?_eq_none h]at hl
 unfold left
 have key:∀l:List Nat,l.Nodup→i∈l→((l.filter fun j=>!(listed.setIfInBounds i true).getD j true).length+1=(l.filter fun j=>!listed.getD j true).length):=by
  intro l
  induction l with
  | nil=>intro _ h;cases h
  | cons x l ih =>
   intro hnd hm
   rw[List.nodup_cons]at hnd
   by_cases hx:x=i
   ·subst hx
    have e1:(listed.setIfInBounds x true).getD x true=true:=by simp[hsz]
    have e2:(l.filter fun j=>!(listed.setIfInBounds x true).getD j true)=(l.filter fun j=>!listed.getD j true):=List.filter_congr fun j hj=>by
     have hne:x≠j:=fun e=>hnd.1 (e▸hj)
     rw[getD_set_ne true hne]
    rw[List.filter_cons_of_neg (by simp[e1]),List.filter_cons_of_pos (by simp[hl]),e2,List.length_cons]
   ·have hm':i∈l:=by
     rcases List.mem_cons.1 hm with h|h
     ·exact absurd h.symm hx
     ·exact h
    have e3:(listed.setIfInBounds i true).getD x true=listed.getD x true:=getD_set_ne true (Ne.symm hx)
    have:=ih hnd.2 hm'
    cases hxl:listed.getD x true with
    | true=>rw[List.filter_cons_of_neg (by simp[e3,hxl]),List.filter_cons_of_neg (by simp[hxl])];exact this
    | false=>rw[List.filter_cons_of_pos (by simp[e3,hxl]),List.filter_cons_of_pos (by simp[hxl]),List.length_cons,List.length_cons];omega
 exact key _ List.nodup_range (List.mem_range.2 hi)
def blk:Value→Option Nat
 | .pointer (some a)=>some a.block
 | .slice (some a) _ _=>some a.block
 | _=>none
def GrowOk(P:Program)(ops:Array Oper)(F:(Nat→Value)→Act)(G:World→Prop)(Φ:Nat→Value→World→Prop)(fr:Nat→Bool)(i:Nat): Prop :=
 ∀(o:Oper),ops[i]?=some o→∀(u:Nat→Value) (w:World),G w→(∀j,j∈waits ops i→Φ j (u j) w)→∀(Q:Exit→Act→World→Prop) (K:Act→World→Prop),
  (∀v w',Below w.heap.size w w'→G w'→Φ i v w'→(fr i=true→∀g,blk v=some g→w.heap.size≤g)→K ((F u).put o.dst v) w')→if Region.wanted o (yielded ops (F u).tmps)=true then Oper.wp P o (F u) w K Q else K ((F u).put o.dst undef) w
theorem waits_listed{ops:Array Oper}{n:Nat}{listed:Array Bool}(inv:HeadInv .any ops n listed){a:Nat}(ha:listed.getD a false=true){j:Nat}(hj:j∈waits ops a): listed.getD j false=true:=by
 unfold waits at hj
 cases ho:ops[a]? with
 | none=>rw[ho]at hj;cases hj
 | some o =>
  rw[ho]at hj
  obtain⟨e,he,rfl⟩:=List.mem_map.1 hj
  obtain⟨he1,he2⟩:=List.mem_filter.1 he
  exact inv.closed a o ho ha e (Array.mem_toList_iff.1 he1) he2
theorem reach_listed{ops:Array Oper}{n:Nat}{listed:Array Bool}(inv:HeadInv .any ops n listed){i:Nat}: ∀(f a:Nat),(∀j,j∈waits ops a→listed.getD j false=true)→reachB ops f a i=true→listed.getD i false=true
 | 0,a,h,hr=>by
  obtain⟨j,hj,e⟩:=List.any_eq_true.1 hr
  have:j=i:=by simpa using e
  exact this▸h j hj
 | f+1,a,h,hr=>by
  obtain⟨j,hj,e⟩:=List.any_eq_true.1 hr
  rcases Bool.or_eq_true_iff.1 e with e|e
  ·have:j=i:=by simpa using e
   exact this▸h j hj
  ·exact reach_listed inv f j (fun k hk=>waits_listed inv (h j hj) hk) e
theorem tail_not_ready{ops:Array Oper}{n:Nat}{st:Nat→Bool}{listed:Array Bool}(hs:(List.range n).all (fun i=>n==ops.size||!st i||reachB ops 6 n i)=true)(hc:Region.chainB .any ops n=true)(inv:HeadInv .any ops n listed){i:Nat}(hi:i<n)(hsi:st i=true)(hun:listed.getD i true=false): ∀t,n≤t→t ∉ Region.ready .any ops listed:=by
 intro t ht hr
 obtain⟨_,ot,hot,hall⟩:=mem_ready.1 hr
 have htlt:t<ops.size:=(Array.getElem?_eq_some_iff.1 hot).1
 have hdir:∀j,j∈waits ops t→listed.getD j false=true:=fun j hj=>by
  unfold waits at hj;rw[hot]at hj
  obtain⟨e,he,rfl⟩:=List.mem_map.1 hj
  obtain⟨he1,he2⟩:=List.mem_filter.1 he
  exact hall e (Array.mem_toList_iff.1 he1) he2
 by_cases htn:t=n
 ·subst htn
  have h1:=List.all_eq_true.1 hs i (List.mem_range.2 hi)
  rw[hsi,show(t==ops.size)=false by simpa using Nat.ne_of_lt htlt]at h1
  have h2:=reach_listed inv 6 t hdir (by simpa using h1)
  rw[getD_both hun]at h2
  cases h2
 ·have h1:=List.all_eq_true.1 hc t (List.mem_range.2 htlt)
  simp only[Bool.or_eq_true,decide_eq_true_eq]at h1
  rcases h1 with h1|h1
  ·omega
  ·obtain⟨o',ho',e,he,hb,hon⟩:=Region.waitsFor_spec h1
   have:o'=ot:=Option.some.inj (ho'.symm.trans hot)
   subst this
   have h2:=hall e he hb
   rw[hon,getD_both (inv.tail (t-1) (by omega) (by omega))]at h2
   cases h2
def PutsOk(F:List Deferred→(Nat→Value)→(Nat→Value)→Act): List Nat→Nat→Prop
 | [],_=>True
 | d::ds,i=>(∀d0 b u v,(F d0 b u).put (some d) v=F d0 b (fun k=>if k=i then v else u k))∧PutsOk F ds (i+1)
theorem PutsOk.at{F:List Deferred→(Nat→Value)→(Nat→Value)→Act}: ∀ {ds:List Nat} {i:Nat},PutsOk F ds i→∀(j d:Nat),ds[j]?=some d→∀d0 b u v,(F d0 b u).put (some d) v=F d0 b (fun k=>if k=i+j then v else u k)
 | [],_,_,_,_,h=>by simp at h
 | d::ds,i,h,0,d',hd=>by simp at hd;subst hd;exact h.1
 | d::ds,i,h,j+1,d',hd=>fun d0 b u v=>by
  have:=PutsOk.at h.2 j d' (by simpa using hd) d0 b u v
  rw[this,show i+1+j=i+(j+1)by omega]
def OpsOk(P:Program)(ops:Array Oper)(F:(Nat→Value)→Act)(G:World→Prop)(Φ:Nat→Value→World→Prop)(fr:Nat→Bool): Nat→Nat→Prop
 | 0,_=>True
 | n+1,i=>GrowOk P ops F G Φ fr i∧OpsOk P ops F G Φ fr n (i+1)
theorem OpsOk.at{P:Program}{ops:Array Oper}{F:(Nat→Value)→Act}{G:World→Prop}{Φ:Nat→Value→World→Prop}{fr:Nat→Bool}: ∀ {n i:Nat},OpsOk P ops F G Φ fr n i→∀j,j<n→GrowOk P ops F G Φ fr (i+j)
 | 0,_,_,_,h=>by omega
 | n+1,i,h,0,_=>h.1
 | n+1,i,h,j+1,hj=>by
  have:=OpsOk.at h.2 j (by omega)
  rwa [show i+1+j=i+(j+1)by omega]at this
open Go Go.RowKit
def idx(k:Nat): List Nat→Nat→Option Nat
 | [],_=>none
 | d::ds,i=>if k=d then some i else idx k ds (i+1)
theorem idx_some{k:Nat}: ∀ {ds:List Nat} {i j:Nat},idx k ds i=some j→i≤j∧ds[j-i]?=some k
 | [],_,_,h=>by cases h
 | d::ds,i,j,h=>by
  unfold idx at h
  split at h
  ·subst_vars
   obtain rfl:=Option.some.inj h
   exact⟨Nat.le_refl _,by simp⟩
  ·obtain⟨h1,h2⟩:=idx_some h
   refine⟨by omega,?_⟩
   rw[show j-i=(j-(i+1))+1 by omega,List.getElem?_cons_succ]
   exact h2
theorem idx_at{d:Nat}: ∀ {ds:List Nat} {i j:Nat},ds.Nodup→ds[j]?=some d→idx d ds i=some (i+j)
 | [],_,_,_,h=>by simp at h
 | e::ds,i,0,_,h=>by
  simp at h;subst h
  simp[idx]
 | e::ds,i,j+1,hn,h=>by
  rw[List.nodup_cons]at hn
  have h':ds[j]?=some d:=by simpa using h
  have hne:d≠e:=fun e1=>hn.1 (e1▸List.mem_of_getElem? h')
  unfold idx
  rw[if_neg hne,idx_at hn.2 h']
  congr 1;omega
def frm(a:Act)(ds:List Nat)(u:Nat→Value): Act:={ a with tmps:=Array.ofFn (n:=a.tmps.size) fun k=>match idx k.val ds 0 with|some i=>u i|none=>a.tmps.getD k.val undef }
theorem frm_size(a:Act)(ds:List Nat)(u:Nat→Value): (frm a ds u).tmps.size=a.tmps.size:=by simp[frm]
theorem frm_get(a:Act)(ds:List Nat)(u:Nat→Value){k:Nat}(hk:k<a.tmps.size): (frm a ds u).tmps[k]?=some (match idx k ds 0 with|some i=>u i|none=>a.tmps.getD k undef):=by
 simp[frm,hk]
theorem frm_head{a:Act}{ds:List Nat}{u:Nat→Value}{k i:Nat}{v:Value}(hk:k<a.tmps.size)(h:idx k ds 0=some i)(hv:u i=v): (frm a ds u).eval (.tmp k)=v:=by
 show(frm a ds u).tmps.getD k undef=v
 rw[Array.getD_eq_getD_getElem?,frm_get a ds u hk,h,← hv];rfl
theorem frm_base{a:Act}{ds:List Nat}{u:Nat→Value}{k:Nat}{v:Value}(hk:k<a.tmps.size)(h:idx k ds 0=none)(hv:a.tmps.getD k undef=v): (frm a ds u).eval (.tmp k)=v:=by
 show(frm a ds u).tmps.getD k undef=v
 rw[Array.getD_eq_getD_getElem?,frm_get a ds u hk,h,← hv];rfl
theorem frm_self(a:Act)(ds:List Nat): a=frm a ds (fun i=>a.tmps.getD (ds.getD i 0) undef):=by
 obtain⟨t,d⟩:=a
 unfold frm
 congr 1
 apply Array.ext
 ·simp
 ·intro k h1 h2
  rw[Array.getElem_ofFn]
  cases e:idx k ds 0 with
  | none=>simp[h1]
  | some i =>
   have h3:=(idx_some e).2
   rw[Nat.sub_zero]at h3
   simp[List.getD,h3,h1]
theorem frm_put{a:Act}{ds:List Nat}(hn:ds.Nodup)(u:Nat→Value){i d:Nat}(hd:ds[i]?=some d)(v:Value): (frm a ds u).put (some d) v=frm a ds (fun k=>if k=i then v else u k):=by
 unfold frm Act.put
 simp only
 congr 1
 apply Array.ext
 ·simp
 ·intro k h1 h2
  rw[Array.getElem_setIfInBounds (by simpa using h2),Array.getElem_ofFn,Array.getElem_ofFn]
  by_cases e:d=k
  ·subst e
   rw[if_pos rfl,idx_at hn hd]
   simp
  ·rw[if_neg e]
   cases e2:idx k ds 0 with
   | none=>rfl
   | some j =>
    have hj:j≠i:=fun e3=>by
     subst e3
     have h3:=(idx_some e2).2
     rw[Nat.sub_zero,hd]at h3
     exact e (Option.some.inj h3)
    simp only[if_neg hj]
def waitsO(o:Oper): List Nat:=(o.after.toList.filter (Region.binds .any)).map (·.on)
def Want(u:Nat→Value)(o:Oper)(b:Bool): Prop:=match o.guard with
 | none=>b=true
 | some (g,c)=>∃x,u g=.bool x∧b=(x==c)
def KRun(P:Program)(G:World→Prop)(Φ:Nat→Value→World→Prop)(fr:Nat→Bool)(i:Nat)(o:Oper)(u:Nat→Value)(ev:Operand→Value)(W:World): Prop :=
 (Want u o true∧∃v w',(execOp ev o).run P W=.ok (.value v) w'∧Below W.heap.size W w'∧G w'∧Φ i v w'∧(fr i=true→∀g,blk v=some g→W.heap.size≤g)) ∨
 (fr i=false∧Want u o true∧∃f args,(execOp ev o).run P W=.ok (.enter f args) W∧Calls P f args W fun e w'=>∃v,e=.returned v∧Below W.heap.size W w'∧G w'∧Φ i v w') ∨
 (fr i=false∧Want u o false∧Φ i undef W)
def KOk(P:Program)(ds:List Nat)(A:Act)(G:World→Prop)(Φ:Nat→Value→World→Prop)(fr:Nat→Bool)(i:Nat)(o:Oper): Prop :=
 ∀(u:Nat→Value) (W:World),G W→(∀j,j∈waitsO o→Φ j (u j) W)→KRun P G Φ fr i o u (frm A ds u).eval W
def KsOk(P:Program)(ds:List Nat)(A:Act)(G:World→Prop)(Φ:Nat→Value→World→Prop)(fr:Nat→Bool): List Oper→Nat→Nat→Prop
 | o::l,n+1,i=>KOk P ds A G Φ fr i o∧KsOk P ds A G Φ fr l n (i+1)
 | _,_,_=>True
def LOk(P:Program)(ds:List Nat)(A:Act)(Φ:Nat→Value→World→Prop)(i:Nat)(o:Oper): Prop :=
 ∀(u:Nat→Value) (W:World),(∀j,j∈waitsO o→Φ j (u j) W)→∃v,Want u o true∧(∀w,(execOp (frm A ds u).eval o).run P w=.ok (.value v) w)∧Φ i v W
def LsOk(P:Program)(ds:List Nat)(A:Act)(Φ:Nat→Value→World→Prop)(fr st:Nat→Bool): List Oper→Nat→Nat→Prop
 | o::l,n+1,i=>(match st i with|true=>True|false=>fr i=false∧LOk P ds A Φ i o)∧LsOk P ds A Φ fr st l n (i+1)
 | _,_,_=>True
def guardsB(ops:Array Oper)(n:Nat): Bool:=(List.range n).all fun i=>match ops[i]? with|some o=>(match o.guard with|some (g,_)=>decide (g<n)|none=>true)|none=>true
theorem KsOk.at{P:Program}{ds:List Nat}{A:Act}{G:World→Prop}{Φ:Nat→Value→World→Prop}{fr:Nat→Bool}: ∀ {l:List Oper} {n i:Nat},KsOk P ds A G Φ fr l n i→∀j o,j<n→l[j]?=some o→KOk P ds A G Φ fr (i+j) o
 | [],_,_,_,_,_,_,ho=>by simp at ho
 | _::_,0,_,_,_,_,hj,_=>by omega
 | x::l,n+1,i,h,0,o,_,ho=>by
  simp at ho;subst ho;exact h.1
 | x::l,n+1,i,h,j+1,o,hj,ho=>by
  have:=KsOk.at h.2 j o (by omega) (by simpa using ho)
  rwa [show i+1+j=i+(j+1)by omega]at this
theorem LsOk.at{P:Program}{ds:List Nat}{A:Act}{Φ:Nat→Value→World→Prop}{fr st:Nat→Bool}: ∀ {l:List Oper} {n i:Nat},LsOk P ds A Φ fr st l n i→∀j o,j<n→l[j]?=some o→st (i+j)=false→fr (i+j)=false∧LOk P ds A Φ (i+j) o
 | [],_,_,_,_,_,_,ho,_=>by simp at ho
 | _::_,0,_,_,_,_,hj,_,_=>by omega
 | x::l,n+1,i,h,0,o,_,ho,hs=>by
  simp at ho;subst ho
  have h1:=h.1
  rw[Nat.add_zero]at hs
  rw[hs]at h1
  exact h1
 | x::l,n+1,i,h,j+1,o,hj,ho,hs=>by
  have e:i+1+j=i+(j+1):=by omega
  have:=LsOk.at h.2 j o (by omega) (by simpa using ho) (by rw[e];exact hs)
  rwa [e]at this
def nodupB:List Nat→Bool | []=>true|d::ds=>!(ds.contains d)&&nodupB ds
theorem nodup_of:∀ {ds:List Nat},nodupB ds=true→ds.Nodup
 | [],_=>List.nodup_nil
 | d::ds,h=>by
  simp only[nodupB,Bool.and_eq_true,Bool.not_eq_true',List.contains_eq_mem,decide_eq_false_iff_not]at h
  exact List.nodup_cons.2 ⟨h.1,nodup_of h.2⟩
abbrev Kn:=Value→World→Prop
def Stab(p:Kn): Prop:=∀v w w',Below w.heap.size w w'→p v w→p v w'
def eqK(c:Value): Kn:=fun v _=>v=c
def anyK:Kn:=fun _ _=>True
def ptrK(B:Nat)(t:TypeId)(cs:Array Value): Kn:=fun v W=>∃g,v=.pointer (some ⟨g,0,none⟩)∧B≤g∧Bx W g t cs
def sliK(B:Nat)(t:TypeId)(n:Nat)(cs:Array Value): Kn:=fun v W=>∃g,v=.slice (some ⟨g,0,none⟩) n n∧B≤g∧Bx W g t cs
theorem fresh_ptr{B:Nat}{t:TypeId}{cs:Array Value}(v:Value)(w:World)(h:ptrK B t cs v w): ∃g,blk v=some g∧g<w.heap.size:=by
 obtain⟨g,rfl,_,hx⟩:=h
 exact⟨g,rfl,hx.lt⟩
theorem fresh_sli{B:Nat}{t:TypeId}{n:Nat}{cs:Array Value}(v:Value)(w:World)(h:sliK B t n cs v w): ∃g,blk v=some g∧g<w.heap.size:=by
 obtain⟨g,rfl,_,hx⟩:=h
 exact⟨g,rfl,hx.lt⟩
open Go Go.RowKit
inductive KN where
 | eq (v:Value)
 | any
 | ptr (B:Nat) (t:TypeId) (cs:Array Value)
 | sli (B:Nat) (t:TypeId) (n:Nat) (cs:Array Value)
 | prd (p:Kn) (h:Stab p)
def KN.at:KN→Kn
 | .eq v=>eqK v
 | .any=>anyK
 | .ptr B t cs=>ptrK B t cs
 | .sli B t n cs=>sliK B t n cs
 | .prd p _=>p
def KN.fresh:KN→Bool
 | .ptr _ _ _=>true
 | .sli _ _ _ _=>true
 | _=>false
theorem KN.blk:∀(p:KN),p.fresh=true→∀v w,p.at v w→∃g,blk v=some g∧g<w.heap.size
 | .ptr _ _ _,_=>fresh_ptr
 | .sli _ _ _ _,_=>fresh_sli
 | .eq _,h=>by cases h
 | .any,h=>by cases h
 | .prd _ _,h=>by cases h
def okB(l:List Oper)(ds:List Nat)(late:List Nat)(N:Nat): Bool :=
 growB l.toArray ds.length (fun i=>!late.contains i)&&((List.range ds.length).all fun i=>((l.toArray[i]?).bind (·.dst))==ds[i]?)&&nodupB ds&&ds.all (·<N)&&guardsB l.toArray ds.length
def setN(w:World)(g:Nat): Nat→List Value→World
 | _,[]=>w
 | k,v::vs=>setN (w.setCell ⟨g,k,none⟩ v) g (k+1) vs
def putN(cs:Array Value): Nat→List Value→Array Value
 | _,[]=>cs
 | k,v::vs=>putN (cs.setIfInBounds k v) (k+1) vs
theorem Bx.farN{g g':Nat}{t:TypeId}{cs:Array Value}(hp:g≠g'): ∀(vs:List Value) (k:Nat) {w:World},Bx w g t cs→Bx (setN w g' k vs) g t cs
 | [],_,_,h=>h
 | v::vs,k,_,h=>Bx.farN hp vs (k+1) (h.far (p:=⟨g',k,none⟩) hp v)
theorem Bx.stores{g:Nat}{t:TypeId}: ∀(vs:List Value) (k:Nat) {w:World} {cs:Array Value},Bx w g t cs→Bx (setN w g k vs) g t (putN cs k vs)
 | [],_,_,_,h=>h
 | v::vs,k,_,_,h=>Bx.stores vs (k+1) (h.set k v)
theorem stN{B g:Nat}{a:World}(hg:B≤g): ∀(vs:List Value) (k:Nat) {w:World},Below B a w→Below B a (setN w g k vs)
 | [],_,_,h=>h
 | v::vs,k,_,h=>stN hg vs (k+1) (h.setCell hg v)
theorem Bx.k1{w:World}{g:Nat}{t:TypeId}{x0:Value}(h:Bx w g t #[x0]): w.cell? ⟨g,0,none⟩=some x0∧w.frozen? ⟨g,0,none⟩=false :=
 ⟨h.cel 0,h.free 0⟩
theorem Bx.k2{w:World}{g:Nat}{t:TypeId}{x0 x1:Value}(h:Bx w g t #[x0,x1]): w.cell? ⟨g,0,none⟩=some x0∧w.cell? ⟨g,1,none⟩=some x1∧w.frozen? ⟨g,0,none⟩=false∧w.frozen? ⟨g,1,none⟩=false :=
 ⟨h.cel 0,h.cel 1,h.free 0,h.free 1⟩
theorem Bx.k3{w:World}{g:Nat}{t:TypeId}{x0 x1 x2:Value}(h:Bx w g t #[x0,x1,x2]): w.cell? ⟨g,0,none⟩=some x0∧w.cell? ⟨g,1,none⟩=some x1∧w.cell? ⟨g,2,none⟩=some x2∧w.frozen? ⟨g,0,none⟩=false∧w.frozen? ⟨g,1,none⟩=false∧w.frozen? ⟨g,2,none⟩=false :=
 ⟨h.cel 0,h.cel 1,h.cel 2,h.free 0,h.free 1,h.free 2⟩
theorem Bx.k4{w:World}{g:Nat}{t:TypeId}{x0 x1 x2 x3:Value}(h:Bx w g t #[x0,x1,x2,x3]): w.cell? ⟨g,0,none⟩=some x0∧w.cell? ⟨g,1,none⟩=some x1∧w.cell? ⟨g,2,none⟩=some x2∧w.cell? ⟨g,3,none⟩=some x3∧w.frozen? ⟨g,0,none⟩=false∧w.frozen? ⟨g,1,none⟩=false∧w.frozen? ⟨g,2,none⟩=false∧w.frozen? ⟨g,3,none⟩=false :=
 ⟨h.cel 0,h.cel 1,h.cel 2,h.cel 3,h.free 0,h.free 1,h.free 2,h.free 3⟩
theorem Bx.k5{w:World}{g:Nat}{t:TypeId}{x0 x1 x2 x3 x4:Value}(h:Bx w g t #[x0,x1,x2,x3,x4]): w.cell? ⟨g,0,none⟩=some x0∧w.cell? ⟨g,1,none⟩=some x1∧w.cell? ⟨g,2,none⟩=some x2∧w.cell? ⟨g,3,none⟩=some x3∧w.cell? ⟨g,4,none⟩=some x4∧w.frozen? ⟨g,0,none⟩=false∧w.frozen? ⟨g,1,none⟩=false∧w.frozen? ⟨g,2,none⟩=false∧w.frozen? ⟨g,3,none⟩=false∧w.frozen? ⟨g,4,none⟩=false :=
 ⟨h.cel 0,h.cel 1,h.cel 2,h.cel 3,h.cel 4,h.free 0,h.free 1,h.free 2,h.free 3,h.free 4⟩
theorem Bx.k6{w:World}{g:Nat}{t:TypeId}{x0 x1 x2 x3 x4 x5:Value}(h:Bx w g t #[x0,x1,x2,x3,x4,x5]): w.cell? ⟨g,0,none⟩=some x0∧w.cell? ⟨g,1,none⟩=some x1∧w.cell? ⟨g,2,none⟩=some x2∧w.cell? ⟨g,3,none⟩=some x3∧w.cell? ⟨g,4,none⟩=some x4∧w.cell? ⟨g,5,none⟩=some x5∧w.frozen? ⟨g,0,none⟩=false∧w.frozen? ⟨g,1,none⟩=false∧w.frozen? ⟨g,2,none⟩=false∧w.frozen? ⟨g,3,none⟩=false∧w.frozen? ⟨g,4,none⟩=false∧w.frozen? ⟨g,5,none⟩=false :=
 ⟨h.cel 0,h.cel 1,h.cel 2,h.cel 3,h.cel 4,h.cel 5,h.free 0,h.free 1,h.free 2,h.free 3,h.free 4,h.free 5⟩
theorem Bx.k7{w:World}{g:Nat}{t:TypeId}{x0 x1 x2 x3 x4 x5 x6:Value}(h:Bx w g t #[x0,x1,x2,x3,x4,x5,x6]): w.cell? ⟨g,0,none⟩=some x0∧w.cell? ⟨g,1,none⟩=some x1∧w.cell? ⟨g,2,none⟩=some x2∧w.cell? ⟨g,3,none⟩=some x3∧w.cell? ⟨g,4,none⟩=some x4∧w.cell? ⟨g,5,none⟩=some x5∧w.cell? ⟨g,6,none⟩=some x6∧w.frozen? ⟨g,0,none⟩=false∧w.frozen? ⟨g,1,none⟩=false∧w.frozen? ⟨g,2,none⟩=false∧w.frozen? ⟨g,3,none⟩=false∧w.frozen? ⟨g,4,none⟩=false∧w.frozen? ⟨g,5,none⟩=false∧w.frozen? ⟨g,6,none⟩=false :=
 ⟨h.cel 0,h.cel 1,h.cel 2,h.cel 3,h.cel 4,h.cel 5,h.cel 6,h.free 0,h.free 1,h.free 2,h.free 3,h.free 4,h.free 5,h.free 6⟩
theorem Bx.k8{w:World}{g:Nat}{t:TypeId}{x0 x1 x2 x3 x4 x5 x6 x7:Value}(h:Bx w g t #[x0,x1,x2,x3,x4,x5,x6,x7]): w.cell? ⟨g,0,none⟩=some x0∧w.cell? ⟨g,1,none⟩=some x1∧w.cell? ⟨g,2,none⟩=some x2∧w.cell? ⟨g,3,none⟩=some x3∧w.cell? ⟨g,4,none⟩=some x4∧w.cell? ⟨g,5,none⟩=some x5∧w.cell? ⟨g,6,none⟩=some x6∧w.cell? ⟨g,7,none⟩=some x7∧w.frozen? ⟨g,0,none⟩=false∧w.frozen? ⟨g,1,none⟩=false∧w.frozen? ⟨g,2,none⟩=false∧w.frozen? ⟨g,3,none⟩=false∧w.frozen? ⟨g,4,none⟩=false∧w.frozen? ⟨g,5,none⟩=false∧w.frozen? ⟨g,6,none⟩=false∧w.frozen? ⟨g,7,none⟩=false :=
 ⟨h.cel 0,h.cel 1,h.cel 2,h.cel 3,h.cel 4,h.cel 5,h.cel 6,h.cel 7,h.free 0,h.free 1,h.free 2,h.free 3,h.free 4,h.free 5,h.free 6,h.free 7⟩
