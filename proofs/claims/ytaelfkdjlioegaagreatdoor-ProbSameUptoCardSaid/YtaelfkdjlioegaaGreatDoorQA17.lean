/- The walks and plain laws beneath the statements. -/
import Derived.Test.YtaelfkdjlioegaaGreatDoorQA3
import Derived.Test.YtaelfkdjlioegaaGreatDoorQA13
namespace Go.Proofs.YtaelfkdjlioegaaGreatDoor
set_option maxRecDepth 100000
open Go Go.RowKit
set_option maxHeartbeats 400000 in
theorem chk1_any(R:Option Addr)(m c:Nat)(g:Nat)(A:Option Addr)(n cc:Nat)(w:World)(hg:w.cell? ⟨g,0,none⟩=some (.slice A n cc)):
  Calls Tryz.prog 150 #[.slice R m c,.pointer (some ⟨g,0,none⟩)] w fun e w'=>e=.returned (.bool (decide (m≠n)))∧w'=w:=by
 go_enter Tryz.func150,Tryz.ntmps150
 go_wp2
 go_ret
 refine⟨?_,rfl⟩
 congr 2
 by_cases h:m=n
 ·subst h;simp
 ·have h2:¬(m:Int)=(n:Int):=by omega
  simp[h,h2]
def RdL(w:World)(A:Option Addr)(n:Nat)(ms:Nat→Nat): Prop:=0<n→∃b off,A=some ⟨b,off,none⟩∧∀i,i<n→∃Ai ci,w.cell? ⟨b,off+i,none⟩=some (.slice Ai (ms i) ci)
theorem RdT.len{w:World}{A:Option Addr}{n k:Nat}{ms:Nat→Nat}{F:Nat→Nat→List Value}(h:RdT w A n k ms F): RdL w A n ms:=fun h0=>by
 obtain⟨b,off,e,hc⟩:=h h0
 exact⟨b,off,e,fun i hi=>by obtain⟨Ai,ci,_,_,h3,_⟩:=hc i hi;exact⟨Ai,ci,h3⟩⟩
theorem RdL.below{w w':World}{A:Option Addr}{n:Nat}{ms:Nat→Nat}(h:RdL w A n ms)(hb:Below w.heap.size w w'): RdL w' A n ms:=fun h0=>by
 obtain⟨b,off,e,hc⟩:=h h0
 exact⟨b,off,e,fun i hi=>by obtain⟨Ai,ci,h3⟩:=hc i hi;exact⟨Ai,ci,cell_later hb h3⟩⟩
set_option maxHeartbeats 400000 in
theorem idxN_any(A:Option Addr)(n c:Nat)(ms:Nat→Nat)(g:Nat)(B:Option Addr)(N cc:Nat)(k0:Nat)(w:World)(hn:n≤4611686018427387904)(hk:k0≤n)(h1:∀j,j<k0→ms j=N)(h2:k0<n→ms k0≠N)(hr:RdL w A n ms)(hg:w.cell? ⟨g,0,none⟩=some (.slice B N cc)):
  Calls Tryz.prog 173 #[.slice A n c,.func (Fn.func 150) #[] #[.pointer (some ⟨g,0,none⟩)]] w fun e w'=>e=.returned (.int .i64 (if k0<n then(k0:Int)else -1))∧w'=w:=by
 have H1:=Lib.hid h1
 have H2:=Lib.hid h2
 have HR:=Lib.hid hr
 clear h1 h2 hr
 go_enter Tryz.func173,Tryz.ntmps173
 go_wp2_with fail
 go_loop [8] (fun i=>∃k:Nat,k≤k0∧i=.int .i64 (k:Nat)) (fun i=>n-(intOf i).toNat)
 case atStart=>exact⟨0,Nat.zero_le _,rfl⟩
 case round =>
  obtain⟨k,hkk,rfl⟩:=hrel
  by_cases hlt:k<n
  ·obtain⟨b,off,rfl,hc⟩:=HR.out (by omega)
   obtain⟨Ai,ci,g1⟩:=hc k hlt
   have c1:=Lib.hid (chk1_any Ai (ms k) ci g B N cc w hg)
   have hlti:(k:Int)<(n:Int):=by omega
   clear hc
   by_cases he:k=k0
   ·subst he
    rw[decide_eq_true (H2.out hlt)]at c1
    go_wp2_with fail
    refine c1.out.mono ?_
    rintro e w1 ⟨rfl,rfl⟩
    go_wp2
    go_ret
    exact⟨rfl,rfl⟩
   ·rw[decide_eq_false (show ¬(ms k≠N)from fun h=>h (H1.out k (by omega)))]at c1
    go_wp2_with fail
    refine c1.out.mono ?_
    rintro e w1 ⟨rfl,rfl⟩
    go_wp2
    exact⟨⟨k+1,by omega,by go_num⟩,by simp[intOf];omega⟩
  ·obtain rfl:k=n:=by omega
   obtain rfl:k=k0:=by omega
   have hlti:¬(k:Int)<(k:Int):=by omega
   go_wp2
   go_ret
   exact⟨rfl,rfl⟩
set_option maxHeartbeats 400000 in
theorem conN_any(A:Option Addr)(n c:Nat)(ms:Nat→Nat)(g:Nat)(B:Option Addr)(N cc:Nat)(k0:Nat)(w:World)(hn:n≤4611686018427387904)(hk:k0≤n)(h1:∀j,j<k0→ms j=N)(h2:k0<n→ms k0≠N)(hr:RdL w A n ms)(hg:w.cell? ⟨g,0,none⟩=some (.slice B N cc)):
  Calls Tryz.prog 149 #[.slice A n c,.func (Fn.func 150) #[] #[.pointer (some ⟨g,0,none⟩)]] w fun e w'=>e=.returned (.bool (decide (k0<n)))∧w'=w:=by
 have c1:=Lib.hid (idxN_any A n c ms g B N cc k0 w hn hk h1 h2 hr hg)
 clear h1 h2 hr hg
 go_enter Tryz.func149,Tryz.ntmps149
 by_cases hlt:k0<n
 ·rw[if_pos hlt]at c1
  have hz:(0:Int)≤(k0:Int):=by omega
  go_wp2_with fail
  refine c1.out.mono ?_
  rintro e w1 ⟨rfl,rfl⟩
  go_wp2
  go_ret
  exact⟨by simp[hlt],rfl⟩
 ·rw[if_neg hlt]at c1
  go_wp2_with fail
  refine c1.out.mono ?_
  rintro e w1 ⟨rfl,rfl⟩
  go_wp2
  go_ret
  exact⟨by simp[hlt],rfl⟩
def sqB(n:Nat)(ms:Nat→Nat): Prop:=n≤8∧∀j,j<n→ms j=n
theorem first_bad(n N:Nat)(ms:Nat→Nat): ∃k0,k0≤n∧(∀j,j<k0→ms j=N)∧(k0<n→ms k0≠N):=by
 induction n with
 | zero=>exact⟨0,Nat.le_refl _,fun j hj=>absurd hj (by omega),fun h=>absurd h (by omega)⟩
 | succ n ih =>
  obtain⟨k0,a,b,c⟩:=ih
  by_cases h:k0<n
  ·exact⟨k0,by omega,b,fun _=>c h⟩
  ·obtain rfl:k0=n:=by omega
   by_cases h2:ms k0=N
   ·exact⟨k0+1,Nat.le_refl _,fun j hj=>by
     by_cases e:j=k0
     ·subst e;exact h2
     ·exact b j (by omega),fun h=>absurd h (by omega)⟩
   ·exact⟨k0,by omega,b,fun _=>h2⟩
set_option maxHeartbeats 400000 in
theorem mcheck_any(A:Option Addr)(n c:Nat)(ms:Nat→Nat)(w:World)(hn:n≤4611686018427387904)(hr:RdL w A n ms):
  Calls Tryz.prog 125 #[.slice A n c] w fun e w'=>(sqB n ms→e=.returned (.int .i64 0))∧(¬ sqB n ms→e=.returned (.int .i64 1))∧Below w.heap.size w w':=by
 obtain⟨k0,a1,a2,a3⟩:=first_bad n n ms
 have hB:=b1 w (.cells #[.slice A n c] 132)
 obtain⟨q0,_⟩:=(Bx.new w 132 #[.slice A n c]).k1
 have c1:=Lib.hid (conN_any A n c ms w.heap.size A n c k0 (w.alloc (.cells #[.slice A n c] 132)) hn a1 a2 a3 (hr.below (b1 w _)) q0)
 have HS:=Lib.hid (show sqB n ms↔n≤8∧¬ k0<n from⟨fun h=>⟨h.1,fun h2=>a3 h2 (h.2 k0 h2)⟩,fun h=>⟨h.1,fun j hj=>a2 j (by omega)⟩⟩)
 clear a2 a3 hr
 go_enter Tryz.func125,Tryz.ntmps125
 by_cases h8:n≤8
 ·have hg:¬(8:Int)<(n:Int):=by omega
  by_cases hlt:k0<n
  ·rw[decide_eq_true hlt]at c1
   go_wp2_with fail
   refine c1.out.mono ?_
   rintro e w1 ⟨rfl,rfl⟩
   go_wp2
   go_ret
   exact⟨fun h=>absurd hlt (HS.out.1 h).2,fun _=>rfl,hB⟩
  ·rw[decide_eq_false hlt]at c1
   go_wp2_with fail
   refine c1.out.mono ?_
   rintro e w1 ⟨rfl,rfl⟩
   go_wp2
   go_ret
   exact⟨fun _=>rfl,fun h=>absurd (HS.out.2 ⟨h8,hlt⟩) h,hB⟩
 ·have hg:(8:Int)<(n:Int):=by omega
  go_wp2_with fail
  go_ret
  exact⟨fun h=>absurd (HS.out.1 h).1 h8,fun _=>rfl,hB⟩
