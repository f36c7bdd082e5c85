/- The walks and plain laws beneath the statements. -/
import Derived.Test.YtaelfkdjlioegaaGreatDoorQG15
import Derived.Test.YtaelfkdjlioegaaGreatDoorQG9
namespace Go.Proofs.YtaelfkdjlioegaaGreatDoor
open Tryz
set_option maxHeartbeats 4000000
set_option maxRecDepth 100000
open Go Go.RowKit
variable{w:World}{A:Option Addr}{ms:Nat→Nat}{F:Nat→Nat→List Value}
theorem eP(R:Option Addr)(m c:Nat)(g:Nat)(A:Option Addr)(n cc:Nat)(w:World)(hg:w.cell? ⟨g,0,none⟩=some (.slice A n cc)):
  Calls prog 150 #[.slice R m c,.pointer (some ⟨g,0,none⟩)] w fun e w'=>e=.returned (.bool (decide (m≠n)))∧w'=w:=by
 go_enter func150,ntmps150
 go_wp2
 go_ret
 refine⟨?_,rfl⟩
 congr 2
 by_cases h:m=n
 ·subst h;simp
 ·have h2:¬(m:Int)=(n:Int):=by omega
  simp[h,h2]
def RdL(w:World)(A:Option Addr)(n:Nat)(ms:Nat→Nat): Prop:=0<n→∃b off,A=some ⟨b,off,none⟩∧∀i,i<n→∃Ai ci,w.cell? ⟨b,off+i,none⟩=some (.slice Ai (ms i) ci)
theorem RdT.len{n k:Nat}(h:RdT w A n k ms F): RdL w A n ms:=fun h0=>by
 obtain⟨b,off,e,hc⟩:=h h0
 exact⟨b,off,e,fun i hi=>by obtain⟨Ai,ci,_,_,h3,_⟩:=hc i hi;exact⟨Ai,ci,h3⟩⟩
theorem RdL.below{w':World}{n:Nat}(h:RdL w A n ms)(hb:Below w.heap.size w w'): RdL w' A n ms:=fun h0=>by
 obtain⟨b,off,e,hc⟩:=h h0
 exact⟨b,off,e,fun i hi=>by obtain⟨Ai,ci,h3⟩:=hc i hi;exact⟨Ai,ci,L7 hb h3⟩⟩
theorem cg(A:Option Addr)(n c:Nat)(ms:Nat→Nat)(g:Nat)(B:Option Addr)(N cc:Nat)(k0:Nat)(w:World)(hn:n≤4611686018427387904)(hk:k0≤n)(h1:∀j,j<k0→ms j=N)(h2:k0<n→ms k0≠N)(hr:RdL w A n ms)(hg:w.cell? ⟨g,0,none⟩=some (.slice B N cc)):
  Calls prog 173 #[.slice A n c,.func (Fn.func 150) #[] #[.pointer (some ⟨g,0,none⟩)]] w fun e w'=>e=.returned (.int .i64 (if k0<n then(k0:Int)else -1))∧w'=w:=by
 have H1:=Lib.hid h1
 have H2:=Lib.hid h2
 have HR:=Lib.hid hr
 clear h1 h2 hr
 go_enter func173,ntmps173
 go_wp2_with fail
 go_loop [8] (fun i=>∃k:Nat,k≤k0∧i=.int .i64 (k:Nat)) (fun i=>n-(intOf i).toNat)
 case atStart=>exact⟨0,L9 _,rfl⟩
 case round =>
  obtain⟨k,hkk,rfl⟩:=hrel
  by_cases hlt:k<n
  ·obtain⟨b,off,rfl,hc⟩:=HR.out (by omega)
   obtain⟨Ai,ci,g1⟩:=hc k hlt
   have c1:=Lib.hid (eP Ai (ms k) ci g B N cc w hg)
   have hlti:(k:Int)<(n:Int):=by omega
   clear hc
   by_cases he:k=k0
   ·subst he
    rw[Rf (H2.out hlt)]at c1
    go_wp2_with fail
    refine c1.out.mono ?_
    rintro e w1 ⟨rfl,rfl⟩
    go_wp2
    go_ret
    exact⟨rfl,rfl⟩
   ·rw[Lk (show ¬(ms k≠N)from fun h=>h (H1.out k (by omega)))]at c1
    go_wp2_with fail
    refine c1.out.mono ?_
    rintro e w1 ⟨rfl,rfl⟩
    go_wp2
    exact⟨⟨k+1,by omega,by go_num⟩,by simp[intOf];omega⟩
  ·obtain rfl:k=n:=by omega
   obtain rfl:k=k0:=by omega
   have hlti:¬(k:Int)<(k:Int):=by omega
   go_wp2
   go_ret
   exact⟨rfl,rfl⟩
theorem ah(A:Option Addr)(n c:Nat)(ms:Nat→Nat)(g:Nat)(B:Option Addr)(N cc:Nat)(k0:Nat)(w:World)(hn:n≤4611686018427387904)(hk:k0≤n)(h1:∀j,j<k0→ms j=N)(h2:k0<n→ms k0≠N)(hr:RdL w A n ms)(hg:w.cell? ⟨g,0,none⟩=some (.slice B N cc)):
  Calls prog 149 #[.slice A n c,.func (Fn.func 150) #[] #[.pointer (some ⟨g,0,none⟩)]] w fun e w'=>e=.returned (.bool (decide (k0<n)))∧w'=w:=by
 have c1:=Lib.hid (cg A n c ms g B N cc k0 w hn hk h1 h2 hr hg)
 clear h1 h2 hr hg
 go_enter func149,ntmps149
 by_cases hlt:k0<n
 ·rw[if_pos hlt]at c1
  have hz:(0:Int)≤(k0:Int):=by omega
  go_wp2_with fail
  refine c1.out.mono ?_
  rintro e w1 ⟨rfl,rfl⟩
  go_wp2
  go_ret
  exact⟨by simp[hlt],rfl⟩
 ·rw[if_neg hlt]at c1
  go_wp2_with fail
  refine c1.out.mono ?_
  rintro e w1 ⟨rfl,rfl⟩
  go_wp2
  go_ret
  exact⟨by simp[hlt],rfl⟩
def oc(n:Nat)(ms:Nat→Nat): Prop:=n≤8∧∀j,j<n→ms j=n
theorem TY(n N:Nat)(ms:Nat→Nat): ∃k0,k0≤n∧(∀j,j<k0→ms j=N)∧(k0<n→ms k0≠N):=by
 induction n with
 | zero=>exact⟨0,L3 _,fun j hj=>absurd hj (by omega),fun h=>absurd h (by omega)⟩
 | succ n ih =>
  obtain⟨k0,a,b,c⟩:=ih
  by_cases h:k0<n
  ·exact⟨k0,by omega,b,fun _=>c h⟩
  ·obtain rfl:k0=n:=by omega
   by_cases h2:ms k0=N
   ·exact⟨k0+1,L3 _,fun j hj=>by
     by_cases e:j=k0
     ·subst e;exact h2
     ·exact b j (by omega),fun h=>absurd h (by omega)⟩
   ·exact⟨k0,by omega,b,fun _=>h2⟩
theorem OW(A:Option Addr)(n c:Nat)(ms:Nat→Nat)(w:World)(hn:n≤4611686018427387904)(hr:RdL w A n ms):
  Calls prog 125 #[.slice A n c] w fun e w'=>(oc n ms→e=.returned (.int .i64 0))∧(¬ oc n ms→e=.returned (.int .i64 1))∧Below w.heap.size w w':=by
 obtain⟨k0,a1,a2,a3⟩:=TY n n ms
 have hB:=b1 w (.cells #[.slice A n c] 132)
 obtain⟨q0,_⟩:=(Bx.new w 132 #[.slice A n c]).k1
 have c1:=Lib.hid (ah A n c ms w.heap.size A n c k0 (w.alloc (.cells #[.slice A n c] 132)) hn a1 a2 a3 (hr.below (b1 w _)) q0)
 have HS:=Lib.hid (show oc n ms↔n≤8∧¬ k0<n from⟨fun h=>⟨h.1,fun h2=>a3 h2 (h.2 k0 h2)⟩,fun h=>⟨h.1,fun j hj=>a2 j (by omega)⟩⟩)
 clear a2 a3 hr
 go_enter func125,ntmps125
 by_cases h8:n≤8
 ·have hg:¬(8:Int)<(n:Int):=by omega
  by_cases hlt:k0<n
  ·rw[Rf hlt]at c1
   go_wp2_with fail
   refine c1.out.mono ?_
   rintro e w1 ⟨rfl,rfl⟩
   go_wp2
   go_ret
   exact⟨fun h=>absurd hlt (HS.out.1 h).2,fun _=>rfl,hB⟩
  ·rw[Lk hlt]at c1
   go_wp2_with fail
   refine c1.out.mono ?_
   rintro e w1 ⟨rfl,rfl⟩
   go_wp2
   go_ret
   exact⟨fun _=>rfl,fun h=>absurd (HS.out.2 ⟨h8,hlt⟩) h,hB⟩
 ·have hg:(8:Int)<(n:Int):=by omega
  go_wp2_with fail
  go_ret
  exact⟨fun h=>absurd (HS.out.1 h).1 h8,fun _=>rfl,hB⟩
