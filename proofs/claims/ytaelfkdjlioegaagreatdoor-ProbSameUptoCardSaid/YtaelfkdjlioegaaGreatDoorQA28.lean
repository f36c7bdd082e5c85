/- The walks and plain laws beneath the statements. -/
import Derived.Test.YtaelfkdjlioegaaGreatDoorQA24
namespace Go.Proofs.YtaelfkdjlioegaaGreatDoor
def skp(r i:Nat): Nat:=if i<r then i else i+1
def wot(r q:Nat)(xs:Nat→Nat→Dyadic): Nat→Nat→Dyadic:=fun i j=>xs (skp r i) (skp q j)
def alt(k:Nat)(x:Dyadic): Dyadic:=if k % 2=1 then -x else x
def detL:Nat→(Nat→Nat→Dyadic)→Dyadic
 | 0,_=>1
 | n+1,xs=>sumD (fun k=>alt k (xs 0 k*detL n (wot 0 k xs))) (n+1)
theorem db_alt{L T:Nat}{x:Dyadic}(k:Nat)(h:DB L T x): DB L T (alt k x):=by
 unfold alt;split
 ·exact db_neg h
 ·exact h
theorem db_det{L T:Nat}: ∀(n:Nat) (xs:Nat→Nat→Dyadic),n≤8→(∀i j,DB L T (xs i j))→DB (L*n) ((T+8)*n+1) (detL n xs)
 | 0,_,_,_=>by rw[Nat.mul_zero,Nat.mul_zero];exact db_one
 | n+1,xs,hn,h=>by
  have h1:∀k,DB (L*(n+1)) (T+((T+8)*n+1)) (alt k (xs 0 k*detL n (wot 0 k xs))):=fun k=>by
   have h2:=db_mul (h 0 k) (db_det n (wot 0 k xs) (by omega) (fun i j=>h _ _))
   exact db_up (db_alt k h2) (by rw[Nat.mul_add];omega) (Nat.le_refl _)
  exact db_up (db_sum h1 (n+1)) (Nat.le_refl _) (by rw[Nat.mul_add];omega)
