/- Laws beneath the statement. -/
import Derived.Test.YtoibldcmoapgbaaGreatDoorQP18
namespace Go.Proofs.YtoibldcmoapgbaaGreatDoor
def Ux(r i:Nat): Nat:=if i<r then i else i+1
def gF(r q:Nat)(a:Nat->Nat->Dyadic): Nat->Nat->Dyadic:=λi j=>a (Ux r i) (Ux q j)
def gG(k:Nat)(x:Dyadic): Dyadic:=if k % 2=1 then -x else x
def ZS:Nat->(Nat->Nat->Dyadic)->Dyadic
 | 0,_=>1
 | n+1,a=>Gw (λk=>gG k (a 0 k*ZS n (gF 0 k a))) (n+1)
theorem tQ{L T:Nat}{x:Dyadic}(k:Nat)(h:DB L T x): DB L T (gG k x):=by
 unfold gG;split
 ·exact UW h
 ·exact h
theorem iD{L T:Nat}: ∀(n:Nat) (a:Nat->Nat->Dyadic),n<=8->(∀i j,DB L T (a i j))->DB (L*n) ((T+8)*n+1) (ZS n a)
 | 0,_,_,_=>by rw[Nat.mul_zero,Nat.mul_zero];exact tT
 | n+1,a,d,h=>by
  have b:∀k,DB (L*(n+1)) (T+((T+8)*n+1)) (gG k (a 0 k*ZS n (gF 0 k a))):=λk=>by
   have c:=tR (h 0 k) (iD n (gF 0 k a) x3 (λi j=>h _ _));exact EO (tQ k c) (by rw[Rl];omega) (L8 _)
  exact EO (UX b (n+1)) (L8 _) (by rw[Rl];omega)
