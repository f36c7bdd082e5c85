/- The walks and plain laws beneath the statements. -/
import Derived.Test.YtaelfkdjlioegaaGreatDoorQG26
namespace Go.Proofs.YtaelfkdjlioegaaGreatDoor
variable{L T n:Nat}{xs:Nat→Nat→Dyadic}
def EE(r i:Nat): Nat:=if i<r then i else i+1
def G1(r q:Nat)(xs:Nat→Nat→Dyadic): Nat→Nat→Dyadic:=fun i j=>xs (EE r i) (EE q j)
def B6(k:Nat)(x:Dyadic): Dyadic:=if k % 2=1 then -x else x
def Xd:Nat→(Nat→Nat→Dyadic)→Dyadic
 | 0,_=>1
 | n+1,xs=>Ke (fun k=>B6 k (xs 0 k*Xd n (G1 0 k xs))) (n+1)
theorem Bm{x:Dyadic}(k:Nat)(h:DB L T x): DB L T (B6 k x):=by
 unfold B6;split
 ·exact CI h
 ·exact h
theorem Vw(hn:n+1≤8)(h:(L+T+8)*8≤1000000): L*(n+1)+((T+8)*(n+1)+1)≤1000001:=by
 rw[← Sb,← Rv]
 have h1:(L+(T+8))*(n+1)≤(L+(T+8))*8:=Lt _ hn
 omega
theorem Dk: ∀(n:Nat) (xs:Nat→Nat→Dyadic),n≤8→(∀i j,DB L T (xs i j))→DB (L*n) ((T+8)*n+1) (Xd n xs)
 | 0,_,_,_=>by rw[Nat.mul_zero,Nat.mul_zero];exact ko
 | n+1,xs,hn,h=>by
  have h1:∀k,DB (L*(n+1)) (T+((T+8)*n+1)) (B6 k (xs 0 k*Xd n (G1 0 k xs))):=fun k=>by
   have h2:=NP (h 0 k) (Dk n (G1 0 k xs) (by omega) (fun i j=>h _ _))
   exact Cd (Bm k h2) (by rw[Re];omega) (L3 _)
  exact Cd (F9 h1 (n+1)) (L3 _) (by rw[Re];omega)
theorem gg(hn:n+1≤8)(h:∀i j,DB L T (xs i j))(k:Nat): DB (L*(n+1)) ((T+8)*(n+1)+1) (xs 0 k*Xd n (G1 0 k xs)) :=
 Cd (NP (h 0 k) (Dk n (G1 0 k xs) (by omega) (fun i j=>h _ _))) (by rw[Re];omega) (by rw[Re];omega)
theorem AP(hn:n+1≤8)(h:∀i j,DB L T (xs i j))(k:Nat)(hk:k≤8): DB (L*(n+1)) ((T+8)*(n+1)+1) (Ke (fun k=>B6 k (xs 0 k*Xd n (G1 0 k xs))) k):=by
 have h1:∀k,DB (L*(n+1)) (T+((T+8)*n+1)) (B6 k (xs 0 k*Xd n (G1 0 k xs))):=fun k=>by
  have h2:=NP (h 0 k) (Dk n (G1 0 k xs) (by omega) (fun i j=>h _ _))
  exact Cd (Bm k h2) (by rw[Re];omega) (L3 _)
 exact Cd (F9 h1 k) (L3 _) (by rw[Re];omega)
