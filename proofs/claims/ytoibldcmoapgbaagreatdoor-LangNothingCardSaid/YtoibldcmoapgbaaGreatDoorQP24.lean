/- Laws beneath the statement. -/
import Derived.Test.YtoibldcmoapgbaaGreatDoorQP17
namespace Go.Proofs.YtoibldcmoapgbaaGreatDoor
open Tryz
set_option maxRecDepth 100000
open Go.RowKit
theorem Qab(W:World)(x y:Operand)(a b:Bool): Qn prog W (do eqGuard .neq 4 x y (.bool a) (.bool b);binOp .neq 4 (.bool a) (.bool b)) (.bool (a != b)):=λc _=>by
 simp[go_sem];cases a<;>cases b<;>rfl
theorem Qad(W:World)(x y:Operand): Qn prog W (do eqGuard .neq 9 x y (.string ⟨#[]⟩) (.string ⟨#[]⟩);binOp .neq 9 (.string ⟨#[]⟩) (.string ⟨#[]⟩)) (.bool false):=λa _=>by
 simp[go_sem]
theorem Qan{s t:u4}{b c:Bool}{q:Nat}(j:∀W,b9 prog 138 #[Ψ s,Ψ t] W (.tuple #[Ψ (QK q),x00,Ξ true]))(w:y9): RetAt prog w 171 #[.agg #[Ξ b,Ψ s],.agg #[Ξ c,Ψ t]] (.tuple #[.agg #[Ξ (neg (Qi (b != c) q)),Ψ (Qx (Qi (b != c) q))],.agg #[Ξ false,x00],Ξ true]):=by
 have i:=λW=>IU (QK q) false W
 have f:=λW=>Ny (QK q) false W
 have g:=λW=>Ny (Qx (-(q:Int))) (neg (-(q:Int))) W
 rw[Yl]at i f;rw[Xg]at g;have a:(b != c)=true->(.tuple #[.agg #[Ξ (neg (-(q:Int))),Ψ (Qx (-(q:Int)))],.agg #[Ξ false,x00],Ξ true]:z0)=.tuple #[.agg #[Ξ (neg (Qi (b != c) q)),Ψ (Qx (Qi (b != c) q))],.agg #[Ξ false,x00],Ξ true]:=λh=>by rw[h];rfl
 have d:(b != c)=false->(.tuple #[.agg #[Ξ (neg (q:Int)),Ψ (Qx (q:Int))],.agg #[Ξ false,x00],Ξ true]:z0)=.tuple #[.agg #[Ξ (neg (Qi (b != c) q)),Ψ (Qx (Qi (b != c) q))],.agg #[Ξ false,x00],Ξ true]:=λh=>by rw[h];rfl
 exact
 rk [.o 1 4 (.ret (.tup [sV (QK q),sV ⟨#[]⟩,bV true])),.gb 5 3 [.o 5 4 (.set (Ξ false)),.o 8 4 (.set (Ξ (b != c))),.both [.o 9 1 (.ret (.agg [bV (neg (-(q:Int))),sV (Qx (-(q:Int)))])),.ord,.both [.both [.o 10 1 (.ret (.agg [bV (neg (-(q:Int))),sV (Qx (-(q:Int)))])),.both [] []] [.o 10 1 (.ret (.agg [bV (neg (-(q:Int))),sV (Qx (-(q:Int)))]))]] [.o 10 1 (.ret (.agg [bV (neg (-(q:Int))),sV (Qx (-(q:Int)))]))]] [.ord,.both [.both [.o 10 1 (.ret (.agg [bV (neg (q:Int)),sV (Qx (q:Int))])),.both [] []] [.o 10 1 (.ret (.agg [bV (neg (q:Int)),sV (Qx (q:Int))]))]] [.o 10 1 (.ret (.agg [bV (neg (q:Int)),sV (Qx (q:Int))]))]]] [.o 8 4 (.set (Ξ (b != c))),.both [.o 9 1 (.ret (.agg [bV (neg (-(q:Int))),sV (Qx (-(q:Int)))])),.ord,.both [.both [.o 10 1 (.ret (.agg [bV (neg (-(q:Int))),sV (Qx (-(q:Int)))])),.both [] []] [.o 10 1 (.ret (.agg [bV (neg (-(q:Int))),sV (Qx (-(q:Int)))]))]] [.o 10 1 (.ret (.agg [bV (neg (-(q:Int))),sV (Qx (-(q:Int)))]))]] [.ord,.both [.both [.o 10 1 (.ret (.agg [bV (neg (q:Int)),sV (Qx (q:Int))])),.both [] []] [.o 10 1 (.ret (.agg [bV (neg (q:Int)),sV (Qx (q:Int))]))]] [.o 10 1 (.ret (.agg [bV (neg (q:Int)),sV (Qx (q:Int))]))]]]] λW m n=>ai (O3 W j)<|ZG b true (λl=>X7 (Qad W (.tmp 29) (.const (x00))) (Qab W (.tmp 42) (.tmp 44) b c)<|XA (b != c) (λh=>ai (O3 W i)<|(k0 ((k0 (ai (O3 W g)<|(k0 ((a h)) ((a h)))) (ai (O3 W g)<|(a h)))) (ai (O3 W g)<|(a h)))) λh=>(k0 ((k0 (ai (O3 W f)<|(k0 ((d h)) ((d h)))) (ai (O3 W f)<|(d h)))) (ai (O3 W f)<|(d h)))) λl=>ai (Qab W (.tmp 42) (.tmp 44) b c)<|XA (b != c) (λh=>ai (O3 W i)<|(k0 ((k0 (ai (O3 W g)<|(k0 ((a h)) ((a h)))) (ai (O3 W g)<|(a h)))) (ai (O3 W g)<|(a h)))) λh=>(k0 ((k0 (ai (O3 W f)<|(k0 ((d h)) ((d h)))) (ai (O3 W f)<|(d h)))) (ai (O3 W f)<|(d h)))
theorem rF{x y:Int}(W:y9)(i:Zq x<=536870912)(j:Zq y<=536870912)(k:y≠0)(a:x % y=0):
  b9 prog 171 #[.agg #[.bool (neg x),.string (Qx x)],.agg #[.bool (neg y),.string (Qx y)]] W (.tuple #[.agg #[.bool (neg (x / y)),.string (Qx (x / y))],.agg #[.bool (neg (x % y)),.string (Qx (x % y))],.bool true]):=by
 have g:0<Qa (Qx y):=by rw[KZ];omega
 have b:Qa (Qx x) % Qa (Qx y)=0:=by
  rw[KZ,KZ];exact Nat.mod_eq_zero_of_dvd (Int.natAbs_dvd_natAbs.2 (Int.dvd_of_emod_eq_zero a))
 have d:=(Mw (neg x) (neg y) (Qa (Qx x)) (Qa (Qx y)) g).1;rw[if_neg (λh=>h.2 b),Xg,Xg]at d;rw[d,show Qx (x % y)=⟨#[]⟩by rw[a];rfl,show neg (x % y)=false by rw[a];rfl];exact(Qan (λW=>by
  have c:=P8 (Qx x) (Qx y) W (by rw[XF];omega) (by rw[XF];omega);rw[if_neg x3,b]at c;exact c) W).at
