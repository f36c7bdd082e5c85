/- Laws beneath the statement. -/
import Derived.Test.YtoibldcmoapgbaaGreatDoorBP13
namespace Go.Proofs.YtoibldcmoapgbaaGreatDoor
set_option linter.defProp false
open Tryz
set_option maxRecDepth 100000
open Go.RowKit
def TM(W:World)(x y:Operand)(a b:Bool):Qp prog W (do eqGuard .neq 4 x y (.bool a) (.bool b);binOp .neq 4 (.bool a) (.bool b)) (.bool (a != b)):=λc _=>by
 simp[go_sem];cases a<;>cases b<;>rfl
def wQ(W:World)(x y:Operand):Qp prog W (do eqGuard .neq 9 x y (.string ⟨#[]⟩) (.string ⟨#[]⟩);binOp .neq 9 (.string ⟨#[]⟩) (.string ⟨#[]⟩)) (.bool false):=λa _=>by
 simp[go_sem]
def Qca{s t:m1}{b c:Bool}{q:Nat}(j:∀W,o4 prog 138 #[Ψ s,Ψ t] W (.tuple #[Ψ (QL q),x00,Ξ true]))(w:m0):RetAt prog w 171 #[.agg #[Ξ b,Ψ s],.agg #[Ξ c,Ψ t]] (.tuple #[.agg #[Ξ (neg (Qe (b != c) q)),Ψ (QJ (Qe (b != c) q))],.agg #[Ξ false,x00],Ξ true]):=by
 have i:=λW=>E4 (QL q) false W
 have f:=λW=>Cl (QL q) false W
 have g:=λW=>Cl (QJ (-(q:Int))) (neg (-(q:Int))) W
 rw[XT]at i f;rw[Xp]at g;have a:(b != c)=true->(.tuple #[.agg #[Ξ (neg (-(q:Int))),Ψ (QJ (-(q:Int)))],.agg #[Ξ false,x00],Ξ true]:y9)=.tuple #[.agg #[Ξ (neg (Qe (b != c) q)),Ψ (QJ (Qe (b != c) q))],.agg #[Ξ false,x00],Ξ true]:=λh=>by rw[h];rfl
 have d:(b != c)=false->(.tuple #[.agg #[Ξ (neg (q:Int)),Ψ (QJ (q:Int))],.agg #[Ξ false,x00],Ξ true]:y9)=.tuple #[.agg #[Ξ (neg (Qe (b != c) q)),Ψ (QJ (Qe (b != c) q))],.agg #[Ξ false,x00],Ξ true]:=λh=>by rw[h];rfl
 exact
 rk [x04 1 4 (.tup [sV (QL q),sV ⟨#[]⟩,bV true]),.gb 5 3 [x03 5 4 (Ξ false),x03 8 4 (Ξ (b != c)),.both [x04 9 1 (.agg [bV (neg (-(q:Int))),sV (QJ (-(q:Int)))]),.ord,.both [.both [x04 10 1 (.agg [bV (neg (-(q:Int))),sV (QJ (-(q:Int)))]),.both [] []] [x04 10 1 (.agg [bV (neg (-(q:Int))),sV (QJ (-(q:Int)))])]] [x04 10 1 (.agg [bV (neg (-(q:Int))),sV (QJ (-(q:Int)))])]] [.ord,.both [.both [x04 10 1 (.agg [bV (neg (q:Int)),sV (QJ (q:Int))]),.both [] []] [x04 10 1 (.agg [bV (neg (q:Int)),sV (QJ (q:Int))])]] [x04 10 1 (.agg [bV (neg (q:Int)),sV (QJ (q:Int))])]]] [x03 8 4 (Ξ (b != c)),.both [x04 9 1 (.agg [bV (neg (-(q:Int))),sV (QJ (-(q:Int)))]),.ord,.both [.both [x04 10 1 (.agg [bV (neg (-(q:Int))),sV (QJ (-(q:Int)))]),.both [] []] [x04 10 1 (.agg [bV (neg (-(q:Int))),sV (QJ (-(q:Int)))])]] [x04 10 1 (.agg [bV (neg (-(q:Int))),sV (QJ (-(q:Int)))])]] [.ord,.both [.both [x04 10 1 (.agg [bV (neg (q:Int)),sV (QJ (q:Int))]),.both [] []] [x04 10 1 (.agg [bV (neg (q:Int)),sV (QJ (q:Int))])]] [x04 10 1 (.agg [bV (neg (q:Int)),sV (QJ (q:Int))])]]]] λW m n=>ai (Cr W j)<|ZD b true (λl=>X0 (wQ W (.tmp 29) (.const (x00))) (TM W (.tmp 42) (.tmp 44) b c)<|Xi (b != c) (λh=>ai (Cr W i)<|(p0 ((p0 (ai (Cr W g)<|(p0 ((a h)) ((a h)))) (ai (Cr W g)<|(a h)))) (ai (Cr W g)<|(a h)))) λh=>(p0 ((p0 (ai (Cr W f)<|(p0 ((d h)) ((d h)))) (ai (Cr W f)<|(d h)))) (ai (Cr W f)<|(d h)))) λl=>ai (TM W (.tmp 42) (.tmp 44) b c)<|Xi (b != c) (λh=>ai (Cr W i)<|(p0 ((p0 (ai (Cr W g)<|(p0 ((a h)) ((a h)))) (ai (Cr W g)<|(a h)))) (ai (Cr W g)<|(a h)))) λh=>(p0 ((p0 (ai (Cr W f)<|(p0 ((d h)) ((d h)))) (ai (Cr W f)<|(d h)))) (ai (Cr W f)<|(d h)))
def xz{x y:Int}(W:m0)(i:Zr x<=536870912)(j:Zr y<=536870912)(k:y≠0)(a:x % y=0):
  o4 prog 171 #[.agg #[.bool (neg x),.string (QJ x)],.agg #[.bool (neg y),.string (QJ y)]] W (.tuple #[.agg #[.bool (neg (x / y)),.string (QJ (x / y))],.agg #[.bool (neg (x % y)),.string (QJ (x % y))],.bool true]):=by
 have g:0<Qa (QJ y):=by rw[VM];omega
 have b:Qa (QJ x) % Qa (QJ y)=0:=by
  grind[VM,Nat.mod_eq_zero_of_dvd,Int.natAbs_dvd_natAbs,Int.dvd_of_emod_eq_zero]
 have d:=(Od (neg x) (neg y) (Qa (QJ x)) (Qa (QJ y)) g).1;rw[if_neg (λh=>h.2 b),Xp,Xp]at d;rw[d,show QJ (x % y)=⟨#[]⟩by rw[a];rfl,show neg (x % y)=false by rw[a];rfl];exact(Qca (λW=>by
  have c:=Wx (QJ x) (QJ y) W (by rw[XU];omega) (by rw[XU];omega);rw[if_neg x3,b]at c;exact c) W).at
