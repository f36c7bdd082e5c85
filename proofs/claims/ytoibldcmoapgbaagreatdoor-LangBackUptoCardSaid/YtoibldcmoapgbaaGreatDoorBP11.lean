/- Laws beneath the statement. -/
import Derived.Test.YtoibldcmoapgbaaGreatDoorBP10
namespace Go.Proofs.YtoibldcmoapgbaaGreatDoor
set_option linter.defProp false
open Go Go.RowKit
def RdT(w:m0)(A:m3)(n k:Nat)(a:Nat->Nat)(F:Nat->Nat->o3):Prop :=
 0<n->∃b off,A=some ⟨b,off,none⟩/\∀i,i<n->∃c ci,a i<=ci/\(c=none->a i=0/\ci=0)/\w.cell? ⟨b,off+i,none⟩=some (.slice c (a i) ci)/\RdK w c (a i) k (F i)
def RdK.below{w a:m0}{A:m3}{n k:Nat}{f:Nat->o3}(g:∀j,(f j).length=k)(h:RdK w A n k f)(l:Below w.heap.size w a):RdK a A n k f:=λm=>by
 let⟨b,off,e,o⟩:=h m;refine⟨b,off,e,λj p i c=>?_⟩;have d:=o j p i c;obtain⟨u,q⟩:∃u,(f j)[i]?=some u:=⟨_,p6 (by rw[g];exact c)⟩
 rw[q]at d ⊢;exact Lj l d
def RdT.below{w a:m0}{A:m3}{n k:Nat}{c:Nat->Nat}{F:Nat->Nat->o3}(f:∀i j,(F i j).length=k)(h:RdT w A n k c F)(d:Below w.heap.size w a):RdT a A n k c F:=λg=>by
 let⟨b,off,e,l⟩:=h g;refine⟨b,off,e,λi m=>?_⟩;let⟨o,ci,p,q,r,s⟩:=l i m;exact⟨o,ci,p,q,Lj d r,s.below (f i) d⟩
