/- Laws beneath the statement. -/
import Derived.Test.YtoibldcmoapgbaaGreatDoorQP10
namespace Go.Proofs.YtoibldcmoapgbaaGreatDoor
open Go Go.RowKit
variable{w w':World}{A:Option Addr}{f:Nat->List Value}{F:Nat->Nat->List Value}
def RdT(w:y9)(A:u5)(n k:Nat)(a:Nat->Nat)(F:Nat->Nat->a8): Prop :=
 0<n->∃b off,A=some ⟨b,off,none⟩/\∀i,i<n->∃c ci,a i<=ci/\(c=none->a i=0/\ci=0)/\w.cell? ⟨b,off+i,none⟩=some (.slice c (a i) ci)/\RdK w c (a i) k (F i)
theorem RdK.below{n k:Nat}(d:∀j,(f j).length=k)(h:RdK w A n k f)(g:Below w.heap.size w w'): RdK w' A n k f:=λl=>by
 obtain⟨b,off,e,m⟩:=h l;refine⟨b,off,e,λj o i a=>?_⟩;have c:=m j o i a;obtain⟨u,p⟩:∃u,(f j)[i]?=some u:=⟨_,m0 (by rw[d];exact a)⟩
 rw[p]at c ⊢;exact Ld g c
theorem RdT.below{n k:Nat}{a:Nat->Nat}(d:∀i j,(F i j).length=k)(h:RdT w A n k a F)(c:Below w.heap.size w w'): RdT w' A n k a F:=λf=>by
 obtain⟨b,off,e,g⟩:=h f;refine⟨b,off,e,λi l=>?_⟩;obtain⟨m,ci,o,p,q,r⟩:=g i l;exact⟨m,ci,o,p,Ld c q,r.below (d i) c⟩
