/- The walks and plain laws beneath the statements. -/
import Derived.Test.YtaelfkdjlioegaaGreatDoorQG14
import Derived.Maps.AppendAt
namespace Go.Proofs.YtaelfkdjlioegaaGreatDoor
open Go Go.RowKit
variable{w w':World}{A:Option Addr}{f:Nat→List Value}{F:Nat→Nat→List Value}
def RdT(w:World)(A:Option Addr)(n k:Nat)(ms:Nat→Nat)(F:Nat→Nat→List Value): Prop :=
 0<n→∃b off,A=some ⟨b,off,none⟩∧∀i,i<n→∃Ai ci,ms i≤ci∧(Ai=none→ms i=0∧ci=0)∧w.cell? ⟨b,off+i,none⟩=some (.slice Ai (ms i) ci)∧RdK w Ai (ms i) k (F i)
theorem RdK.below{n k:Nat}(hk:∀j,(f j).length=k)(h:RdK w A n k f)(hb:Below w.heap.size w w'): RdK w' A n k f:=fun h0=>by
 obtain⟨b,off,e,hc⟩:=h h0
 refine⟨b,off,e,fun j hj i hi=>?_⟩
 have h1:=hc j hj i hi
 obtain⟨u,hu⟩:∃u,(f j)[i]?=some u:=⟨_,List.getElem?_eq_getElem (by rw[hk];exact hi)⟩
 rw[hu]at h1 ⊢
 exact L7 hb h1
theorem RdT.below{n k:Nat}{ms:Nat→Nat}(hk:∀i j,(F i j).length=k)(h:RdT w A n k ms F)(hb:Below w.heap.size w w'): RdT w' A n k ms F:=fun h0=>by
 obtain⟨b,off,e,hc⟩:=h h0
 refine⟨b,off,e,fun i hi=>?_⟩
 obtain⟨Ai,ci,h1,h2,h3,h4⟩:=hc i hi
 exact⟨Ai,ci,h1,h2,L7 hb h3,h4.below (hk i) hb⟩
