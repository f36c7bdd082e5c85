/- The walks and plain laws beneath the statements. -/
import Derived.Test.YtaelfkdjlioegaaGreatDoorQO14
import Derived.Test.YtaelfkdjlioegaaGreatDoorQO7
import Derived.Deep.DeepCutAuto
import Derived.Deep.CutBlock
import Derived.Deep.RegionHeld3
namespace Go.Proofs.YtaelfkdjlioegaaGreatDoor
open Go Go.RowKit
def RdL(w:World)(A:Option Addr)(n:Nat)(ms:Nat→Nat): Prop:=0<n→∃b off,A=some ⟨b,off,none⟩∧∀i,i<n→∃Ai ci,w.cell? ⟨b,off+i,none⟩=some (.slice Ai (ms i) ci)
theorem RdT.len{w:World}{A:Option Addr}{n k:Nat}{ms:Nat→Nat}{F:Nat→Nat→List Value}(h:RdT w A n k ms F): RdL w A n ms:=fun h0=>by
 obtain⟨b,off,e,hc⟩:=h h0
 exact⟨b,off,e,fun i hi=>by obtain⟨Ai,ci,_,_,h3,_⟩:=hc i hi;exact⟨Ai,ci,h3⟩⟩
theorem RdL.below{w w':World}{A:Option Addr}{n:Nat}{ms:Nat→Nat}(h:RdL w A n ms)(hb:Below w.heap.size w w'): RdL w' A n ms:=fun h0=>by
 obtain⟨b,off,e,hc⟩:=h h0
 exact⟨b,off,e,fun i hi=>by obtain⟨Ai,ci,h3⟩:=hc i hi;exact⟨Ai,ci,cell_later hb h3⟩⟩
