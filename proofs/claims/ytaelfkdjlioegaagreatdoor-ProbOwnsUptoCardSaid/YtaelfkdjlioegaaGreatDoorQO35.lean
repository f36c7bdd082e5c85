/- The walks and plain laws beneath the statements. -/
import Derived.Test.YtaelfkdjlioegaaGreatDoorQO20
import Derived.Test.YtaelfkdjlioegaaGreatDoorQO25
namespace Go.Proofs.YtaelfkdjlioegaaGreatDoor
open Go Go.RowKit
def cel3(bs:Nat→Bool)(ss:Nat→ByteArray)(es:Nat→Int)(j:Nat): List Value:=[.bool (bs j),.string (ss j),.int .i64 (es j)]
theorem RdN.cel{w:World}{A:Option Addr}{n:Nat}{bs:Nat→Bool}{ss:Nat→ByteArray}{es:Nat→Int}(h:RdN w A n bs ss es): RdK w A n 3 (cel3 bs ss es):=fun h0=>by
 obtain⟨b,off,rfl,hc⟩:=h h0
 refine⟨b,off,rfl,fun j hj i hi=>?_⟩
 have hi':i=0∨i=1∨i=2:=by omega
 obtain⟨h1,h2,h3⟩:=hc j hj
 rcases hi' with rfl|rfl|rfl
 ·exact h1
 ·exact h2
 ·exact h3
def RdM(w:World)(A:Option Addr)(n:Nat)(ms:Nat→Nat)(bs:Nat→Nat→Bool)(ss:Nat→Nat→ByteArray)(es:Nat→Nat→Int): Prop:=RdT w A n 3 ms (fun i=>cel3 (bs i) (ss i) (es i))
theorem RdM.below{w w':World}{A:Option Addr}{n:Nat}{ms:Nat→Nat}{bs:Nat→Nat→Bool}{ss:Nat→Nat→ByteArray}{es:Nat→Nat→Int}(h:RdM w A n ms bs ss es)(hb:Below w.heap.size w w'): RdM w' A n ms bs ss es:=RdT.below (fun _ _=>rfl) h hb
open Go Go.RowKit
def OwnM(w:World)(base:Nat)(v:Value)(n:Nat)(ms:Nat→Nat)(bs:Nat→Nat→Bool)(ss:Nat→Nat→ByteArray)(es:Nat→Nat→Int): Prop:=OwnT w base 44 3 v n ms (fun i=>cel3 (bs i) (ss i) (es i))
theorem OwnM.below{w w':World}{base:Nat}{v:Value}{n:Nat}{ms:Nat→Nat}{bs:Nat→Nat→Bool}{ss:Nat→Nat→ByteArray}{es:Nat→Nat→Int}(h:OwnM w base v n ms bs ss es)(hb:Below w.heap.size w w'): OwnM w' base v n ms bs ss es:=OwnT.below (fun _ _=>rfl) h hb
