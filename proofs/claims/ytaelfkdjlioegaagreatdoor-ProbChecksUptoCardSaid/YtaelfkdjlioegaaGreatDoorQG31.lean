/- The walks and plain laws beneath the statements. -/
import Derived.Test.YtaelfkdjlioegaaGreatDoorQG21
import Derived.Test.YtaelfkdjlioegaaGreatDoorQG26
namespace Go.Proofs.YtaelfkdjlioegaaGreatDoor
open Go Go.RowKit
variable{w:World}{A:Option Addr}{ss:Nat→ByteArray}
theorem jJ{B B':Nat}{a w1 w2:World}(h:Below B a w1)(h2:Below B' w1 w2)(hle:B≤B'): Below B a w2:=h.trans (h2.mono hle)
def mX(bs:Nat→Bool)(ss:Nat→ByteArray)(es:Nat→Int)(j:Nat): List Value:=[.bool (bs j),.string (ss j),.int .i64 (es j)]
theorem RdK.num{n:Nat}{bs:Nat→Bool}{es:Nat→Int}(h:RdK w A n 3 (mX bs ss es)): o6 w A n bs ss es:=fun h0=>by
 obtain⟨b,off,rfl,hc⟩:=h h0
 exact⟨b,off,rfl,fun j hj=>⟨hc j hj 0 (by decide),hc j hj 1 (by decide),hc j hj 2 (by decide)⟩⟩
def RdM(w:World)(A:Option Addr)(n:Nat)(ms:Nat→Nat)(bs:Nat→Nat→Bool)(ss:Nat→Nat→ByteArray)(es:Nat→Nat→Int): Prop:=RdT w A n 3 ms (fun i=>mX (bs i) (ss i) (es i))
theorem RdM.below{w':World}{n:Nat}{ms:Nat→Nat}{bs:Nat→Nat→Bool}{ss:Nat→Nat→ByteArray}{es:Nat→Nat→Int}(h:RdM w A n ms bs ss es)(hb:Below w.heap.size w w'): RdM w' A n ms bs ss es:=RdT.below (fun _ _=>rfl) h hb
