/- Laws beneath the statement. -/
import Derived.Test.YtoibldcmoapgbaaGreatDoorQP14
import Derived.Test.YtoibldcmoapgbaaGreatDoorQP18
namespace Go.Proofs.YtoibldcmoapgbaaGreatDoor
open Go Go.RowKit
variable{w:World}{A:Option Addr}{ss:Nat->ByteArray}
theorem tv{B c:Nat}{a d e:y9}(h:Below B a d)(f:Below c d e)(b:B<=c): Below B a e:=h.trans (f.mono b)
def xG(bs:Nat->Bool)(ss:Nat->u4)(a:Nat->Int)(j:Nat): a8:=[.bool (bs j),.string (ss j),.int .i64 (a j)]
theorem RdK.num{n:Nat}{bs:Nat->Bool}{d:Nat->Int}(h:RdK w A n 3 (xG bs ss d)): RdN w A n bs ss d:=λe=>by
 obtain⟨b,off,rfl,a⟩:=h e;exact⟨b,off,rfl,λj c=>⟨a j c 0 x4,a j c 1 x4,a j c 2 x4⟩⟩
def RdM(w:y9)(A:u5)(n:Nat)(a:Nat->Nat)(bs:Nat->Nat->Bool)(ss:Nat->Nat->u4)(b:Nat->Nat->Int): Prop:=RdT w A n 3 a (λi=>xG (bs i) (ss i) (b i))
theorem RdM.below{a:y9}{n:Nat}{b:Nat->Nat}{bs:Nat->Nat->Bool}{ss:Nat->Nat->u4}{c:Nat->Nat->Int}(h:RdM w A n b bs ss c)(d:Below w.heap.size w a): RdM a A n b bs ss c:=RdT.below (λ_ _=>rfl) h d
