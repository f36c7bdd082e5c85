/- Laws beneath the statement. -/
import Derived.Test.YtoibldcmoapgbaaGreatDoorBP19
import Derived.Test.YtoibldcmoapgbaaGreatDoorBP14
namespace Go.Proofs.YtoibldcmoapgbaaGreatDoor
set_option linter.defProp false
open Go Go.RowKit
def QcH{B c:Nat}{a d e:m0}(h:Below B a d)(f:Below c d e)(b:B<=c):Below B a e:=h.trans (f.mono b)
def QcR(bs:Nat->Bool)(a:Nat->m1)(b:Nat->Int)(j:Nat):o3:=[.bool (bs j),.string (a j),.int .i64 (b j)]
def RdK.num{w:m0}{A:m3}{n:Nat}{bs:Nat->Bool}{d:Nat->m1}{e:Nat->Int}(h:RdK w A n 3 (QcR bs d e)):RdN w A n bs d e:=λf=>by
 obtain⟨b,off,rfl,a⟩:=h f;exact⟨b,off,rfl,λj c=>⟨a j c 0 x4,a j c 1 x4,a j c 2 x4⟩⟩
def RdM(w:m0)(A:m3)(n:Nat)(a:Nat->Nat)(bs:Nat->Nat->Bool)(b:Nat->Nat->m1)(c:Nat->Nat->Int):Prop:=RdT w A n 3 a (λi=>QcR (bs i) (b i) (c i))
def RdM.below{w a:m0}{A:m3}{n:Nat}{b:Nat->Nat}{bs:Nat->Nat->Bool}{c:Nat->Nat->m1}{d:Nat->Nat->Int}(h:RdM w A n b bs c d)(e:Below w.heap.size w a):RdM a A n b bs c d:=RdT.below (λ_ _=>rfl) h e
