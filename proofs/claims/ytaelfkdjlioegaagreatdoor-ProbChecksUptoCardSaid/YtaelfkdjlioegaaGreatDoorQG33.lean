/- The walks and plain laws beneath the statements. -/
import Derived.Test.YtaelfkdjlioegaaGreatDoorQG31
import Derived.Test.YtaelfkdjlioegaaGreatDoorQG32
import Derived.Test.YtaelfkdjlioegaaGreatDoorQG29
namespace Go.Proofs.YtaelfkdjlioegaaGreatDoor
open Tryz
open Go Go.RowKit
theorem W8{x:Dyadic}{L T:Nat}{w:World}(h:DB L T x)(hLT:L+T≤4000000):
  Calls prog 135 #[.agg #[.bool (neg (dm x)),.string (Qh (dm x)),.int .i64 (de x)]] w fun r w'=>r=.returned (.agg #[.bool (neg (dm (-x))),.string (Qh (dm (-x))),.int .i64 (de (-x))])∧Below w.heap.size w w':=by
 have h1:=ZZ h
 have h2:=Vu h
 have c:=E5 (Qh (dm x)) (neg (dm x)) (de x) w (by omega) (by omega) (by omega)
 rw[QR,DR]at c
 exact c
