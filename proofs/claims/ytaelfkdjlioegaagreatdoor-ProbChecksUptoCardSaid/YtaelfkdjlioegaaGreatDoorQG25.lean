/- The walks and plain laws beneath the statements. -/
import Derived.Test.YtaelfkdjlioegaaGreatDoorQG20
import Derived.Test.YtaelfkdjlioegaaGreatDoorQG24
namespace Go.Proofs.YtaelfkdjlioegaaGreatDoor
open Tryz
set_option maxRecDepth 100000
open Go Go.RowKit
theorem UP(s:ByteArray)(b:Bool)(n:Int)(w:World)(hs:s.size≤8388608)(h0:0≤n)(hn:n≤67108864):
  Calls prog 160 #[.agg #[.bool b,.string s],.int .i64 n] w fun e w'=>e=.returned (.agg #[.bool (neg (Qb b (Qa s)*2^n.toNat)),.string (Qh (Qb b (Qa s)*2^n.toNat))])∧Below w.heap.size w w':=by
 have cS:=fun W=>bJ s n W (by omega) (by omega)
 have hz:(Qx (Qa s*2^n.toNat)).size≤268435456:=by
  have h1:Yj (Qb b (Qa s)*2^n.toNat)≤s.size+n.toNat / 8+1:=Vj (XJ _ _)
  have h2:(Qx (Qa s*2^n.toNat)).size=Yj (Qb b (Qa s)*2^n.toNat):=by
   rw[← CY,Gn];unfold Yj;rw[Q0]
  rw[h2];omega
 have cF:=fun W=>YI (Qx (Qa s*2^n.toNat)) b W hz
 simp only[XB,CY]at cF
 exact
 RetAt.at<|Qi Qk mixed (fun a w=>call160 a w) func160 ntmps160 results160 _ rfl _ [.br true,.reg 8 [],.o 2 5 (.ret (sV (Qx (Qa s*2^n.toNat)))),.o 2 7 (.ret (.agg [bV (neg (Qb b (Qa s)*2^n.toNat)),sV (Qh (Qb b (Qa s)*2^n.toNat))]))] (fun W hW hR=>Kr (show(decide (n≥0))=true from Rf h0) (rc W (fun a w=>call177 a w) cS) (rc W (fun a w=>call83 a w) cF)<|hR) fun W=>by kernel_rfl
