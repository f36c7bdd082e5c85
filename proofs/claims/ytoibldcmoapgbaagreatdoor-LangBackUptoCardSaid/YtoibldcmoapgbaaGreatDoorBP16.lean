/- Laws beneath the statement. -/
import Derived.Test.YtoibldcmoapgbaaGreatDoorBP14
namespace Go.Proofs.YtoibldcmoapgbaaGreatDoor
set_option linter.defProp false
def bf(r i:Nat):Nat:=if i<r then i else i+1
def sn(r q:Nat)(a:Nat->Nat->Dyadic):Nat->Nat->Dyadic:=λi j=>a (bf r i) (bf q j)
def sO(k:Nat)(x:Dyadic):Dyadic:=if k % 2=1 then -x else x
def K4:Nat->(Nat->Nat->Dyadic)->Dyadic
 |0,_=>1
 |n+1,a=>SL (λk=>sO k (a 0 k*K4 n (sn 0 k a))) (n+1)
