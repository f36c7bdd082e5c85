/- The walks and plain laws beneath the statements. -/
import Derived.Test.YtaelfkdjlioegaaGreatDoorQO21
import Derived.Test.YtaelfkdjlioegaaGreatDoorQO25
namespace Go.Proofs.YtaelfkdjlioegaaGreatDoor
def d3(a b c d e f g h i:Int): Int:=a*(e*i-f*h)-b*(d*i-f*g)+c*(d*h-e*g)
def d4(a00 a01 a02 a03 a10 a11 a12 a13 a20 a21 a22 a23 a30 a31 a32 a33:Int): Int :=
 a00*d3 a11 a12 a13 a21 a22 a23 a31 a32 a33-a01*d3 a10 a12 a13 a20 a22 a23 a30 a32 a33+a02*d3 a10 a11 a13 a20 a21 a23 a30 a31 a33-a03*d3 a10 a11 a12 a20 a21 a22 a30 a31 a32
def mi:Nat→(Nat→Nat→Int)→Nat→Nat→Int
 | 0,A,i,j=>A i j
 | 1,A,i,j=>A i j*A 0 0-A i 0*A 0 j
 | 2,A,i,j=>d3 (A 0 0) (A 0 1) (A 0 j) (A 1 0) (A 1 1) (A 1 j) (A i 0) (A i 1) (A i j)
 | _,A,i,j=>d4 (A 0 0) (A 0 1) (A 0 2) (A 0 j) (A 1 0) (A 1 1) (A 1 2) (A 1 j) (A 2 0) (A 2 1) (A 2 2) (A 2 j) (A i 0) (A i 1) (A i 2) (A i j)
def ls:Nat→(Nat→Nat→Int)→Int
 | 0,_=>1
 | k+1,A=>mi k A k k
