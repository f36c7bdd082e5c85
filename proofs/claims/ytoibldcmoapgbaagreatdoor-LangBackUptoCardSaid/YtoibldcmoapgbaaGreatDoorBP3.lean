/- Laws beneath the statement. -/
import Derived.Shelf.Strings.OnBuilder
import Derived.Shelf.Strings.Trim
import Derived.Shelf.Small.Utf8
import Derived.Shelf.Small.Bits
import Derived.Shelf.Small.Wraps
import Derived.Shelf.Strconv.Itoa3
import Derived.Shelf.Strconv.ErrVarAll
import Derived.Shelf.Strconv.ParseInt10All
import Derived.Shelf.Strings.Shaped
import Derived.Shelf.Strings.Runes
import Derived.Shelf.Strings.AsciiSet
import Derived.Shelf.Strings.Repeat
import Derived.Shelf.Unicode.DecodeSlow
import Derived.Shelf.Strings.BuilderCap
import Derived.Shelf.Slices.Turned
import Derived.Test.YtoibldcmoapgbaaGreatDoorProg
import Derived.Shelf.Spec.BitsCarry
import Derived.Shelf.Spec.TrailingZeros
namespace Go.Proofs
set_option linter.defProp false
open Tryz
open Go Go.Shelf Go.RowKit Go.Lib Go.Sort
def Tryz.lays161_ren:Go.Shelf.Ren:=⟨λ|161=>241|231=>145|227=>147|233=>148|235=>150|228=>200|197=>106|151=>201|260=>143|152=>232|137=>248|119=>249|224=>198|225=>197|217=>196|266=>230|n=>n,λ|9=>9|4=>4|3=>3|5=>5|117=>220|116=>219|0=>0|124=>223|105=>175|21=>21|119=>268|46=>255|139=>271|138=>270|n=>n,λ|3=>1|4=>2|n=>n⟩
def Tryz.lays161:Go.Proofs.Lays.n161 prog Tryz.lays161_ren:=by repeat'(first|kernel_rfl|decide|intro w|constructor)
def Tryz.strings_TrimLeft_one(s:ByteArray)(c:UInt8)(a:c.toNat<128)(w:World):
 Calls prog 241 #[.string s,.string ⟨#[c]⟩] w λe b=>e=.returned (.string ⟨(Lib.trimLeftB s.data.toList c).toArray⟩)/\b=w:=Any.strings_TrimLeft_one Tryz.lays161 s c a w
def Tryz.lays134_ren:Go.Shelf.Ren:=⟨λ|134=>185|129=>179|n=>n,λ|53=>206|3=>3|4=>4|46=>255|5=>5|9=>9|n=>n,λ|n=>n⟩
def Tryz.lays134:Go.Proofs.Lays.n134 prog Tryz.lays134_ren:=by repeat'(first|kernel_rfl|decide|intro w|constructor)
def Tryz.bits_LeadingZeros64(x:Int)(w:World)(a:0<=x)(b:x<=18446744073709551615):
 Calls prog 185 #[.int .u64 x] w λe c=>e=.returned (.int .i64 (64-(Lib.bitLen x.toNat:Int)))/\c=w:=Any.bits_LeadingZeros64 Tryz.lays134 x w a b
def Tryz.lays264_ren:Go.Shelf.Ren:=⟨λ|264=>228|n=>n,λ|53=>206|46=>255|n=>n,λ|n=>n⟩
def Tryz.lays264:Go.Proofs.Lays.n264 prog Tryz.lays264_ren:=by repeat'(first|kernel_rfl|decide|intro w|constructor)
def Tryz.bits_Mul64(x y:Nat)(a:x<18446744073709551616)(b:y<18446744073709551616)(w:World):
 Calls prog 228 #[.int .u64 x,.int .u64 y] w λe c=>e=.returned (.tuple #[.int .u64 ((x*y / 18446744073709551616:Nat):Int),.int .u64 ((x*y % 18446744073709551616:Nat):Int)])/\c=w:=Any.bits_Mul64 Tryz.lays264 x y a b w
def Tryz.lays7_25_ren:Go.Shelf.Ren:=⟨λ|25=>246|n=>n,λ|22=>206|n=>n,λ|n=>n⟩
def Tryz.lays7_25:Go.Proofs.Lays7.n25 prog Tryz.lays7_25_ren:=by repeat'(first|kernel_rfl|decide|intro w|constructor)
def Tryz.bits_Add64(x y c:Nat)(a:c<=1)(w:World):
 (callFunc 246 #[.int .u64 x,.int .u64 y,.int .u64 c]).run prog w =
  .ok (.value (.tuple #[.int .u64 (((x+y+c) % 18446744073709551616:Nat):Int),.int .u64 (((x+y+c) / 18446744073709551616:Nat):Int)])) w:=Any7.bits_Add64 Tryz.lays7_25 x y c a w
def Tryz.lays7_26_ren:Go.Shelf.Ren:=⟨λ|26=>247|n=>n,λ|22=>206|n=>n,λ|n=>n⟩
def Tryz.lays7_26:Go.Proofs.Lays7.n26 prog Tryz.lays7_26_ren:=by repeat'(first|kernel_rfl|decide|intro w|constructor)
def Tryz.bits_Sub64(x y b:Nat)(a:b<=1)(w:World):
 (callFunc 247 #[.int .u64 x,.int .u64 y,.int .u64 b]).run prog w =
  .ok (.value (.tuple #[.int .u64 (((x+18446744073709551616-y-b) % 18446744073709551616:Nat):Int),.int .u64 ((if x<y+b then 1 else 0:Nat):Int)])) w:=Any7.bits_Sub64 Tryz.lays7_26 x y b a w
def Tryz.lays7_29_ren:Go.Shelf.Ren:=⟨λ|29=>160|n=>n,λ|22=>206|3=>3|4=>4|25=>255|54=>289|0=>0|5=>5|n=>n,λ|1=>4|n=>n⟩
def Tryz.lays7_29:Go.Proofs.Lays7.n29 prog Tryz.lays7_29_ren:=by repeat'(first|kernel_rfl|decide|intro w|constructor)
def Tryz.bits_TrailingZeros64(x:Nat)(a:x<18446744073709551616)(w:World)(b:x≠0->TabAt 4 Lib.deBruijn64tab w):
 Calls prog 160 #[.int .u64 x] w λe c=>e=.returned (.int .i64 (Lib.ctz 64 x))/\c=w:=Any7.bits_TrailingZeros64 Tryz.lays7_29 x a w b
end Go.Proofs
