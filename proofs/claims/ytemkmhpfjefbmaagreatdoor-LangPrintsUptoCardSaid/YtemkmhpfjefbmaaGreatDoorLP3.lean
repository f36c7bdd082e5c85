/- Laws beneath the statement. -/
import Derived.Shelf.Strings.OnBuilder
import Derived.Shelf.Strings.Trim
import Derived.Shelf.Small.Utf8
import Derived.Shelf.Small.Bits
import Derived.Shelf.Small.Wraps
import Derived.Shelf.Strconv.Itoa3
import Derived.Shelf.Strconv.ErrVarAll
import Derived.Shelf.Strconv.ParseInt10All
import Derived.Shelf.Strings.Shaped
import Derived.Shelf.Strings.Runes
import Derived.Shelf.Strings.AsciiSet
import Derived.Shelf.Strings.Repeat
import Derived.Shelf.Unicode.DecodeSlow
import Derived.Shelf.Strings.BuilderCap
import Derived.Shelf.Slices.Turned
import Derived.Test.YtemkmhpfjefbmaaGreatDoorProg
import Derived.Shelf.Spec.BitsCarry
import Derived.Shelf.Spec.TrailingZeros
namespace Go.Proofs
set_option linter.defProp false
open Tryz
open Go Go.Shelf Go.RowKit Go.Lib Go.Sort
def Tryz.lays161_ren:Go.Shelf.Ren:=⟨λ|161=>286|231=>177|227=>179|233=>180|235=>182|228=>240|197=>129|151=>241|260=>175|152=>277|137=>295|119=>296|224=>238|225=>237|217=>236|266=>275|n=>n,λ|9=>9|4=>4|3=>3|5=>5|117=>227|116=>226|0=>0|124=>230|105=>180|21=>21|119=>276|46=>259|139=>279|138=>278|n=>n,λ|3=>1|4=>2|n=>n⟩
def Tryz.lays161:Go.Proofs.Lays.n161 prog Tryz.lays161_ren:=by repeat'(first|kernel_rfl|decide|intro w|constructor)
def Tryz.strings_TrimLeft_one(s:ByteArray)(c:UInt8)(a:c.toNat<128)(w:World):
 Calls prog 286 #[.string s,.string ⟨#[c]⟩] w λe b=>e=.returned (.string ⟨(Lib.trimLeftB s.data.toList c).toArray⟩)/\b=w:=Any.strings_TrimLeft_one Tryz.lays161 s c a w
def Tryz.lays134_ren:Go.Shelf.Ren:=⟨λ|134=>217|129=>211|n=>n,λ|53=>179|3=>3|4=>4|46=>259|5=>5|9=>9|n=>n,λ|n=>n⟩
def Tryz.lays134:Go.Proofs.Lays.n134 prog Tryz.lays134_ren:=by repeat'(first|kernel_rfl|decide|intro w|constructor)
def Tryz.bits_LeadingZeros64(x:Int)(w:World)(a:0<=x)(b:x<=18446744073709551615):
 Calls prog 217 #[.int .u64 x] w λe c=>e=.returned (.int .i64 (64-(Lib.bitLen x.toNat:Int)))/\c=w:=Any.bits_LeadingZeros64 Tryz.lays134 x w a b
def Tryz.lays264_ren:Go.Shelf.Ren:=⟨λ|264=>268|n=>n,λ|53=>179|46=>259|n=>n,λ|n=>n⟩
def Tryz.lays264:Go.Proofs.Lays.n264 prog Tryz.lays264_ren:=by repeat'(first|kernel_rfl|decide|intro w|constructor)
def Tryz.bits_Mul64(x y:Nat)(a:x<18446744073709551616)(b:y<18446744073709551616)(w:World):
 Calls prog 268 #[.int .u64 x,.int .u64 y] w λe c=>e=.returned (.tuple #[.int .u64 ((x*y / 18446744073709551616:Nat):Int),.int .u64 ((x*y % 18446744073709551616:Nat):Int)])/\c=w:=Any.bits_Mul64 Tryz.lays264 x y a b w
def Tryz.lays7_25_ren:Go.Shelf.Ren:=⟨λ|25=>291|n=>n,λ|22=>179|n=>n,λ|n=>n⟩
def Tryz.lays7_25:Go.Proofs.Lays7.n25 prog Tryz.lays7_25_ren:=by repeat'(first|kernel_rfl|decide|intro w|constructor)
def Tryz.bits_Add64(x y c:Nat)(a:c<=1)(w:World):
 (callFunc 291 #[.int .u64 x,.int .u64 y,.int .u64 c]).run prog w =
  .ok (.value (.tuple #[.int .u64 (((x+y+c) % 18446744073709551616:Nat):Int),.int .u64 (((x+y+c) / 18446744073709551616:Nat):Int)])) w:=Any7.bits_Add64 Tryz.lays7_25 x y c a w
def Tryz.lays7_26_ren:Go.Shelf.Ren:=⟨λ|26=>292|n=>n,λ|22=>179|n=>n,λ|n=>n⟩
def Tryz.lays7_26:Go.Proofs.Lays7.n26 prog Tryz.lays7_26_ren:=by repeat'(first|kernel_rfl|decide|intro w|constructor)
def Tryz.bits_Sub64(x y b:Nat)(a:b<=1)(w:World):
 (callFunc 292 #[.int .u64 x,.int .u64 y,.int .u64 b]).run prog w =
  .ok (.value (.tuple #[.int .u64 (((x+18446744073709551616-y-b) % 18446744073709551616:Nat):Int),.int .u64 ((if x<y+b then 1 else 0:Nat):Int)])) w:=Any7.bits_Sub64 Tryz.lays7_26 x y b a w
def Tryz.lays7_29_ren:Go.Shelf.Ren:=⟨λ|29=>192|n=>n,λ|22=>179|3=>3|4=>4|25=>259|54=>297|0=>0|5=>5|n=>n,λ|1=>4|n=>n⟩
def Tryz.lays7_29:Go.Proofs.Lays7.n29 prog Tryz.lays7_29_ren:=by repeat'(first|kernel_rfl|decide|intro w|constructor)
def Tryz.bits_TrailingZeros64(x:Nat)(a:x<18446744073709551616)(w:World)(b:x≠0->TabAt 4 Lib.deBruijn64tab w):
 Calls prog 192 #[.int .u64 x] w λe c=>e=.returned (.int .i64 (Lib.ctz 64 x))/\c=w:=Any7.bits_TrailingZeros64 Tryz.lays7_29 x a w b
end Go.Proofs
