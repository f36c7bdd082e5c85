/- Laws beneath the statement. -/
import Derived.Shelf.Strings.OnBuilder
import Derived.Shelf.Strings.Trim
import Derived.Shelf.Small.Utf8
import Derived.Shelf.Small.Bits
import Derived.Shelf.Small.Wraps
import Derived.Shelf.Strconv.Itoa3
import Derived.Shelf.Strconv.ErrVarAll
import Derived.Shelf.Strconv.ParseInt10All
import Derived.Shelf.Strings.Shaped
import Derived.Shelf.Strings.Runes
import Derived.Shelf.Strings.AsciiSet
import Derived.Shelf.Strings.Repeat
import Derived.Shelf.Unicode.DecodeSlow
import Derived.Shelf.Strings.BuilderCap
import Derived.Shelf.Slices.Turned
import Derived.Test.YtemkmhpfjefbmaaGreatDoorProg
namespace Go.Proofs
set_option linter.defProp false
open Tryz
open Go Go.Shelf Go.RowKit Go.Lib Go.Sort
def Tryz.lays169_ren:Go.Shelf.Ren:=⟨λ|169=>36|n=>n,λ|70=>80|9=>9|0=>0|72=>83|37=>81|127=>141|3=>3|5=>5|n=>n,λ|n=>n⟩
def Tryz.lays169:Go.Proofs.Lays.n169 prog Tryz.lays169_ren:=by repeat'(first|kernel_rfl|decide|intro w|constructor)
def Tryz.Builder_Extra_169:Builder.Extra prog Tryz.lays169_ren:=by repeat'(first|kernel_rfl|decide|intro w|constructor)
def Tryz.Builder_String_any(B b:Nat)(l:List UInt8)(w:World)(h:Lib.IsBuilder 83 5 B b (Lib.byteCells l) w)(a:B<=w.heap.size):
 Calls prog 36 #[.pointer (some ⟨b,0,none⟩)] w λe c=>e=.returned (.string ⟨l.toArray⟩)/\Below B w c:=Any.Builder_String_any Tryz.lays169 Tryz.Builder_Extra_169 B b l w h a
def Tryz.lays156_ren:Go.Shelf.Ren:=⟨λ|156=>68|165=>117|166=>67|169=>36|240=>116|241=>155|276=>154|277=>209|n=>n,λ|31=>91|9=>9|3=>3|4=>4|0=>0|20=>20|72=>83|76=>136|70=>80|37=>81|75=>135|127=>141|164=>207|5=>5|80=>94|n=>n,λ|n=>n⟩
def Tryz.lays156:Go.Proofs.Lays.n156 prog Tryz.lays156_ren:=by repeat'(first|kernel_rfl|decide|intro w|constructor)
def Tryz.Builder_Extra_156:Builder.Extra prog Tryz.lays156_ren:=by repeat'(first|kernel_rfl|decide|intro w|constructor)
theorem Tryz.strings_Join(g o c:Nat)(b:List ByteArray)(sep:ByteArray)(w:World)(a:∀(j:Nat) x,b[j]?=some x->w.cell? ⟨g,o+j,none⟩=some (.string x))(h:g<w.heap.size)(i:b.length<=140737488355328)(d:b.length<=c)(f:(Lib.join (b.map (·.data.toList)) sep.data.toList).length<=140737488355328):
 Calls prog 68 #[.slice (some ⟨g,o,none⟩) b.length c,.string sep] w λe k=>e=.returned (.string ⟨(Lib.join (b.map (·.data.toList)) sep.data.toList).toArray⟩)/\Below w.heap.size w k:=Any.strings_Join Tryz.lays156 Tryz.Builder_Extra_156 g o c b sep w a h i d f
def Tryz.lays160_ren:Go.Shelf.Ren:=⟨λ|160=>133|232=>178|231=>177|227=>179|234=>181|233=>180|236=>183|235=>182|228=>240|271=>242|151=>241|197=>129|120=>278|152=>277|260=>175|137=>295|119=>296|224=>238|225=>237|217=>236|266=>275|n=>n,λ|9=>9|4=>4|3=>3|5=>5|117=>227|116=>226|0=>0|124=>230|21=>21|105=>180|46=>259|119=>276|139=>279|138=>278|n=>n,λ|3=>1|4=>2|n=>n⟩
def Tryz.lays160:Go.Proofs.Lays.n160 prog Tryz.lays160_ren:=by repeat'(first|kernel_rfl|decide|intro w|constructor)
def Tryz.lays103_ren:Go.Shelf.Ren:=⟨λ|103=>282|210=>299|206=>269|n=>n,λ|9=>9|4=>4|24=>311|3=>3|n=>n,λ|n=>n⟩
def Tryz.lays103:Go.Proofs.Lays.n103 prog Tryz.lays103_ren:=by repeat'(first|kernel_rfl|decide|intro w|constructor)
def Tryz.strings_CutPrefix(s p:ByteArray)(w:World):
 Calls prog 282 #[.string s,.string p] w λe a=>e=.returned (.tuple #[.string ⟨(Lib.trimPrefix s.data.toList p.data.toList).toArray⟩,.bool (Lib.hasPrefix s.data.toList p.data.toList)])/\a=w:=Any.strings_CutPrefix Tryz.lays103 s p w
def Tryz.lays172_ren:Go.Shelf.Ren:=⟨λ|172=>134|244=>184|245=>185|247=>243|279=>244|280=>245|281=>246|282=>247|287=>279|316=>280|171=>32|205=>281|321=>297|322=>298|243=>69|246=>118|283=>156|284=>157|285=>158|286=>159|129=>211|317=>210|318=>212|319=>213|320=>214|337=>262|338=>192|n=>n,λ|9=>9|3=>3|75=>135|76=>136|4=>4|5=>5|167=>282|37=>81|0=>0|85=>283|2=>2|168=>285|53=>179|175=>316|46=>259|210=>319|127=>141|145=>330|143=>328|21=>21|171=>209|173=>212|212=>256|51=>257|20=>20|213=>258|232=>324|233=>297|80=>94|n=>n,λ|15=>5|16=>6|17=>0|18=>7|19=>4|n=>n⟩
def Tryz.lays172:Go.Proofs.Lays.n172 prog Tryz.lays172_ren:=by repeat'(first|kernel_rfl|decide|intro w|constructor)
def Tryz.strconv_Atoi(s:ByteArray)(n:Int)(a:s.size<=18)(h:Lib.atoi s.data.toList=some n)(w:World):
 Calls prog 134 #[.string s] w λe b=>e=.returned (.tuple #[.int .i64 n,.nilIface])/\∃t,b=Lib.bytesWorld w 5 t:=Any.strconv_Atoi Tryz.lays172 s n a h w
def Tryz.lays283_ren:Go.Shelf.Ren:=⟨λ|283=>156|n=>n,λ|3=>3|9=>9|4=>4|n=>n,λ|n=>n⟩
def Tryz.lays283:Go.Proofs.Lays.n283 prog Tryz.lays283_ren:=by repeat'(first|kernel_rfl|decide|intro w|constructor)
def Tryz.internal_strconv_small(i:Nat)(h:i<100)(w:World):
 Calls prog 156 #[.int .i64 i] w λe a=>e=.returned (.string ⟨(Lib.decDigits i).toArray⟩)/\a=w:=Any.internal_strconv_small Tryz.lays283 i h w
def Tryz.laysM284_ren:Go.Shelf.Ren:=⟨λ|284=>157|129=>211|317=>210|318=>212|n=>n,λ|53=>179|3=>3|212=>256|0=>0|4=>4|46=>259|5=>5|9=>9|n=>n,λ|17=>0|n=>n⟩
def Tryz.laysM284:Go.Proofs.LaysM.n284 prog Tryz.laysM284_ren:=by repeat'(first|kernel_rfl|decide|intro w|constructor)
def Tryz.internal_strconv_numDigits(u:Nat)(b:1<=u)(c:u<18446744073709551616)(w:World)(a:Lib.TabIs prog w "internal/strconv.uint64pow10" .u64 Lib.pow10Tab):
 Calls prog 157 #[.int .u64 u] w λe d=>e=.returned (.int .i64 (Lib.nDigits u))/\d=w:=Any.internal_strconv_numDigits Tryz.laysM284 u b c w a
def Tryz.lays285_ren:Go.Shelf.Ren:=⟨λ|285=>158|n=>n,λ|37=>81|53=>179|3=>3|4=>4|51=>257|9=>9|5=>5|0=>0|n=>n,λ|n=>n⟩
def Tryz.lays285:Go.Proofs.Lays.n285 prog Tryz.lays285_ren:=by repeat'(first|kernel_rfl|decide|intro w|constructor)
def Tryz.internal_strconv_formatBase10(blk off cap:Nat)(u:Nat)(d:Array UInt8)(w:World)(g:Holds (λ(b:UInt8)=>Value.int .u8 (b.toNat:Int)) w blk off d)(h:u<10^d.size)(a:u<18446744073709551616)(c:d.size<4611686018427387904):
 Calls prog 158 #[.slice (some ⟨blk,off,none⟩) d.size cap,.int .u64 u] w λe i =>
  e=.returned (.tuple #[])/\∃(n j:Nat) (f:Array UInt8),i=(putRow (λ(b:UInt8)=>Value.int .u8 (b.toNat:Int)) w blk off f).drewN n/\FmtInv d.size u 0 j f:=Any.internal_strconv_formatBase10 Tryz.lays285 blk off cap u d w g h a c
def Tryz.laysM171_ren:Go.Shelf.Ren:=⟨λ|171=>32|243=>69|246=>118|283=>156|284=>157|285=>158|286=>159|129=>211|317=>210|318=>212|319=>213|320=>214|337=>262|338=>192|n=>n,λ|3=>3|9=>9|2=>2|4=>4|171=>209|0=>0|53=>179|37=>81|5=>5|173=>212|212=>256|51=>257|20=>20|213=>258|46=>259|232=>324|233=>297|n=>n,λ|17=>0|18=>7|19=>4|n=>n⟩
def Tryz.laysM171:Go.Proofs.LaysM.n171 prog Tryz.laysM171_ren:=by repeat'(first|kernel_rfl|decide|intro w|constructor)
def Tryz.strconv_Itoa(n:Int)(b:-9223372036854775808<=n)(c:n<=9223372036854775807)(w:World)(a:Lib.TabIs prog w "internal/strconv.uint64pow10" .u64 Lib.pow10Tab):
 Calls prog 32 #[.int .i64 n] w λe d=>e=.returned (.string ⟨(Lib.itoa n).toArray⟩)/\∃k f,d=grow (w.drewN k) f:=Any.strconv_Itoa Tryz.laysM171 n b c w a
def Tryz.lays143_ren:Go.Shelf.Ren:=⟨λ|143=>130|219=>176|217=>236|225=>237|224=>238|267=>239|266=>275|314=>276|n=>n,λ|9=>9|3=>3|4=>4|5=>5|46=>259|146=>307|51=>257|n=>n,λ|1=>3|n=>n⟩
def Tryz.lays143:Go.Proofs.Lays.n143 prog Tryz.lays143_ren:=by repeat'(first|kernel_rfl|decide|intro w|constructor)
def Tryz.strings_Index_one(s:ByteArray)(c:UInt8)(w:World):
 Calls prog 130 #[.string s,.string ⟨#[c]⟩] w λe a=>e=.returned (.int .i64 (Lib.indexByte s.data.toList c))/\a=w:=Any.strings_Index_one Tryz.lays143 s c w
def Tryz.lays105_ren:Go.Shelf.Ren:=⟨λ|105=>164|212=>225|99=>226|165=>117|166=>67|170=>227|169=>36|263=>267|264=>268|206=>269|240=>116|241=>155|276=>154|277=>209|n=>n,λ|9=>9|3=>3|4=>4|20=>20|0=>0|46=>259|109=>269|5=>5|72=>83|76=>136|51=>257|146=>307|53=>179|148=>301|70=>80|37=>81|75=>135|127=>141|164=>207|80=>94|n=>n,λ|n=>n⟩
def Tryz.lays105:Go.Proofs.Lays.n105 prog Tryz.lays105_ren:=by repeat'(first|kernel_rfl|decide|intro w|constructor)
def Tryz.Builder_Extra_105:Builder.Extra prog Tryz.lays105_ren:=by repeat'(first|kernel_rfl|decide|intro w|constructor)
def Tryz.strings_Repeat(s:ByteArray)(c:Nat)(w:World)(b:c<=9223372036854775807)(a:s.size*c<=140737488355328):
 Calls prog 164 #[.string s,.int .i64 c] w λe d=>e=.returned (.string ⟨(Lib.repeatL s.data.toList c).toArray⟩)/\Below w.heap.size w d:=Any.strings_Repeat Tryz.lays105 Tryz.Builder_Extra_105 s c w b a
def Tryz.lays109_ren:Go.Shelf.Ren:=⟨λ|109=>132|n=>n,λ|31=>91|9=>9|3=>3|0=>0|4=>4|n=>n,λ|n=>n⟩
def Tryz.lays109:Go.Proofs.Lays.n109 prog Tryz.lays109_ren:=by repeat'(first|kernel_rfl|decide|intro w|constructor)
def Tryz.slices_Index_string(b off n c:Nat)(a:List ByteArray)(x:ByteArray)(w:World)(f:n<=a.length)(d:n<=9223372036854775807)(g:∀j,j<a.length->w.cell? ⟨b,off+j,none⟩=some (.string (a.getD j ByteArray.empty))):
 Calls prog 132 #[.slice (some ⟨b,off,none⟩) n c,.string x] w λe h=>e=.returned (.int .i64 (Lib.idxOfS (a.take n) x))/\h=w:=Any.slices_Index_string Tryz.lays109 b off n c a x w f d g
end Go.Proofs
