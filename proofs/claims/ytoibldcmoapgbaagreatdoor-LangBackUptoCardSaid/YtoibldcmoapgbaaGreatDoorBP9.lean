/- Laws beneath the statement. -/
import Derived.Shelf.Strings.OnBuilder
import Derived.Shelf.Strings.Trim
import Derived.Shelf.Small.Utf8
import Derived.Shelf.Small.Bits
import Derived.Shelf.Small.Wraps
import Derived.Shelf.Strconv.Itoa3
import Derived.Shelf.Strconv.ErrVarAll
import Derived.Shelf.Strconv.ParseInt10All
import Derived.Shelf.Strings.Shaped
import Derived.Shelf.Strings.Runes
import Derived.Shelf.Strings.AsciiSet
import Derived.Shelf.Strings.Repeat
import Derived.Shelf.Unicode.DecodeSlow
import Derived.Shelf.Strings.BuilderCap
import Derived.Shelf.Slices.Turned
import Derived.Test.YtoibldcmoapgbaaGreatDoorProg
namespace Go.Proofs
set_option linter.defProp false
open Tryz
open Go Go.Shelf Go.RowKit Go.Lib Go.Sort
def Tryz.lays169_ren:Go.Shelf.Ren:=⟨λ|169=>36|n=>n,λ|70=>83|9=>9|0=>0|72=>85|37=>82|127=>145|3=>3|5=>5|n=>n,λ|n=>n⟩
def Tryz.lays169:Go.Proofs.Lays.n169 prog Tryz.lays169_ren:=by repeat'(first|kernel_rfl|decide|intro w|constructor)
def Tryz.Builder_Extra_169:Builder.Extra prog Tryz.lays169_ren:=by repeat'(first|kernel_rfl|decide|intro w|constructor)
def Tryz.Builder_String_any(B b:Nat)(l:List UInt8)(w:World)(h:Lib.IsBuilder 85 5 B b (Lib.byteCells l) w)(a:B<=w.heap.size):
 Calls prog 36 #[.pointer (some ⟨b,0,none⟩)] w λe c=>e=.returned (.string ⟨l.toArray⟩)/\Below B w c:=Any.Builder_String_any Tryz.lays169 Tryz.Builder_Extra_169 B b l w h a
def Tryz.lays156_ren:Go.Shelf.Ren:=⟨λ|156=>65|165=>102|166=>64|169=>36|240=>101|241=>133|276=>132|277=>177|n=>n,λ|31=>93|9=>9|3=>3|4=>4|0=>0|20=>20|72=>85|76=>140|70=>83|37=>82|75=>139|127=>145|164=>203|5=>5|80=>96|n=>n,λ|n=>n⟩
def Tryz.lays156:Go.Proofs.Lays.n156 prog Tryz.lays156_ren:=by repeat'(first|kernel_rfl|decide|intro w|constructor)
def Tryz.Builder_Extra_156:Builder.Extra prog Tryz.lays156_ren:=by repeat'(first|kernel_rfl|decide|intro w|constructor)
theorem Tryz.strings_Join(g o c:Nat)(b:List ByteArray)(sep:ByteArray)(w:World)(a:∀(j:Nat) x,b[j]?=some x->w.cell? ⟨g,o+j,none⟩=some (.string x))(h:g<w.heap.size)(i:b.length<=140737488355328)(d:b.length<=c)(f:(Lib.join (b.map (·.data.toList)) sep.data.toList).length<=140737488355328):
 Calls prog 65 #[.slice (some ⟨g,o,none⟩) b.length c,.string sep] w λe k=>e=.returned (.string ⟨(Lib.join (b.map (·.data.toList)) sep.data.toList).toArray⟩)/\Below w.heap.size w k:=Any.strings_Join Tryz.lays156 Tryz.Builder_Extra_156 g o c b sep w a h i d f
def Tryz.lays160_ren:Go.Shelf.Ren:=⟨λ|160=>110|232=>146|231=>145|227=>147|234=>149|233=>148|236=>151|235=>150|228=>200|271=>202|151=>201|197=>106|120=>233|152=>232|260=>143|137=>248|119=>249|224=>198|225=>197|217=>196|266=>230|n=>n,λ|9=>9|4=>4|3=>3|5=>5|117=>220|116=>219|0=>0|124=>223|21=>21|105=>175|46=>255|119=>268|139=>271|138=>270|n=>n,λ|3=>1|4=>2|n=>n⟩
def Tryz.lays160:Go.Proofs.Lays.n160 prog Tryz.lays160_ren:=by repeat'(first|kernel_rfl|decide|intro w|constructor)
def Tryz.lays103_ren:Go.Shelf.Ren:=⟨λ|103=>237|210=>252|206=>229|n=>n,λ|9=>9|4=>4|24=>309|3=>3|n=>n,λ|n=>n⟩
def Tryz.lays103:Go.Proofs.Lays.n103 prog Tryz.lays103_ren:=by repeat'(first|kernel_rfl|decide|intro w|constructor)
def Tryz.strings_CutPrefix(s p:ByteArray)(w:World):
 Calls prog 237 #[.string s,.string p] w λe a=>e=.returned (.tuple #[.string ⟨(Lib.trimPrefix s.data.toList p.data.toList).toArray⟩,.bool (Lib.hasPrefix s.data.toList p.data.toList)])/\a=w:=Any.strings_CutPrefix Tryz.lays103 s p w
def Tryz.lays172_ren:Go.Shelf.Ren:=⟨λ|172=>111|244=>152|245=>153|247=>203|279=>204|280=>205|281=>206|282=>207|287=>234|316=>235|171=>32|205=>236|321=>250|322=>251|243=>66|246=>103|283=>134|284=>135|285=>136|286=>137|129=>179|317=>178|318=>180|319=>181|320=>182|337=>222|338=>160|n=>n,λ|9=>9|3=>3|75=>139|76=>140|4=>4|5=>5|167=>274|37=>82|0=>0|85=>275|2=>2|168=>277|53=>206|175=>304|46=>255|210=>307|127=>145|145=>319|143=>317|21=>21|171=>205|173=>209|212=>252|51=>253|20=>20|213=>254|232=>314|233=>289|80=>96|n=>n,λ|15=>5|16=>6|17=>0|18=>7|19=>4|n=>n⟩
def Tryz.lays172:Go.Proofs.Lays.n172 prog Tryz.lays172_ren:=by repeat'(first|kernel_rfl|decide|intro w|constructor)
def Tryz.strconv_Atoi(s:ByteArray)(n:Int)(a:s.size<=18)(h:Lib.atoi s.data.toList=some n)(w:World):
 Calls prog 111 #[.string s] w λe b=>e=.returned (.tuple #[.int .i64 n,.nilIface])/\∃t,b=Lib.bytesWorld w 5 t:=Any.strconv_Atoi Tryz.lays172 s n a h w
def Tryz.lays283_ren:Go.Shelf.Ren:=⟨λ|283=>134|n=>n,λ|3=>3|9=>9|4=>4|n=>n,λ|n=>n⟩
def Tryz.lays283:Go.Proofs.Lays.n283 prog Tryz.lays283_ren:=by repeat'(first|kernel_rfl|decide|intro w|constructor)
def Tryz.internal_strconv_small(i:Nat)(h:i<100)(w:World):
 Calls prog 134 #[.int .i64 i] w λe a=>e=.returned (.string ⟨(Lib.decDigits i).toArray⟩)/\a=w:=Any.internal_strconv_small Tryz.lays283 i h w
def Tryz.laysM284_ren:Go.Shelf.Ren:=⟨λ|284=>135|129=>179|317=>178|318=>180|n=>n,λ|53=>206|3=>3|212=>252|0=>0|4=>4|46=>255|5=>5|9=>9|n=>n,λ|17=>0|n=>n⟩
def Tryz.laysM284:Go.Proofs.LaysM.n284 prog Tryz.laysM284_ren:=by repeat'(first|kernel_rfl|decide|intro w|constructor)
def Tryz.internal_strconv_numDigits(u:Nat)(b:1<=u)(c:u<18446744073709551616)(w:World)(a:Lib.TabIs prog w "internal/strconv.uint64pow10" .u64 Lib.pow10Tab):
 Calls prog 135 #[.int .u64 u] w λe d=>e=.returned (.int .i64 (Lib.nDigits u))/\d=w:=Any.internal_strconv_numDigits Tryz.laysM284 u b c w a
def Tryz.lays285_ren:Go.Shelf.Ren:=⟨λ|285=>136|n=>n,λ|37=>82|53=>206|3=>3|4=>4|51=>253|9=>9|5=>5|0=>0|n=>n,λ|n=>n⟩
def Tryz.lays285:Go.Proofs.Lays.n285 prog Tryz.lays285_ren:=by repeat'(first|kernel_rfl|decide|intro w|constructor)
def Tryz.internal_strconv_formatBase10(a off cap:Nat)(u:Nat)(d:Array UInt8)(w:World)(h:Holds (λ(b:UInt8)=>Value.int .u8 (b.toNat:Int)) w a off d)(i:u<10^d.size)(c:u<18446744073709551616)(f:d.size<4611686018427387904):
 Calls prog 136 #[.slice (some ⟨a,off,none⟩) d.size cap,.int .u64 u] w λe j =>
  e=.returned (.tuple #[])/\∃(n k:Nat) (g:Array UInt8),j=(putRow (λ(b:UInt8)=>Value.int .u8 (b.toNat:Int)) w a off g).drewN n/\FmtInv d.size u 0 k g:=Any.internal_strconv_formatBase10 Tryz.lays285 a off cap u d w h i c f
def Tryz.laysM171_ren:Go.Shelf.Ren:=⟨λ|171=>32|243=>66|246=>103|283=>134|284=>135|285=>136|286=>137|129=>179|317=>178|318=>180|319=>181|320=>182|337=>222|338=>160|n=>n,λ|3=>3|9=>9|2=>2|4=>4|171=>205|0=>0|53=>206|37=>82|5=>5|173=>209|212=>252|51=>253|20=>20|213=>254|46=>255|232=>314|233=>289|n=>n,λ|17=>0|18=>7|19=>4|n=>n⟩
def Tryz.laysM171:Go.Proofs.LaysM.n171 prog Tryz.laysM171_ren:=by repeat'(first|kernel_rfl|decide|intro w|constructor)
def Tryz.strconv_Itoa(n:Int)(b:-9223372036854775808<=n)(c:n<=9223372036854775807)(w:World)(a:Lib.TabIs prog w "internal/strconv.uint64pow10" .u64 Lib.pow10Tab):
 Calls prog 32 #[.int .i64 n] w λe d=>e=.returned (.string ⟨(Lib.itoa n).toArray⟩)/\∃k f,d=grow (w.drewN k) f:=Any.strconv_Itoa Tryz.laysM171 n b c w a
def Tryz.lays143_ren:Go.Shelf.Ren:=⟨λ|143=>107|219=>144|217=>196|225=>197|224=>198|267=>199|266=>230|314=>231|n=>n,λ|9=>9|3=>3|4=>4|5=>5|46=>255|146=>299|51=>253|n=>n,λ|1=>3|n=>n⟩
def Tryz.lays143:Go.Proofs.Lays.n143 prog Tryz.lays143_ren:=by repeat'(first|kernel_rfl|decide|intro w|constructor)
def Tryz.strings_Index_one(s:ByteArray)(c:UInt8)(w:World):
 Calls prog 107 #[.string s,.string ⟨#[c]⟩] w λe a=>e=.returned (.int .i64 (Lib.indexByte s.data.toList c))/\a=w:=Any.strings_Index_one Tryz.lays143 s c w
def Tryz.lays105_ren:Go.Shelf.Ren:=⟨λ|105=>142|212=>193|99=>194|165=>102|166=>64|170=>195|169=>36|263=>227|264=>228|206=>229|240=>101|241=>133|276=>132|277=>177|n=>n,λ|9=>9|3=>3|4=>4|20=>20|0=>0|46=>255|109=>265|5=>5|72=>85|76=>140|51=>253|146=>299|53=>206|148=>293|70=>83|37=>82|75=>139|127=>145|164=>203|80=>96|n=>n,λ|n=>n⟩
def Tryz.lays105:Go.Proofs.Lays.n105 prog Tryz.lays105_ren:=by repeat'(first|kernel_rfl|decide|intro w|constructor)
def Tryz.Builder_Extra_105:Builder.Extra prog Tryz.lays105_ren:=by repeat'(first|kernel_rfl|decide|intro w|constructor)
def Tryz.strings_Repeat(s:ByteArray)(c:Nat)(w:World)(b:c<=9223372036854775807)(a:s.size*c<=140737488355328):
 Calls prog 142 #[.string s,.int .i64 c] w λe d=>e=.returned (.string ⟨(Lib.repeatL s.data.toList c).toArray⟩)/\Below w.heap.size w d:=Any.strings_Repeat Tryz.lays105 Tryz.Builder_Extra_105 s c w b a
def Tryz.lays109_ren:Go.Shelf.Ren:=⟨λ|109=>109|n=>n,λ|31=>93|9=>9|3=>3|0=>0|4=>4|n=>n,λ|n=>n⟩
def Tryz.lays109:Go.Proofs.Lays.n109 prog Tryz.lays109_ren:=by repeat'(first|kernel_rfl|decide|intro w|constructor)
def Tryz.slices_Index_string(b off n c:Nat)(a:List ByteArray)(x:ByteArray)(w:World)(f:n<=a.length)(d:n<=9223372036854775807)(g:∀j,j<a.length->w.cell? ⟨b,off+j,none⟩=some (.string (a.getD j ByteArray.empty))):
 Calls prog 109 #[.slice (some ⟨b,off,none⟩) n c,.string x] w λe h=>e=.returned (.int .i64 (Lib.idxOfS (a.take n) x))/\h=w:=Any.slices_Index_string Tryz.lays109 b off n c a x w f d g
end Go.Proofs
