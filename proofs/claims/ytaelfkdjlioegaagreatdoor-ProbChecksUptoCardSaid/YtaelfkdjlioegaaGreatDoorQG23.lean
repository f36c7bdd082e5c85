/- The walks and plain laws beneath the statements. -/
import Derived.Test.YtaelfkdjlioegaaGreatDoorProg
import Derived.Test.YtaelfkdjlioegaaGreatDoorQG6
import Derived.Test.YtaelfkdjlioegaaGreatDoorQG17
import Derived.Test.YtaelfkdjlioegaaGreatDoorQG13
namespace Go.Proofs.YtaelfkdjlioegaaGreatDoor
open Tryz
set_option maxRecDepth 100000
open Go
variable{α:Type}
def tt:List (Nat×TI):=[(32,⟨3,[.bool false,.string ⟨#[]⟩,.int .i64 0],.struct [(0,2,some true),(2,1,some false)]⟩),(58,⟨6,[.bool false,.string ⟨#[]⟩,.int .i64 0,.bool false,.string ⟨#[]⟩,.int .i64 0],.struct [(0,3,some true),(3,3,some true)]⟩),(30,⟨2,[.bool false,.string ⟨#[]⟩],.struct [(0,1,some false),(1,1,some false)]⟩),(3,⟨1,[.int .i64 0],.int .i64⟩),(2,⟨1,[.int .i64 0],.int .i64⟩),(4,⟨1,[.bool false],.bool⟩),(9,⟨1,[.string ⟨#[]⟩],.str⟩),(44,⟨1,[.slice none 0 0],.slice 32 3 (some true)⟩),(5,⟨1,[.int .u8 0],.int .u8⟩),(22,⟨1,[.slice none 0 0],.slice 58 6 (some true)⟩),(137,⟨5,[.int .i64 0,.bool false,.string ⟨#[]⟩,.bool false,.string ⟨#[]⟩],.struct [(0,1,some false),(1,2,some true),(3,2,some true)]⟩),(179,⟨2,[.string ⟨#[]⟩,.bool false],.struct [(0,1,some false),(1,1,some false)]⟩),(176,⟨1,[.string ⟨#[]⟩],.str⟩),(119,⟨1,[.int .u64 0],.int .u64⟩),(168,⟨1,[.slice none 0 0],.slice 9 1 (some false)⟩),(21,⟨1,[.int .i32 0],.int .i32⟩),(104,⟨1,[.slice none 0 0],.slice 5 1 (some false)⟩),(39,⟨1,[.int .i64 0],.int .i64⟩),(169,⟨1,[.tuple { toList:=[.string ⟨#[]⟩,.bool false] }],.other⟩),(183,⟨1,[.slice none 0 0],.slice 30 2 (some true)⟩),(132,⟨1,[.slice none 0 0],.slice 44 1 (some false)⟩),(158,⟨1,[.slice none 0 0],.slice 183 1 (some false)⟩),(146,⟨1,[.tuple { toList:=[.string ⟨#[]⟩,.string ⟨#[]⟩,.bool false] }],.other⟩),(35,⟨14,[.int .i64 0,.int .i64 0,.slice none 0 0,.slice none 0 0,.slice none 0 0,.slice none 0 0,.bool false,.string ⟨#[]⟩,.int .i64 0,.bool false,.string ⟨#[]⟩,.int .i64 0,.int .i64 0,.slice none 0 0],.struct [(0,1,some false),(1,1,some false),(2,2,some true),(4,1,some false),(5,1,some false),(6,3,some true),(9,3,some true),(12,1,some false),(13,1,some false)]⟩),(27,⟨2,[.slice none 0 0,.slice none 0 0],.struct [(0,1,some false),(1,1,some false)]⟩),(48,⟨2,[.int .i64 0,.slice none 0 0],.struct [(0,1,some false),(1,1,some false)]⟩),(54,⟨4,[.string ⟨#[]⟩,.bool false,.string ⟨#[]⟩,.int .i64 0],.struct [(0,1,some false),(1,3,some true)]⟩),(50,⟨6,[.int .i64 0,.bool false,.string ⟨#[]⟩,.int .i64 0,.int .i64 0,.slice none 0 0],.struct [(0,1,some false),(1,3,some true),(4,2,some true)]⟩),(23,⟨1,[.slice none 0 0],.slice 58 6 (some true)⟩),(25,⟨1,[.slice none 0 0],.slice 45 1 (some false)⟩),(45,⟨1,[.slice none 0 0],.slice 32 3 (some true)⟩),(28,⟨1,[.slice none 0 0],.slice 48 2 (some true)⟩),(33,⟨1,[.slice none 0 0],.slice 50 6 (some true)⟩),(46,⟨1,[.slice none 0 0],.slice 54 4 (some true)⟩),(65,⟨3,[.bool false,.bool false,.bool false],.struct [(0,1,some false),(1,1,some false),(2,1,some false)]⟩),(67,⟨5,[.bool false,.bool false,.bool false,.int .i64 0,.bool false],.struct [(0,3,some true),(3,1,some false),(4,1,some false)]⟩),(68,⟨35,[.bool false,.bool false,.bool false,.int .i64 0,.bool false,.bool false,.bool false,.bool false,.int .i64 0,.bool false,.bool false,.bool false,.bool false,.int .i64 0,.bool false,.bool false,.bool false,.bool false,.int .i64 0,.bool false,.bool false,.bool false,.bool false,.int .i64 0,.bool false,.bool false,.bool false,.bool false,.int .i64 0,.bool false,.bool false,.bool false,.bool false,.int .i64 0,.bool false],.array 7 67 5 (some true)⟩),(171,⟨1,[.slice none 0 0],.slice 3 1 (some false)⟩),(155,⟨1,[.slice none 0 0],.slice 28 1 (some false)⟩),(77,⟨2,[.slice none 0 0,.slice none 0 0],.array 2 28 1 (some false)⟩),(135,⟨1,[.int .i64 0],.int .i64⟩)]
theorem Qk:YF prog tt:=jz (by kernel_rfl)
theorem mixed:prog.follows .mixedOrders=true:=by kernel_rfl
open Go.RowKit
def vN(x:Dyadic): Value:=.agg #[.bool (neg (dm x)),.string (Qh (dm x)),.int .i64 (de x)]
def rN(b:Bool)(s:ByteArray)(e:Int): Value:=.agg #[.bool b,.string s,.int .i64 e]
abbrev Yk(w:World): Prop:=TabAt 0 Lib.deBruijn64tab w
theorem rt{w0:World}{f:FuncId}{args:Array Value}{R:Value}(hT:Yk w0)(he:Yf prog f)(h:∀W,Yk W→Calls prog f args W fun e w'=>e=.returned R∧Below W.heap.size W w'): RetAt prog w0 f args R:=⟨he,fun W hb=>h W (Qn hT hb)⟩
theorem rb{w0:World}{f:FuncId}{g:Nat}{t:TypeId}{cs args:Array Value}{R:Value}(hT:Yk w0)(hP:Bx w0 g t cs)(he:Yf prog f)(h:∀W,Yk W→Bx W g t cs→Calls prog f args W fun e w'=>e=.returned R∧Below W.heap.size W w'): RetAt prog w0 f args R:=⟨he,fun W hb=>h W (Qn hT hb) (hP.later hb)⟩
theorem RI(W:World)(x y:Operand)(a b:Bool)(s t:ByteArray)(e f:Int): Qt prog W (do eqGuard .eql 32 x y (rN a s e) (rN b t f);binOp .eql 32 (rN a s e) (rN b t f)) (.bool ((a==b&&s.toList==t.toList)&&e==f)):=fun W' _=>by
 unfold rN
 simp[go_sem]
 by_cases h1:a=b<;>by_cases h2:s.toList=t.toList<;>by_cases h3:e=f<;>simp[h1,h2,h3]
theorem Z7(W:World)(x y:Operand)(a b:Bool)(s t:ByteArray)(e f:Int): Qt prog W (do eqGuard .neq 32 x y (rN a s e) (rN b t f);binOp .neq 32 (rN a s e) (rN b t f)) (.bool (!((a==b&&s.toList==t.toList)&&e==f))):=fun W' _=>by
 unfold rN
 simp[go_sem]
 by_cases h1:a=b<;>by_cases h2:s.toList=t.toList<;>by_cases h3:e=f<;>simp[h1,h2,h3]
theorem Oc(W:World)(x y:Operand)(a:Bool)(s:ByteArray)(e:Int)(h:¬ s.toList=[]): Qt prog W (do eqGuard .eql 32 x y (rN a s e) (rN false ⟨#[]⟩ 0);binOp .eql 32 (rN a s e) (rN false ⟨#[]⟩ 0)) (.bool false):=by
 have c:=RI W x y a false s ⟨#[]⟩ e 0
 have k:(s.toList==(⟨#[]⟩:ByteArray).toList)=false:=R6.2 (by rw[show(⟨#[]⟩:ByteArray).toList=[]from by simp[Tu]];exact h)
 rwa [k,U3,Bool.false_and]at c
theorem MI(W:World)(x y:Operand)(a:Bool)(s:ByteArray)(e:Int): Qt prog W (do eqGuard .eql 32 x y (rN a s e) (rN a s e);binOp .eql 32 (rN a s e) (rN a s e)) (.bool true):=fun W' _=>by
 unfold rN
 simp[go_sem]
theorem Dt(W:World)(x y:Operand)(a b:Bool): Qt prog W (do eqGuard .eql 4 x y (.bool a) (.bool b);binOp .eql 4 (.bool a) (.bool b)) (.bool (a==b)):=fun W' _=>by
 simp[go_sem]
def bt(s:ByteArray)(i:Nat): Nat:=(s.data.toList.getD i 0).toNat
theorem kg{P:Program}{t:TypeId}(s:ByteArray)(hu:P.underlying t=some .string)(i:Nat)(h:i<s.size)(W:World): (Instr.index t (.string s) (.int .i64 (i:Int))).run P W=.ok (.int .u8 (bt s i:Nat)) W:=by
 rw[Jg s hu .i64 (i:Int) i rfl h]
 congr 2
 unfold bt
 simp[List.getD,h,← ByteArray.getElem_eq_getElem_data]
def kF(a b:ByteArray): Bool:=Op.bytesLess a.toList b.toList
theorem O1(W:World)(x y:Operand)(a b:ByteArray): Qt prog W (do eqGuard .geq 9 x y (.string a) (.string b);binOp .geq 9 (.string a) (.string b)) (.bool (!kF a b)):=fun W' _=>by
 simp[go_sem,kF]
theorem CO(W:World)(s:ByteArray)(i:Nat)(h:i<s.size): Qt prog W (Instr.index 9 (.string s) (.int .i64 (i:Int))) (.int .u8 (bt s i:Nat)):=fun W' _=>kg s Tryz.underlying9 i h W'
theorem Qq{n:Nat}(h:n≤4611686018427387904): IntKind.i64.wrap ((n:Int)+1)=((n+1:Nat):Int):=by rw[Ln _ (by omega)];omega
theorem aO{n:Nat}(h:n≤4611686018427387904)(h0:0<n): IntKind.i64.wrap ((n:Int)-1)=((n-1:Nat):Int):=by rw[Ln _ (by omega)];omega
section
variable {P:Program} {w0:World} {t bt':TypeId} {ti:TI} {g o:Nat} {cs:List Value}
theorem Vi{fs:List (Nat×Nat×Option Bool)}{j off sz:Nat}{ag:Option Bool}(hi:XT P t=some ti)(hk:ti.k=.struct fs)(h:Ks fs j=some (off,sz,ag))(hz:sz≠0):
 Qt P w0 (Instr.fieldAt t (.pointer (some ⟨g,o,none⟩)) j) (.pointer (some ⟨g,o+off,none⟩)):=fun W _=>Dv hi hk h hz
theorem CS{v:Value}(hi:XT P t=some ti)(ha:ti.k.agg=false)(hb:Bx w0 g bt' cs.toArray)(hv:cs[o]?=some v):
 Qt P w0 (Instr.loadAt t (.pointer (some ⟨g,o,none⟩))) v:=fun W hW=>A9 hi ha (hb.later hW) hv
theorem jX(hi:XT P t=some ti)(ha:ti.k.agg=true)(hb:Bx w0 g bt' cs.toArray)(hn:o+ti.size≤cs.length):
 Qt P w0 (Instr.loadAt t (.pointer (some ⟨g,o,none⟩))) (.agg ((cs.drop o).take ti.size).toArray):=fun W hW=>Ch hi ha (hb.later hW) hn
end
theorem CT(W:World)(x y:Operand)(a b:Bool): Qt prog W (do eqGuard .neq 4 x y (.bool a) (.bool b);binOp .neq 4 (.bool a) (.bool b)) (.bool (a != b)):=fun W' _=>by
 simp[go_sem]
 cases a<;>cases b<;>rfl
theorem lZ{w0:World}{f:FuncId}{t:TypeId}{cs:Array Value}{args:Nat→Array Value}{R:Value}(he:Yf prog f)(h:∀W,Below w0.heap.size w0 W→∀g,Bx W g t cs→RetAt prog W f (args g) R): Yf prog f∧∀W,Below w0.heap.size w0 W→∀g,Bx W g t cs→Calls prog f (args g) W fun e w'=>e=.returned R∧Below W.heap.size W w':=⟨he,fun W hb g hx=>(h W hb g hx).at⟩
def Q3(n:Nat)(f:Nat→Bool): Bool:=(List.range n).any f
theorem Yp{n:Nat}{f:Nat→Bool}(h:∀j,j<n→f j=false): Q3 n f=false:=by
 unfold Q3
 rw[List.any_eq_false]
 intro j hj
 rw[h j (Lm.1 hj)]
 decide
theorem QA{n k:Nat}{f:Nat→Bool}(hk:k<n)(h:f k=true): Q3 n f=true:=U7.2 ⟨k,Lm.2 hk,h⟩
theorem anyB_iff{n:Nat}{f:Nat→Bool}: Q3 n f=true↔∃j,j<n∧f j=true:=by
 unfold Q3
 rw[U7]
 exact⟨fun⟨j,h1,h2⟩=>⟨j,Lm.1 h1,h2⟩,fun⟨j,h1,h2⟩=>⟨j,Lm.2 h1,h2⟩⟩
theorem Bp{f:Nat→Bool}{k:Nat}(h:∀j,j<k→f j=false)(hk:f k=false): ∀j,j<k+1→f j=false:=fun j hj=>by
 by_cases e:j=k
 ·subst e;exact hk
 ·exact h j (by omega)
section
variable {w0:World} {A:Option Addr} {n c k:Nat} {f:Nat→List Value} {g:Nat} {T:TypeId} {cs:List Value}
theorem JQ(hr:RdK w0 A n k f){i:Nat}(h:i<n): Qt prog w0 (Instr.indexAt 23 (.slice A n c) (.int .i64 (i:Int))) (.pointer (some (QJ A (i*6+0)))):=Ka (sz:=6) (Qk 23 _ rfl) rfl (by decide) hr h
theorem Q2(hr:RdK w0 A n k f){i:Nat}(h:i<n): Qt prog w0 (Instr.indexAt 25 (.slice A n c) (.int .i64 (i:Int))) (.pointer (some (QJ A (i*1+0)))):=Ka (sz:=1) (Qk 25 _ rfl) rfl (by decide) hr h
theorem JI(hr:RdK w0 A n k f){i:Nat}(h:i<n): Qt prog w0 (Instr.indexAt 45 (.slice A n c) (.int .i64 (i:Int))) (.pointer (some (QJ A (i*3+0)))):=Ka (sz:=3) (Qk 45 _ rfl) rfl (by decide) hr h
theorem KC(hr:RdK w0 A n k f){i:Nat}(h:i<n): Qt prog w0 (Instr.indexAt 44 (.slice A n c) (.int .i64 (i:Int))) (.pointer (some (QJ A (i*3+0)))):=Ka (sz:=3) (Qk 44 _ rfl) rfl (by decide) hr h
theorem XU(hr:RdK w0 A n k f){i:Nat}(h:i<n): Qt prog w0 (Instr.indexAt 28 (.slice A n c) (.int .i64 (i:Int))) (.pointer (some (QJ A (i*2+0)))):=Ka (sz:=2) (Qk 28 _ rfl) rfl (by decide) hr h
theorem Xb(hr:RdK w0 A n k f){i:Nat}(h:i<n): Qt prog w0 (Instr.indexAt 33 (.slice A n c) (.int .i64 (i:Int))) (.pointer (some (QJ A (i*6+0)))):=Ka (sz:=6) (Qk 33 _ rfl) rfl (by decide) hr h
theorem Yq(hr:RdK w0 A n k f){i:Nat}(h:i<n): Qt prog w0 (Instr.indexAt 46 (.slice A n c) (.int .i64 (i:Int))) (.pointer (some (QJ A (i*4+0)))):=Ka (sz:=4) (Qk 46 _ rfl) rfl (by decide) hr h
theorem Em(hr:RdK w0 A n k f){i:Nat}(h:i<n): Qt prog w0 (Instr.indexAt 132 (.slice A n c) (.int .i64 (i:Int))) (.pointer (some (QJ A (i*1+0)))):=Ka (sz:=1) (Qk 132 _ rfl) rfl (by decide) hr h
theorem ie(hr:RdK w0 A n k f){i:Nat}(h:i<n): Qt prog w0 (Instr.indexAt 171 (.slice A n c) (.int .i64 (i:Int))) (.pointer (some (QJ A (i*1+0)))):=Ka (sz:=1) (Qk 171 _ rfl) rfl (by decide) hr h
theorem EW(hr:RdK w0 A n k f){i:Nat}(h:i<n): Qt prog w0 (Instr.indexAt 104 (.slice A n c) (.int .i64 (i:Int))) (.pointer (some (QJ A (i*1+0)))):=Ka (sz:=1) (Qk 104 _ rfl) rfl (by decide) hr h
theorem BD(hr:RdK w0 A n k f){i:Nat}(h:i<n): Qt prog w0 (Instr.indexAt 155 (.slice A n c) (.int .i64 (i:Int))) (.pointer (some (QJ A (i*1+0)))):=Ka (sz:=1) (Qk 155 _ rfl) rfl (by decide) hr h
theorem WV{i o:Nat}: Qt prog w0 (Instr.fieldAt 32 (.pointer (some (QJ A (i*k+o)))) 0) (.pointer (some (QJ A (i*k+(o+0))))):=Zx (sz:=2) (Qk 32 _ rfl) rfl rfl (by decide)
theorem ME{i o:Nat}: Qt prog w0 (Instr.fieldAt 32 (.pointer (some (QJ A (i*k+o)))) 1) (.pointer (some (QJ A (i*k+(o+2))))):=Zx (sz:=1) (Qk 32 _ rfl) rfl rfl (by decide)
theorem eg{i o:Nat}: Qt prog w0 (Instr.fieldAt 30 (.pointer (some (QJ A (i*k+o)))) 1) (.pointer (some (QJ A (i*k+(o+1))))):=Zx (sz:=1) (Qk 30 _ rfl) rfl rfl (by decide)
theorem GC{i o:Nat}: Qt prog w0 (Instr.fieldAt 58 (.pointer (some (QJ A (i*k+o)))) 0) (.pointer (some (QJ A (i*k+(o+0))))):=Zx (sz:=3) (Qk 58 _ rfl) rfl rfl (by decide)
theorem Fh{i o:Nat}: Qt prog w0 (Instr.fieldAt 58 (.pointer (some (QJ A (i*k+o)))) 1) (.pointer (some (QJ A (i*k+(o+3))))):=Zx (sz:=3) (Qk 58 _ rfl) rfl rfl (by decide)
theorem FG{i o:Nat}: Qt prog w0 (Instr.fieldAt 54 (.pointer (some (QJ A (i*k+o)))) 0) (.pointer (some (QJ A (i*k+(o+0))))):=Zx (sz:=1) (Qk 54 _ rfl) rfl rfl (by decide)
theorem E7{i o:Nat}: Qt prog w0 (Instr.fieldAt 54 (.pointer (some (QJ A (i*k+o)))) 1) (.pointer (some (QJ A (i*k+(o+1))))):=Zx (sz:=3) (Qk 54 _ rfl) rfl rfl (by decide)
theorem SF{i o:Nat}: Qt prog w0 (Instr.fieldAt 48 (.pointer (some (QJ A (i*k+o)))) 0) (.pointer (some (QJ A (i*k+(o+0))))):=Zx (sz:=1) (Qk 48 _ rfl) rfl rfl (by decide)
theorem J2{i o:Nat}: Qt prog w0 (Instr.fieldAt 48 (.pointer (some (QJ A (i*k+o)))) 1) (.pointer (some (QJ A (i*k+(o+1))))):=Zx (sz:=1) (Qk 48 _ rfl) rfl rfl (by decide)
theorem J6{i o:Nat}: Qt prog w0 (Instr.fieldAt 50 (.pointer (some (QJ A (i*k+o)))) 0) (.pointer (some (QJ A (i*k+(o+0))))):=Zx (sz:=1) (Qk 50 _ rfl) rfl rfl (by decide)
theorem Gw{i o:Nat}: Qt prog w0 (Instr.fieldAt 50 (.pointer (some (QJ A (i*k+o)))) 1) (.pointer (some (QJ A (i*k+(o+1))))):=Zx (sz:=3) (Qk 50 _ rfl) rfl rfl (by decide)
theorem KV{i o:Nat}: Qt prog w0 (Instr.fieldAt 50 (.pointer (some (QJ A (i*k+o)))) 2) (.pointer (some (QJ A (i*k+(o+4))))):=Zx (sz:=2) (Qk 50 _ rfl) rfl rfl (by decide)
theorem MG{o:Nat}: Qt prog w0 (Instr.fieldAt 27 (.pointer (some ⟨g,o,none⟩)) 0) (.pointer (some ⟨g,o+0,none⟩)):=Vi (sz:=1) (Qk 27 _ rfl) rfl rfl (by decide)
theorem IX{o:Nat}: Qt prog w0 (Instr.fieldAt 27 (.pointer (some ⟨g,o,none⟩)) 1) (.pointer (some ⟨g,o+1,none⟩)):=Vi (sz:=1) (Qk 27 _ rfl) rfl rfl (by decide)
theorem Ie{o:Nat}: Qt prog w0 (Instr.fieldAt 35 (.pointer (some ⟨g,o,none⟩)) 1) (.pointer (some ⟨g,o+1,none⟩)):=Vi (sz:=1) (Qk 35 _ rfl) rfl rfl (by decide)
theorem DF{o:Nat}: Qt prog w0 (Instr.fieldAt 35 (.pointer (some ⟨g,o,none⟩)) 2) (.pointer (some ⟨g,o+2,none⟩)):=Vi (sz:=2) (Qk 35 _ rfl) rfl rfl (by decide)
theorem ID{o:Nat}: Qt prog w0 (Instr.fieldAt 35 (.pointer (some ⟨g,o,none⟩)) 3) (.pointer (some ⟨g,o+4,none⟩)):=Vi (sz:=1) (Qk 35 _ rfl) rfl rfl (by decide)
theorem IN{o:Nat}: Qt prog w0 (Instr.fieldAt 35 (.pointer (some ⟨g,o,none⟩)) 4) (.pointer (some ⟨g,o+5,none⟩)):=Vi (sz:=1) (Qk 35 _ rfl) rfl rfl (by decide)
theorem Hs{o:Nat}: Qt prog w0 (Instr.fieldAt 35 (.pointer (some ⟨g,o,none⟩)) 5) (.pointer (some ⟨g,o+6,none⟩)):=Vi (sz:=3) (Qk 35 _ rfl) rfl rfl (by decide)
theorem IK{o:Nat}: Qt prog w0 (Instr.fieldAt 35 (.pointer (some ⟨g,o,none⟩)) 6) (.pointer (some ⟨g,o+9,none⟩)):=Vi (sz:=3) (Qk 35 _ rfl) rfl rfl (by decide)
theorem DL{o:Nat}: Qt prog w0 (Instr.fieldAt 35 (.pointer (some ⟨g,o,none⟩)) 8) (.pointer (some ⟨g,o+13,none⟩)):=Vi (sz:=1) (Qk 35 _ rfl) rfl rfl (by decide)
theorem Yb(hr:RdK w0 A n k f){i o:Nat}(hin:i<n)(ho:o+3≤k){l:List Value}(hl:l.length=3)(hv:((f i).drop o).take 3=l): Qt prog w0 (Instr.loadAt 32 (.pointer (some (QJ A (i*k+o))))) (.agg l.toArray):=C3 (Qk 32 _ rfl) rfl hr hin hl ho hv
theorem WZ{o:Nat}(hb:Bx w0 g T cs.toArray)(hn:o+3≤cs.length): Qt prog w0 (Instr.loadAt 32 (.pointer (some ⟨g,o,none⟩))) (.agg ((cs.drop o).take 3).toArray):=jX (Qk 32 _ rfl) rfl hb hn
theorem Gy(hr:RdK w0 A n k f){i o:Nat}(hin:i<n)(ho:o+6≤k){l:List Value}(hl:l.length=6)(hv:((f i).drop o).take 6=l): Qt prog w0 (Instr.loadAt 58 (.pointer (some (QJ A (i*k+o))))) (.agg l.toArray):=C3 (Qk 58 _ rfl) rfl hr hin hl ho hv
theorem Jy(hr:RdK w0 A n k f){i o:Nat}(hin:i<n)(ho:o+4≤k){l:List Value}(hl:l.length=4)(hv:((f i).drop o).take 4=l): Qt prog w0 (Instr.loadAt 54 (.pointer (some (QJ A (i*k+o))))) (.agg l.toArray):=C3 (Qk 54 _ rfl) rfl hr hin hl ho hv
theorem YY(hr:RdK w0 A n k f){i o:Nat}(hin:i<n)(ho:o+2≤k){l:List Value}(hl:l.length=2)(hv:((f i).drop o).take 2=l): Qt prog w0 (Instr.loadAt 48 (.pointer (some (QJ A (i*k+o))))) (.agg l.toArray):=C3 (Qk 48 _ rfl) rfl hr hin hl ho hv
theorem KA(hr:RdK w0 A n k f){i o:Nat}(hin:i<n)(ho:o+6≤k){l:List Value}(hl:l.length=6)(hv:((f i).drop o).take 6=l): Qt prog w0 (Instr.loadAt 50 (.pointer (some (QJ A (i*k+o))))) (.agg l.toArray):=C3 (Qk 50 _ rfl) rfl hr hin hl ho hv
theorem lI{o:Nat}(hb:Bx w0 g T cs.toArray){v:Value}(hv:cs[o]?=some v): Qt prog w0 (Instr.loadAt 23 (.pointer (some ⟨g,o,none⟩))) v:=CS (Qk 23 _ rfl) rfl hb hv
theorem N9{o:Nat}(hb:Bx w0 g T cs.toArray){v:Value}(hv:cs[o]?=some v): Qt prog w0 (Instr.loadAt 25 (.pointer (some ⟨g,o,none⟩))) v:=CS (Qk 25 _ rfl) rfl hb hv
theorem Xp(hr:RdK w0 A n k f){i o:Nat}(hin:i<n)(ho:o<k){v:Value}(hv:(f i)[o]?=some v): Qt prog w0 (Instr.loadAt 45 (.pointer (some (QJ A (i*k+o))))) v:=Db (Qk 45 _ rfl) rfl hr hin ho hv
theorem Ia(hr:RdK w0 A n k f){i o:Nat}(hin:i<n)(ho:o<k){v:Value}(hv:(f i)[o]?=some v): Qt prog w0 (Instr.loadAt 44 (.pointer (some (QJ A (i*k+o))))) v:=Db (Qk 44 _ rfl) rfl hr hin ho hv
theorem Co(hr:RdK w0 A n k f){i o:Nat}(hin:i<n)(ho:o<k){v:Value}(hv:(f i)[o]?=some v): Qt prog w0 (Instr.loadAt 28 (.pointer (some (QJ A (i*k+o))))) v:=Db (Qk 28 _ rfl) rfl hr hin ho hv
theorem MC{o:Nat}(hb:Bx w0 g T cs.toArray){v:Value}(hv:cs[o]?=some v): Qt prog w0 (Instr.loadAt 28 (.pointer (some ⟨g,o,none⟩))) v:=CS (Qk 28 _ rfl) rfl hb hv
theorem Nr{o:Nat}(hb:Bx w0 g T cs.toArray){v:Value}(hv:cs[o]?=some v): Qt prog w0 (Instr.loadAt 33 (.pointer (some ⟨g,o,none⟩))) v:=CS (Qk 33 _ rfl) rfl hb hv
theorem K1(hr:RdK w0 A n k f){i o:Nat}(hin:i<n)(ho:o<k){v:Value}(hv:(f i)[o]?=some v): Qt prog w0 (Instr.loadAt 46 (.pointer (some (QJ A (i*k+o))))) v:=Db (Qk 46 _ rfl) rfl hr hin ho hv
theorem KH(hr:RdK w0 A n k f){i o:Nat}(hin:i<n)(ho:o<k){v:Value}(hv:(f i)[o]?=some v): Qt prog w0 (Instr.loadAt 3 (.pointer (some (QJ A (i*k+o))))) v:=Db (Qk 3 _ rfl) rfl hr hin ho hv
theorem By{o:Nat}(hb:Bx w0 g T cs.toArray){v:Value}(hv:cs[o]?=some v): Qt prog w0 (Instr.loadAt 3 (.pointer (some ⟨g,o,none⟩))) v:=CS (Qk 3 _ rfl) rfl hb hv
theorem BX(hr:RdK w0 A n k f){i o:Nat}(hin:i<n)(ho:o<k){v:Value}(hv:(f i)[o]?=some v): Qt prog w0 (Instr.loadAt 9 (.pointer (some (QJ A (i*k+o))))) v:=Db (Qk 9 _ rfl) rfl hr hin ho hv
theorem ew(hr:RdK w0 A n k f){i o:Nat}(hin:i<n)(ho:o<k){v:Value}(hv:(f i)[o]?=some v): Qt prog w0 (Instr.loadAt 5 (.pointer (some (QJ A (i*k+o))))) v:=Db (Qk 5 _ rfl) rfl hr hin ho hv
end
def nv(x:Nm): Dyadic:=dy (Qb x.b (Qa x.s)) x.e
def sg(x:Nm): Int:=Zs (nv x)
def XK(x:Nm): Bool:=(neg (dm (nv x))==x.b&&(Qh (dm (nv x))).toList==x.s.toList)&&de (nv x)==x.e
structure okN (x:Nm):Prop where
 sz:x.s.size≤20
 lo:-200≤x.e
 hi:x.e≤200
def GS:Tm:=⟨⟨#[]⟩,nm0⟩
def jk:Py:=⟨0,[]⟩
def lk:Nd:=⟨0,nm0,jk⟩
def Qf(l:List Tm)(k:Nat): Tm:=l.getD k GS
def QL(l:List Nm)(k:Nat): Nm:=l.getD k nm0
def Qw(l:List (Nm×Nm))(k:Nat): Nm×Nm:=l.getD k (nm0,nm0)
def Qe(l:List (List Nm))(k:Nat): List Nm:=l.getD k []
def QC(l:List Py)(k:Nat): Py:=l.getD k jk
def Qc(l:List Nd)(k:Nat): Nd:=l.getD k lk
def Dg(m:ByteArray)(vars:Int): Bool:=bif Q3 m.size (fun j=>decide ((bt m j:Int)>127))then false else((m.size:Int)==vars)
def KI(vars:Int)(l:List Tm)(k:Nat): Bool:=((!Dg (Qf l k).m vars||sg (Qf l k).c==0)||!XK (Qf l k).c)||(decide ((k:Int)>0)&&!kF (Qf l (k-1)).m (Qf l k).m)
def YV(p:Py): Int:=if 0≤p.vars∧p.vars≤12 then(if 4096<p.ts.length then 3 else if Q3 p.ts.length (KI p.vars p.ts)then 1 else 0)else 1
abbrev IV(l:List Nd)(U:Nat→Option Addr)(u:Nat→Nat)(j:Nat): List Value:=[.int .i64 (Qc l j).split,.bool (Qc l j).scale.b,.string (Qc l j).scale.s,.int .i64 (Qc l j).scale.e,.int .i64 (Qc l j).sum.vars,.slice (U j) (Qc l j).sum.ts.length (u j)]
abbrev eY(l:List Nd)(U:Nat→Option Addr)(n u:Nat→Nat)(j:Nat): List Value:=[.int .i64 (Qc l j).split,.bool (Qc l j).scale.b,.string (Qc l j).scale.s,.int .i64 (Qc l j).scale.e,.int .i64 (Qc l j).sum.vars,.slice (U j) (n j) (u j)]
abbrev iu(l:List Nd)(v:Nat→Value)(j:Nat): List Value:=[.int .i64 (Qc l j).split,.bool (Qc l j).scale.b,.string (Qc l j).scale.s,.int .i64 (Qc l j).scale.e,.int .i64 (Qc l j).sum.vars,v j]
abbrev l5(l:List Py)(U:Nat→Option Addr)(u:Nat→Nat)(j:Nat): List Value:=[.int .i64 (QC l j).vars,.slice (U j) (QC l j).ts.length (u j)]
abbrev eV(l:List Py)(v:Nat→Value)(j:Nat): List Value:=[.int .i64 (QC l j).vars,v j]
abbrev eF(l:List (List Nm))(U:Nat→Option Addr)(u:Nat→Nat)(j:Nat): List Value:=[.slice (U j) (Qe l j).length (u j)]
theorem Y7{l:List Tm}{k:Nat}(h:k<l.length): Qf l k∈l:=by
 unfold Qf
 rw[List.getD,List.getElem?_eq_getElem h]
 exact Sa h
theorem Zc{l:List Nm}{k:Nat}(h:k<l.length): QL l k∈l:=by
 unfold QL
 rw[List.getD,List.getElem?_eq_getElem h]
 exact Sa h
theorem Vc{l:List (Nm×Nm)}{k:Nat}(h:k<l.length): Qw l k∈l:=by
 unfold Qw
 rw[List.getD,List.getElem?_eq_getElem h]
 exact Sa h
theorem VT{l:List Py}{k:Nat}(h:k<l.length): QC l k∈l:=by
 unfold QC
 rw[List.getD,List.getElem?_eq_getElem h]
 exact Sa h
theorem JC{l:List Nd}{k:Nat}(h:k<l.length): Qc l k∈l:=by
 unfold Qc
 rw[List.getD,List.getElem?_eq_getElem h]
 exact Sa h
theorem Yr{l:List (List Nm)}{k:Nat}(h:k<l.length): Qe l k∈l:=by
 unfold Qe
 rw[List.getD,List.getElem?_eq_getElem h]
 exact Sa h
theorem SlV.rd{lo k:Nat}{p:Rdg α}{w:World}{l:List α}{v:Value}(h:SlV lo k p w l v):
  ∃A c f,v=.slice A l.length c∧l.length≤c∧(A=none→l.length=0∧c=0)∧RdK w A l.length k f∧∀i (hi:i<l.length),(f i).length=k∧p w l[i] (f i):=by
 obtain⟨A,c,h1,h2,h3,h4⟩:=h
 by_cases h0:0<l.length
 ·obtain⟨b,off,e,_,hc⟩:=h4 h0
  have key:∀i,∃cs:List Value,∀(hi:i<l.length),cs.length=k∧p w l[i] cs∧∀j,j<k→w.cell? ⟨b,off+i*k+j,none⟩=cs[j]?:=fun i=>by
   by_cases hi:i<l.length
   ·obtain⟨cs,a1,a2,a3⟩:=hc i hi
    exact⟨cs,fun _=>⟨a1,a2,a3⟩⟩
   ·exact⟨[],fun h=>absurd h hi⟩
  refine⟨A,c,fun i=>Classical.choose (key i),h1,h2,h3,fun _=>⟨b,off,e,fun j hj i hi=>(Lj (key j) hj).2.2 i hi⟩,fun i hi=>⟨(Lj (key i) hi).1,(Lj (key i) hi).2.1⟩⟩
 ·exact⟨A,c,fun _=>[],h1,h2,h3,fun h=>absurd h h0,fun i hi=>absurd hi (by omega)⟩
theorem RdK.congr{w:World}{A:Option Addr}{n k:Nat}{f g:Nat→List Value}(h:RdK w A n k f)(hf:∀j,j<n→f j=g j): RdK w A n k g:=fun h0=>by
 obtain⟨b,off,e,hc⟩:=h h0
 exact⟨b,off,e,fun j hj i hi=>by rw[← hf j hj];exact hc j hj i hi⟩
theorem Xg{l:List α}{k:Nat}{d:α}(h:k<l.length): l.getD k d=l[k]:=by rw[List.getD,List.getElem?_eq_getElem h];rfl
theorem SlV.enc{lo k:Nat}{enc:α→List Value}{w:World}{l:List α}{v:Value}(d:α)(h:SlV lo k (fun _ x cs=>cs=enc x) w l v):
  ∃A c,v=.slice A l.length c∧l.length≤c∧(A=none→l.length=0∧c=0)∧RdK w A l.length k (fun j=>enc (l.getD j d)):=by
 obtain⟨A,c,f,h1,h2,h3,h4,h5⟩:=h.rd
 exact⟨A,c,h1,h2,h3,h4.congr fun j hj=>by rw[(h5 j hj).2,Xg hj]⟩
theorem SlV.rdPy{lo:Nat}{w:World}{l:List Py}{v:Value}(h:SlV lo 2 (UJ lo) w l v):
  ∃(A:Option Addr) (c:Nat) (vs:Nat→Value),v=.slice A l.length c∧l.length≤c∧(A=none→l.length=0∧c=0)∧RdK w A l.length 2 (fun j=>[.int .i64 (QC l j).vars,vs j])∧∀j,j<l.length→SlV lo 4 Zl w (QC l j).ts (vs j):=by
 obtain⟨A,c,f,h1,h2,h3,h4,h5⟩:=h.rd
 have key:∀i,∃u:Value,i<l.length→f i=[.int .i64 (QC l i).vars,u]∧SlV lo 4 Zl w (QC l i).ts u:=fun i=>by
  by_cases hi:i<l.length
  ·obtain⟨_,u,e1,e2⟩:=h5 i hi
   unfold QC
   rw[Xg hi]
   exact⟨u,fun _=>⟨e1,e2⟩⟩
  ·exact⟨undef,fun h=>absurd h hi⟩
 exact⟨A,c,fun i=>Classical.choose (key i),h1,h2,h3,h4.congr fun j hj=>(Lj (key j) hj).1,fun j hj=>(Lj (key j) hj).2⟩
theorem SlV.rdNd{lo:Nat}{w:World}{l:List Nd}{v:Value}(h:SlV lo 6 (eW lo) w l v):
  ∃(A:Option Addr) (c:Nat) (vs:Nat→Value),v=.slice A l.length c∧l.length≤c∧(A=none→l.length=0∧c=0)∧RdK w A l.length 6 (fun j=>[.int .i64 (Qc l j).split,.bool (Qc l j).scale.b,.string (Qc l j).scale.s,.int .i64 (Qc l j).scale.e,.int .i64 (Qc l j).sum.vars,vs j])∧∀j,j<l.length→SlV lo 4 Zl w (Qc l j).sum.ts (vs j):=by
 obtain⟨A,c,f,h1,h2,h3,h4,h5⟩:=h.rd
 have key:∀i,∃u:Value,i<l.length→f i=[.int .i64 (Qc l i).split,.bool (Qc l i).scale.b,.string (Qc l i).scale.s,.int .i64 (Qc l i).scale.e,.int .i64 (Qc l i).sum.vars,u]∧SlV lo 4 Zl w (Qc l i).sum.ts u:=fun i=>by
  by_cases hi:i<l.length
  ·obtain⟨_,u,e1,e2⟩:=h5 i hi
   unfold Qc
   rw[Xg hi]
   exact⟨u,fun _=>⟨e1,e2⟩⟩
  ·exact⟨undef,fun h=>absurd h hi⟩
 exact⟨A,c,fun i=>Classical.choose (key i),h1,h2,h3,h4.congr fun j hj=>(Lj (key j) hj).1,fun j hj=>(Lj (key j) hj).2⟩
theorem SlV.rdPt{lo:Nat}{w:World}{l:List (List Nm)}{v:Value}(h:SlV lo 1 (SN lo) w l v):
  ∃(A:Option Addr) (c:Nat) (vs:Nat→Value),v=.slice A l.length c∧l.length≤c∧(A=none→l.length=0∧c=0)∧RdK w A l.length 1 (fun j=>[vs j])∧∀j,j<l.length→SlV lo 3 Jm w (Qe l j) (vs j):=by
 obtain⟨A,c,f,h1,h2,h3,h4,h5⟩:=h.rd
 have key:∀i,∃u:Value,i<l.length→f i=[u]∧SlV lo 3 Jm w (Qe l i) u:=fun i=>by
  by_cases hi:i<l.length
  ·obtain⟨_,u,e1,e2⟩:=h5 i hi
   unfold Qe
   rw[Xg hi]
   exact⟨u,fun _=>⟨e1,e2⟩⟩
  ·exact⟨undef,fun h=>absurd h hi⟩
 exact⟨A,c,fun i=>Classical.choose (key i),h1,h2,h3,h4.congr fun j hj=>(Lj (key j) hj).1,fun j hj=>(Lj (key j) hj).2⟩
def GY(l:List (Nm×Nm))(k:Nat): Bool:=decide (Zs (nv (Qw l k).1-nv (Qw l k).2)≥0)
def XD(l:List (Nm×Nm)): Int:=if Q3 l.length (GY l)then 5 else if l.length=0 then 1 else 0
def ZD(n:Nat)(f:Nat→Bool): Int:=match (List.range n).find? f with|some k=>(k:Int)|none=>-1
theorem Gd{n k:Nat}{f:Nat→Bool}(h:∀j,j<k→f j=false)(hk:k<n)(hb:f k=true): ZD n f=(k:Int):=by
 have h1:(List.range n).find? f=some k:=by
  rw[List.find?_range_eq_some]
  exact⟨hb,Lm.2 hk,fun j hj=>by rw[h j hj];rfl⟩
 unfold ZD
 rw[h1]
theorem Gr{n:Nat}{f:Nat→Bool}(h:∀j,j<n→f j=false): ZD n f=-1:=by
 have h1:(List.range n).find? f=none:=by
  rw[List.find?_eq_none]
  intro j hj
  rw[h j (Lm.1 hj)]
  decide
 unfold ZD
 rw[h1]
theorem VZ(n:Nat)(f:Nat→Bool): decide (ZD n f≥0)=Q3 n f:=by
 by_cases h:∃j,j<n∧f j=true
 ·rw[anyB_iff.2 h]
  have h1:∃k,(List.range n).find? f=some k:=by
   rw[← Option.isSome_iff_exists,List.find?_isSome]
   obtain⟨j,a,b⟩:=h
   exact⟨j,Lm.2 a,b⟩
  obtain⟨k,hk⟩:=h1
  unfold ZD
  rw[hk]
  simp
 ·have h1:∀j,j<n→f j=false:=fun j hj=>by
   cases e:f j with
   | false=>rfl
   | true=>exact absurd ⟨j,hj,e⟩ h
  rw[Gr h1,Yp h1]
  decide
structure okP (p:Py):Prop where
 len:p.ts.length≤4294967296
 tms:∀t,t∈p.ts→t.m.size≤1048576∧okN t.c
def Qz(many:Int)(p:Py): Bool:=YV p != 0||p.vars != many
def QB(many:Int)(x:List Nm): Bool:=(x.length:Int) != many
def Mb(x:Nm): Bool:=(x.b==false&&x.s.toList==(⟨#[]⟩:ByteArray).toList)&&x.e==0
def Yc(many:Int)(x:Nd): Bool:=if(x.split != 0)=true then((x.split != 1||!Mb x.scale)||x.sum.vars != 0)||decide ((x.sum.ts.length:Int)>0)else YV x.sum != 0||x.sum.vars != many
def QT(kind vars:Int): Int:=if kind<1∨7≤kind∨vars<1 then 0 else if kind=5 then vars else if kind=2 then 2 else 1
def Aq(x:Nm): Bool:=decide (sg x>0)
def X5(s r c:Bool)(eps delta:Nm)(nr:Nat)(budget:Int)(nc:Nat): Bool :=
 bif (s != Aq eps)||(!s&&!Mb eps)then false else
 bif (r != Aq delta)||(!r&&(!Mb delta||decide ((nr:Int)>0)))then false else
 bif (s&&decide (budget<1))||(!s&&budget != 0)then false else
 c==decide ((nc:Int)>0)
def Qv(nb ns:Nat): Int:=bif decide ((nb:Int)>0)then 2*(nb:Int)else(ns:Int)
def Jp(nb:Nat)(pts:List (List Nm))(vars:Int)(wants:Bool): Bool :=
 bif decide ((nb:Int)>0)||wants then((nb:Int)==vars)&&((pts.length:Int)==0)else((pts.length:Int)==vars+1)&&!Q3 pts.length fun j=>QB vars (Qe pts j)
def Xc(fn:Func): Code:=fn.body.getD .skip
theorem Gq{W W':World}(h:Below W.heap.size W W'): KpC W W':=⟨h.size,fun k o hk _=>(h.block k (Array.getElem?_eq_some_iff.1 hk).1).trans hk⟩
theorem XX{β:Type}{B:Nat}{J:β→World→Prop}(hJ:AbidesFrom B J){s:β}{W W':World}(h:Below W.heap.size W W')(hs:J s W): J s W' :=
 hJ s W W' none hs ⟨h.os,h.tape,h.output,h.size,fun k hk _=>h.block k hk⟩ fun _ e=>by cases e
theorem FN: ∀ {l:List α} {i:Nat} {o:α},l[i]?=some o→l=l.take i++o::l.drop (i+1)
 | [],_,_,h=>by simp at h
 | x::l,0,o,h=>by simp at h;simp[h]
 | x::l,i+1,o,h=>by
  have h1:l[i]?=some o:=by simpa using h
  show x::l=x::(l.take i++o::l.drop (i+1))
  rw[← FN h1]
section
variable {P:Program} {tt:List (Nat×TI)} {w0:World}
theorem Fd(hT:YF P tt)(hm:P.follows .mixedOrders=true){n:Nat}{c:Code}{d:List Dir}{σ:St}{p:St→List Dir→Prop}{X:Act→World→Prop}{Q:Exit→Act→World→Prop}{r:Env}{a:Act}{w:World}(h:XH P tt (KM P tt w0) (0,0) w0 c σ d fun e σ' d'=>GU e (p σ' d'))(hS:Sat w0 σ r a w)(hX:∀σ' d' r' a' w',p σ' d'→Sat w0 σ' r' a' w'→X a' w'): c.wpIn Fence.wide n P (Exit.then X Q) a w:=by
 refine wpIn_wide.2 (wp_mono (Po hT hm (Kk hT hm 9) (0,0) c σ d _ h ⟨L9 _,L9 _⟩ r a w hS (fun e a' w'=>e=.normal∧X a' w') (fun _ _ _ _ _ h=>by cases h.1) (fun _ _ _ _ _ _ h=>False.elim h) fun e σ' d' r' a' w' hk hS' _ _=>?_) fun e a' w' hq=>?_)
 ·cases e with
  | normal=>exact⟨rfl,hX σ' d' r' a' w' hk hS'⟩
  | ret=>exact False.elim hk
  | exit i=>exact False.elim hk
 ·obtain⟨rfl,hq⟩:=hq
  exact hq
theorem Ea(hT:YF P tt)(hm:P.follows .mixedOrders=true){c:Code}(hc:ae c=c){τ:Nat→St}(hbs:∀k,(τ k).bs=[]∧(τ k).rs=[]){xs:List α}{l m n:Nat}{enc:α→Value}(df:α)(hmn:m+n≤xs.length){F:World→Prop}(hF:∀W W',F W→KpC W W'→F W'){ci dst:Nat}{o:Oper}(ho:(VD (Do c)).toList[ci]?=some o){f:Operand}{args:List Operand}(hcall:OO o=some (f,args))(hdst:o.dst=some dst)(hdb:∀k,Bl (some dst) (τ k).n=true)(hnd:(VD (Do c)).toList.all Hl=true)(h1:∀k W,k≤n→F W→∃d,XH P tt (KM P tt W) (0,0) W (nI c) (τ k) d fun e σ _=>GU e (JR σ (m9 c) fun s=>s=.val (.bool (decide ((k:Int)<(n:Int))))∧Jk σ (τ k) True))(h2:∀k W,k<n→F W→∃d,XH P tt (KM P tt W) (0,0) W (nG c) (τ k) d fun e σ d=>GU e (Kv P tt (KM P tt W) W (gj (Do c)) (VD (Do c)) ((VD (Do c)).toList.take ci) 0 σ d fun σ _=>v1 σ f fun fv=>vL σ args fun vs=>fv=.func (.yield l) #[] #[]∧vs=[enc (xs.getD (m+k) df)]∧Jk σ (τ k) True))(h3:∀k W b,k<n→∃d,Kv P tt (KM P tt W) W (gj (Do c)) (VD (Do c)) ((VD (Do c)).toList.drop (ci+1)) (ci+1) ((τ k).push (some dst) (bV b)) d fun σ _=>JR σ (lS c) fun s=>s=.val (.bool (!b))∧Jk σ (τ k) True)(h4:∀k W,k<n→∃d,XH P tt (KM P tt W) (0,0) W (lQ c) (τ k) d fun e σ _=>GU e (Jk σ (τ (k+1)) True)){J Jx:List {x // x∈xs}→World→Prop}{B:Nat}(hJ:AbidesFrom B J)(hJx:AbidesFrom B Jx)(hY:∀pre x W1,J pre W1→pre.length<xs.length→YieldAt Fence.wide 7 P l #[enc x.1] W1 fun e W'=>(e=.returned (.bool true)∧J (pre++[x]) W'∧KpC W1 W')∨(e=.returned (.bool false)∧Jx (pre++[x]) W')){Q:Exit→Act→World→Prop}{r:Env}{a:Act}{w:World}(hS:Sat w0 (τ 0) r a w)(hFw:F w)(hJw:J (xs.attach.take m) w)(hdone:∀a' W,Sat W (τ n) e0 a' W→F W→J (xs.attach.take (m+n)) W→Q .normal a' W)(hstop:∀a' W pre,Jx pre W→a'.defers=[]→Q .ret a' W): c.wpIn Fence.wide 8 P Q a w:=by
 rw[← hc]
 unfold ae
 refine wpIn_block (GV (fun k a w=>k≤n∧Sat w (τ k) e0 a w∧F w∧J (xs.attach.take (m+k)) w) (fun k=>n-k) (fun k a w hJ0=>?_) 0 ⟨L9 _,hS.rebase (hbs 0).1 (hbs 0).2 w,hFw,hJw⟩)
 obtain⟨hk,hS,hFw,hJw⟩:=hJ0
 obtain⟨d1,e1⟩:=h1 k w hk hFw
 refine wpIn_seq (Fd hT hm e1 hS fun σ1 _ r1 a1 w1 hp hS1=>?_)
 obtain⟨s,q1,q2,q3⟩:=Qy hp
 have he:=(Qs hS1.see q1).1
 rw[q2]at he
 have hSk:=((Ya (w0:=w) q3).2 _ _ _ hS1).rebase (hbs k).1 (hbs k).2 w1
 have hb1:=hS1.see.low
 have hF1:=hF _ _ hFw (Gq hb1)
 have hJ1:=XX hJ hb1 hJw
 by_cases hkn:k<n
 ·refine wpIn_seq (wpIn_cond_true (by rw[he];simp[SV.den,hkn]) (wpIn_skip ?_))
  refine wpIn_seq (wpIn_block ?_)
  obtain⟨d2,e2⟩:=h2 k w1 hkn hF1
  refine wpIn_seq (Fd hT hm e2 hSk fun σ2 d2 r2 a2 w2 hp2 hS2=>?_)
  refine wpIn_seq (wpIn_region_list ?_)
  have hnd2:=hnd
  have hsp:=FN ho
  generalize VD (Do c)=ops at *
  rw[hsp]at hnd2 ⊢
  rw[List.all_append,R8]at hnd2
  obtain⟨n1,n2⟩:=hnd2
  obtain⟨_,n3⟩:=L6.1 (show(Hl o&&(ops.toList.drop (ci+1)).all Hl)=true from n2)
  refine Ir (Q':=fun e a w=>e=.normal∧wpListIn Fence.wide 8 P ops _ (o::ops.toList.drop (ci+1)) a w) (fun⟨_,_,h,_⟩=>by cases h) (fun _ _ _ h=>by cases h.1) (fun _ _ h=>h.2) n1 (Vb hT (Kk hT hm 9) _ 0 σ2 d2 _ hp2 r2 a2 w2 hS2 _ (fun _ _ _ _ _ _ h=>False.elim h) fun σ3 d3 r3 a3 w3 hk3 hS3 _ _=>⟨rfl,?_⟩)
  obtain⟨fv,hk3,hfv⟩:=XE (w0:=w1) hk3
  obtain⟨vs,⟨rfl,rfl,hsub⟩,hvs⟩:=GN (w0:=w1) hk3
  have hb3:=hS3.see.low
  have hF3:=hF _ _ hF1 (Gq hb3)
  have hJ3:=XX hJ hb3 hJ1
  obtain⟨y1,y2,y3⟩:=UF (P:=P) hcall (hfv r3 a3 w3 hS3.see) (hvs r3 a3 w3 hS3.see) w3
  obtain⟨fn,tmps,assign,body,y4,y5⟩:=hY _ ⟨xs[m+k],Sa (by omega)⟩ w3 hJ3 (by rw[Rt,List.length_attach];omega)
  unfold wpListIn
  rw[if_pos (by unfold Region.wanted;rw[y2])]
  refine⟨fun _ _=>trivial,?_⟩
  rw[Oper.semAt_eq _ _ _ (fun c e=>by unfold Hl at y3;rw[e]at y3;cases y3),y1,show xs.getD (m+k) df=xs[m+k]from XI (by omega),y4]
  refine⟨fun h=>(by cases h),y5.mono fun e W4 hr=>?_⟩
  have hSk3:=fun V=>((Ya (w0:=w1) hsub).2 _ _ _ hS3).rebase (hbs k).1 (hbs k).2 V
  have after:∀(b:Bool) (W4:World) {Qr:Exit→Act→World→Prop},(∀σ5 r5 a5 w5,JR σ5 (lS c) (fun s=>s=.val (.bool (!b))∧Jk σ5 (τ k) True)→Sat W4 σ5 r5 a5 w5→Qr .normal a5 w5)→wpListIn Fence.wide 8 P ops Qr (ops.toList.drop (ci+1)) (a3.put o.dst (.bool b)) W4:=fun b W4 Qr hq=>by
   obtain⟨d5,e5⟩:=h3 k W4 b hkn
   have hp5:=(hSk3 W4).put (s:=bV b) (hdb k) rfl
   have h6:=Ir (n:=8) (P:=P) (ops:=ops) (Q:=Qr) (m2:=[]) (Q':=fun e a w=>e=.normal∧Qr .normal a w) (fun⟨_,_,h,_⟩=>by cases h) (fun _ _ _ h=>by cases h.1) (fun _ _ h=>h.2) n3 (Vb hT (Kk hT hm 9) _ (ci+1) _ d5 _ e5 e0 _ W4 hp5 _ (fun _ _ _ _ _ _ h=>False.elim h) fun σ5 d5 r5 a5 w5 hk5 hS5 _ _=>⟨rfl,hq σ5 r5 a5 w5 hk5 hS5⟩)
   rw[Sc]at h6
   rw[hdst]
   exact h6
  rcases hr with⟨rfl,hJ4,hk4⟩|⟨rfl,hJx4⟩
  ·refine after true W4 fun σ5 r5 a5 w5 hk5 hS5=>?_
   obtain⟨s,u1,u2,u3⟩:=Qy hk5
   have hu:=(Qs hS5.see u1).1
   rw[u2]at hu
   refine wpIn_cond_false (by rw[hu];rfl) (wpIn_skip ?_)
   have hSk5:=((Ya (w0:=W4) u3).2 _ _ _ hS5).rebase (hbs k).1 (hbs k).2 w5
   have hb5:=hS5.see.low
   have hF5:=hF _ _ (hF _ _ hF3 hk4) (Gq hb5)
   have hJ5:=XX hJ hb5 hJ4
   obtain⟨d6,e6⟩:=h4 k w5 hkn
   show(lQ c).wpIn Fence.wide 8 P _ a5 w5
   refine Fd hT hm e6 hSk5 fun σ6 _ r6 a6 w6 hp6 hS6=>?_
   have hb6:=hS6.see.low
   refine⟨k+1,⟨hkn,((Ya (w0:=w5) hp6).2 _ _ _ hS6).rebase (hbs (k+1)).1 (hbs (k+1)).2 w6,hF _ _ hF5 (Gq hb6),?_⟩,by omega⟩
   have h7:=XX hJ hb6 hJ5
   rw[show m+(k+1)=m+k+1 by omega,Rk (by rw[List.length_attach];omega),List.getElem_attach]
   exact h7
  ·refine after false W4 fun σ5 r5 a5 w5 hk5 hS5=>?_
   obtain⟨s,u1,u2,u3⟩:=Qy hk5
   have hu:=(Qs hS5.see u1).1
   rw[u2]at hu
   refine wpIn_cond_true (by rw[hu];rfl) (wpIn_ret ?_)
   show Q .ret a5 w5
   exact hstop a5 w5 _ (XX hJx hS5.see.low hJx4) hS5.defers
 ·have hkn':k=n:=by omega
  subst hkn'
  refine wpIn_seq (wpIn_cond_false (by rw[he];simp[SV.den]) (wpIn_exit ?_))
  show(if nO c=nO c then Q .normal a1 w1 else _)
  rw[if_pos rfl]
  exact hdone a1 w1 hSk hF1 hJ1
end
