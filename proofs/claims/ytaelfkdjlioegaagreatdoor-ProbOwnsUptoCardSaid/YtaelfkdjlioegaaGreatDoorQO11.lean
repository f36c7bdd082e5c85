/- The walks and plain laws beneath the statements. -/
import Derived.Test.YtaelfkdjlioegaaGreatDoorProg
import Derived.Test.YtaelfkdjlioegaaGreatDoorQO3
import Derived.Test.YtaelfkdjlioegaaGreatDoorQO6
namespace Go.Proofs.YtaelfkdjlioegaaGreatDoor
set_option maxRecDepth 100000
open Go
def tt:List (Nat×TI):=[(32,⟨3,[.bool false,.string ⟨#[]⟩,.int .i64 0],.struct [(0,2,some true),(2,1,some false)]⟩),(58,⟨6,[.bool false,.string ⟨#[]⟩,.int .i64 0,.bool false,.string ⟨#[]⟩,.int .i64 0],.struct [(0,3,some true),(3,3,some true)]⟩),(30,⟨2,[.bool false,.string ⟨#[]⟩],.struct [(0,1,some false),(1,1,some false)]⟩),(3,⟨1,[.int .i64 0],.int .i64⟩),(2,⟨1,[.int .i64 0],.int .i64⟩),(4,⟨1,[.bool false],.bool⟩),(9,⟨1,[.string ⟨#[]⟩],.str⟩),(44,⟨1,[.slice none 0 0],.slice 32 3 (some true)⟩),(5,⟨1,[.int .u8 0],.int .u8⟩),(22,⟨1,[.slice none 0 0],.slice 58 6 (some true)⟩),(137,⟨5,[.int .i64 0,.bool false,.string ⟨#[]⟩,.bool false,.string ⟨#[]⟩],.struct [(0,1,some false),(1,2,some true),(3,2,some true)]⟩),(179,⟨2,[.string ⟨#[]⟩,.bool false],.struct [(0,1,some false),(1,1,some false)]⟩),(176,⟨1,[.string ⟨#[]⟩],.str⟩),(119,⟨1,[.int .u64 0],.int .u64⟩),(168,⟨1,[.slice none 0 0],.slice 9 1 (some false)⟩),(21,⟨1,[.int .i32 0],.int .i32⟩),(104,⟨1,[.slice none 0 0],.slice 5 1 (some false)⟩),(39,⟨1,[.int .i64 0],.int .i64⟩),(169,⟨1,[.tuple { toList:=[.string ⟨#[]⟩,.bool false] }],.other⟩),(183,⟨1,[.slice none 0 0],.slice 30 2 (some true)⟩),(132,⟨1,[.slice none 0 0],.slice 44 1 (some false)⟩),(158,⟨1,[.slice none 0 0],.slice 183 1 (some false)⟩),(146,⟨1,[.tuple { toList:=[.string ⟨#[]⟩,.string ⟨#[]⟩,.bool false] }],.other⟩),(35,⟨14,[.int .i64 0,.int .i64 0,.slice none 0 0,.slice none 0 0,.slice none 0 0,.slice none 0 0,.bool false,.string ⟨#[]⟩,.int .i64 0,.bool false,.string ⟨#[]⟩,.int .i64 0,.int .i64 0,.slice none 0 0],.struct [(0,1,some false),(1,1,some false),(2,2,some true),(4,1,some false),(5,1,some false),(6,3,some true),(9,3,some true),(12,1,some false),(13,1,some false)]⟩),(27,⟨2,[.slice none 0 0,.slice none 0 0],.struct [(0,1,some false),(1,1,some false)]⟩),(48,⟨2,[.int .i64 0,.slice none 0 0],.struct [(0,1,some false),(1,1,some false)]⟩),(54,⟨4,[.string ⟨#[]⟩,.bool false,.string ⟨#[]⟩,.int .i64 0],.struct [(0,1,some false),(1,3,some true)]⟩),(50,⟨6,[.int .i64 0,.bool false,.string ⟨#[]⟩,.int .i64 0,.int .i64 0,.slice none 0 0],.struct [(0,1,some false),(1,3,some true),(4,2,some true)]⟩),(23,⟨1,[.slice none 0 0],.slice 58 6 (some true)⟩),(25,⟨1,[.slice none 0 0],.slice 45 1 (some false)⟩),(45,⟨1,[.slice none 0 0],.slice 32 3 (some true)⟩),(28,⟨1,[.slice none 0 0],.slice 48 2 (some true)⟩),(33,⟨1,[.slice none 0 0],.slice 50 6 (some true)⟩),(46,⟨1,[.slice none 0 0],.slice 54 4 (some true)⟩),(65,⟨3,[.bool false,.bool false,.bool false],.struct [(0,1,some false),(1,1,some false),(2,1,some false)]⟩),(67,⟨5,[.bool false,.bool false,.bool false,.int .i64 0,.bool false],.struct [(0,3,some true),(3,1,some false),(4,1,some false)]⟩),(68,⟨35,[.bool false,.bool false,.bool false,.int .i64 0,.bool false,.bool false,.bool false,.bool false,.int .i64 0,.bool false,.bool false,.bool false,.bool false,.int .i64 0,.bool false,.bool false,.bool false,.bool false,.int .i64 0,.bool false,.bool false,.bool false,.bool false,.int .i64 0,.bool false,.bool false,.bool false,.bool false,.int .i64 0,.bool false,.bool false,.bool false,.bool false,.int .i64 0,.bool false],.array 7 67 5 (some true)⟩),(171,⟨1,[.slice none 0 0],.slice 3 1 (some false)⟩),(155,⟨1,[.slice none 0 0],.slice 28 1 (some false)⟩),(77,⟨2,[.slice none 0 0,.slice none 0 0],.array 2 28 1 (some false)⟩),(135,⟨1,[.int .i64 0],.int .i64⟩)]
theorem ttOk:TTOk Tryz.prog tt:=tt_ok (by kernel_rfl)
theorem mixed:Tryz.prog.follows .mixedOrders=true:=by kernel_rfl
open Go Go.RowKit
def rN(b:Bool)(s:ByteArray)(e:Int): Value:=.agg #[.bool b,.string s,.int .i64 e]
abbrev Tab0(w:World): Prop:=TabAt 0 Lib.deBruijn64tab w
theorem rt{w0:World}{f:FuncId}{args:Array Value}{R:Value}(hT:Tab0 w0)(he:Enters Tryz.prog f)(h:∀W,Tab0 W→Calls Tryz.prog f args W fun e w'=>e=.returned R∧Below W.heap.size W w'): RetAt Tryz.prog w0 f args R:=⟨he,fun W hb=>h W (tab_keep hT hb)⟩
theorem rb{w0:World}{f:FuncId}{g:Nat}{t:TypeId}{cs args:Array Value}{R:Value}(hT:Tab0 w0)(hP:Bx w0 g t cs)(he:Enters Tryz.prog f)(h:∀W,Tab0 W→Bx W g t cs→Calls Tryz.prog f args W fun e w'=>e=.returned R∧Below W.heap.size W w'): RetAt Tryz.prog w0 f args R:=⟨he,fun W hb=>h W (tab_keep hT hb) (hP.later hb)⟩
theorem num_eql(W:World)(x y:Operand)(a b:Bool)(s t:ByteArray)(e f:Int): RunOk Tryz.prog W (do eqGuard .eql 32 x y (rN a s e) (rN b t f);binOp .eql 32 (rN a s e) (rN b t f)) (.bool ((a==b&&s.toList==t.toList)&&e==f)):=fun W' _=>by
 unfold rN
 simp[go_sem]
 by_cases h1:a=b<;>by_cases h2:s.toList=t.toList<;>by_cases h3:e=f<;>simp[h1,h2,h3]
theorem num_neq(W:World)(x y:Operand)(a b:Bool)(s t:ByteArray)(e f:Int): RunOk Tryz.prog W (do eqGuard .neq 32 x y (rN a s e) (rN b t f);binOp .neq 32 (rN a s e) (rN b t f)) (.bool (!((a==b&&s.toList==t.toList)&&e==f))):=fun W' _=>by
 unfold rN
 simp[go_sem]
 by_cases h1:a=b<;>by_cases h2:s.toList=t.toList<;>by_cases h3:e=f<;>simp[h1,h2,h3]
theorem num_nz(W:World)(x y:Operand)(a:Bool)(s:ByteArray)(e:Int)(h:¬ s.toList=[]): RunOk Tryz.prog W (do eqGuard .eql 32 x y (rN a s e) (rN false ⟨#[]⟩ 0);binOp .eql 32 (rN a s e) (rN false ⟨#[]⟩ 0)) (.bool false):=by
 have c:=num_eql W x y a false s ⟨#[]⟩ e 0
 have k:(s.toList==(⟨#[]⟩:ByteArray).toList)=false:=beq_eq_false_iff_ne.2 (by rw[show(⟨#[]⟩:ByteArray).toList=[]from by simp[ByteArray.toList_eq]];exact h)
 rwa [k,Bool.and_false,Bool.false_and]at c
theorem num_eql1(W:World)(x y:Operand)(a:Bool)(s:ByteArray)(e:Int): RunOk Tryz.prog W (do eqGuard .eql 32 x y (rN a s e) (rN a s e);binOp .eql 32 (rN a s e) (rN a s e)) (.bool true):=fun W' _=>by
 unfold rN
 simp[go_sem]
theorem bool_eql(W:World)(x y:Operand)(a b:Bool): RunOk Tryz.prog W (do eqGuard .eql 4 x y (.bool a) (.bool b);binOp .eql 4 (.bool a) (.bool b)) (.bool (a==b)):=fun W' _=>by
 simp[go_sem]
