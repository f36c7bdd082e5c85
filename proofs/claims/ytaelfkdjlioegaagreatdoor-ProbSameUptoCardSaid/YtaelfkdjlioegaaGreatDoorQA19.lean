/- The walks and plain laws beneath the statements. -/
import Derived.Test.YtaelfkdjlioegaaGreatDoorProg
import Derived.Laws.AppendOwnNone
import Derived.Test.YtaelfkdjlioegaaGreatDoorQA7
import Derived.Below
import Derived.ChangeSame
import Derived.Carry
import Derived.SliceStrings
import Derived.Test.YtaelfkdjlioegaaGreatDoorQA14
import Derived.Deep.Slices
import Derived.Deep.Fields
import Derived.Lib.SmallJoins
namespace Go.Proofs.YtaelfkdjlioegaaGreatDoor
set_option maxRecDepth 100000
open Go
def tt:List (Nat×TI):=[(32,⟨3,[.bool false,.string ⟨#[]⟩,.int .i64 0],.struct [(0,2,some true),(2,1,some false)]⟩),(58,⟨6,[.bool false,.string ⟨#[]⟩,.int .i64 0,.bool false,.string ⟨#[]⟩,.int .i64 0],.struct [(0,3,some true),(3,3,some true)]⟩),(30,⟨2,[.bool false,.string ⟨#[]⟩],.struct [(0,1,some false),(1,1,some false)]⟩),(3,⟨1,[.int .i64 0],.int .i64⟩),(2,⟨1,[.int .i64 0],.int .i64⟩),(4,⟨1,[.bool false],.bool⟩),(9,⟨1,[.string ⟨#[]⟩],.str⟩),(44,⟨1,[.slice none 0 0],.slice 32 3 (some true)⟩),(5,⟨1,[.int .u8 0],.int .u8⟩),(22,⟨1,[.slice none 0 0],.slice 58 6 (some true)⟩),(137,⟨5,[.int .i64 0,.bool false,.string ⟨#[]⟩,.bool false,.string ⟨#[]⟩],.struct [(0,1,some false),(1,2,some true),(3,2,some true)]⟩),(179,⟨2,[.string ⟨#[]⟩,.bool false],.struct [(0,1,some false),(1,1,some false)]⟩),(176,⟨1,[.string ⟨#[]⟩],.str⟩),(119,⟨1,[.int .u64 0],.int .u64⟩),(168,⟨1,[.slice none 0 0],.slice 9 1 (some false)⟩),(21,⟨1,[.int .i32 0],.int .i32⟩),(104,⟨1,[.slice none 0 0],.slice 5 1 (some false)⟩),(39,⟨1,[.int .i64 0],.int .i64⟩),(169,⟨1,[.tuple { toList:=[.string ⟨#[]⟩,.bool false] }],.other⟩),(183,⟨1,[.slice none 0 0],.slice 30 2 (some true)⟩),(132,⟨1,[.slice none 0 0],.slice 44 1 (some false)⟩),(158,⟨1,[.slice none 0 0],.slice 183 1 (some false)⟩),(146,⟨1,[.tuple { toList:=[.string ⟨#[]⟩,.string ⟨#[]⟩,.bool false] }],.other⟩),(35,⟨14,[.int .i64 0,.int .i64 0,.slice none 0 0,.slice none 0 0,.slice none 0 0,.slice none 0 0,.bool false,.string ⟨#[]⟩,.int .i64 0,.bool false,.string ⟨#[]⟩,.int .i64 0,.int .i64 0,.slice none 0 0],.struct [(0,1,some false),(1,1,some false),(2,2,some true),(4,1,some false),(5,1,some false),(6,3,some true),(9,3,some true),(12,1,some false),(13,1,some false)]⟩),(27,⟨2,[.slice none 0 0,.slice none 0 0],.struct [(0,1,some false),(1,1,some false)]⟩),(48,⟨2,[.int .i64 0,.slice none 0 0],.struct [(0,1,some false),(1,1,some false)]⟩),(54,⟨4,[.string ⟨#[]⟩,.bool false,.string ⟨#[]⟩,.int .i64 0],.struct [(0,1,some false),(1,3,some true)]⟩),(50,⟨6,[.int .i64 0,.bool false,.string ⟨#[]⟩,.int .i64 0,.int .i64 0,.slice none 0 0],.struct [(0,1,some false),(1,3,some true),(4,2,some true)]⟩),(23,⟨1,[.slice none 0 0],.slice 58 6 (some true)⟩),(25,⟨1,[.slice none 0 0],.slice 45 1 (some false)⟩),(45,⟨1,[.slice none 0 0],.slice 32 3 (some true)⟩),(28,⟨1,[.slice none 0 0],.slice 48 2 (some true)⟩),(33,⟨1,[.slice none 0 0],.slice 50 6 (some true)⟩),(46,⟨1,[.slice none 0 0],.slice 54 4 (some true)⟩),(65,⟨3,[.bool false,.bool false,.bool false],.struct [(0,1,some false),(1,1,some false),(2,1,some false)]⟩),(67,⟨5,[.bool false,.bool false,.bool false,.int .i64 0,.bool false],.struct [(0,3,some true),(3,1,some false),(4,1,some false)]⟩),(68,⟨35,[.bool false,.bool false,.bool false,.int .i64 0,.bool false,.bool false,.bool false,.bool false,.int .i64 0,.bool false,.bool false,.bool false,.bool false,.int .i64 0,.bool false,.bool false,.bool false,.bool false,.int .i64 0,.bool false,.bool false,.bool false,.bool false,.int .i64 0,.bool false,.bool false,.bool false,.bool false,.int .i64 0,.bool false,.bool false,.bool false,.bool false,.int .i64 0,.bool false],.array 7 67 5 (some true)⟩),(171,⟨1,[.slice none 0 0],.slice 3 1 (some false)⟩),(155,⟨1,[.slice none 0 0],.slice 28 1 (some false)⟩),(77,⟨2,[.slice none 0 0,.slice none 0 0],.array 2 28 1 (some false)⟩),(135,⟨1,[.int .i64 0],.int .i64⟩)]
theorem ttOk:TTOk Tryz.prog tt:=tt_ok (by kernel_rfl)
theorem mixed:Tryz.prog.follows .mixedOrders=true:=by kernel_rfl
open Go Go.RowKit
def vN(x:Dyadic): Value:=.agg #[.bool (neg (dm x)),.string (mag (dm x)),.int .i64 (de x)]
def rN(b:Bool)(s:ByteArray)(e:Int): Value:=.agg #[.bool b,.string s,.int .i64 e]
abbrev Tab0(w:World): Prop:=TabAt 0 Lib.deBruijn64tab w
theorem rt{w0:World}{f:FuncId}{args:Array Value}{R:Value}(hT:Tab0 w0)(he:Enters Tryz.prog f)(h:∀W,Tab0 W→Calls Tryz.prog f args W fun e w'=>e=.returned R∧Below W.heap.size W w'): RetAt Tryz.prog w0 f args R:=⟨he,fun W hb=>h W (tab_keep hT hb)⟩
theorem rb{w0:World}{f:FuncId}{g:Nat}{t:TypeId}{cs args:Array Value}{R:Value}(hT:Tab0 w0)(hP:Bx w0 g t cs)(he:Enters Tryz.prog f)(h:∀W,Tab0 W→Bx W g t cs→Calls Tryz.prog f args W fun e w'=>e=.returned R∧Below W.heap.size W w'): RetAt Tryz.prog w0 f args R:=⟨he,fun W hb=>h W (tab_keep hT hb) (hP.later hb)⟩
theorem num_eql(W:World)(x y:Operand)(a b:Bool)(s t:ByteArray)(e f:Int): RunOk Tryz.prog W (do eqGuard .eql 32 x y (rN a s e) (rN b t f);binOp .eql 32 (rN a s e) (rN b t f)) (.bool ((a==b&&s.toList==t.toList)&&e==f)):=fun W' _=>by
 unfold rN
 simp[go_sem]
 by_cases h1:a=b<;>by_cases h2:s.toList=t.toList<;>by_cases h3:e=f<;>simp[h1,h2,h3]
theorem num_neq(W:World)(x y:Operand)(a b:Bool)(s t:ByteArray)(e f:Int): RunOk Tryz.prog W (do eqGuard .neq 32 x y (rN a s e) (rN b t f);binOp .neq 32 (rN a s e) (rN b t f)) (.bool (!((a==b&&s.toList==t.toList)&&e==f))):=fun W' _=>by
 unfold rN
 simp[go_sem]
 by_cases h1:a=b<;>by_cases h2:s.toList=t.toList<;>by_cases h3:e=f<;>simp[h1,h2,h3]
theorem num_nz(W:World)(x y:Operand)(a:Bool)(s:ByteArray)(e:Int)(h:¬ s.toList=[]): RunOk Tryz.prog W (do eqGuard .eql 32 x y (rN a s e) (rN false ⟨#[]⟩ 0);binOp .eql 32 (rN a s e) (rN false ⟨#[]⟩ 0)) (.bool false):=by
 have c:=num_eql W x y a false s ⟨#[]⟩ e 0
 have k:(s.toList==(⟨#[]⟩:ByteArray).toList)=false:=beq_eq_false_iff_ne.2 (by rw[show(⟨#[]⟩:ByteArray).toList=[]from by simp[ByteArray.toList_eq]];exact h)
 rwa [k,Bool.and_false,Bool.false_and]at c
theorem num_eql1(W:World)(x y:Operand)(a:Bool)(s:ByteArray)(e:Int): RunOk Tryz.prog W (do eqGuard .eql 32 x y (rN a s e) (rN a s e);binOp .eql 32 (rN a s e) (rN a s e)) (.bool true):=fun W' _=>by
 unfold rN
 simp[go_sem]
theorem bool_eql(W:World)(x y:Operand)(a b:Bool): RunOk Tryz.prog W (do eqGuard .eql 4 x y (.bool a) (.bool b);binOp .eql 4 (.bool a) (.bool b)) (.bool (a==b)):=fun W' _=>by
 simp[go_sem]
open Go.RowKit
theorem OwnR.one(w:World)(base:Nat)(e:TypeId)(u:Value)(hb:base≤w.heap.size): OwnR (w.alloc (.cells #[u] e)) base e (.slice (some ⟨w.heap.size,0,none⟩) 1 1) 1 (fun _=>u) :=
 ⟨by simp,.inr ⟨w.heap.size,1,#[u],rfl,hb,heap_alloc_new w _,Nat.le_refl _,by unfold maxLen;omega,rfl,rfl⟩⟩
open Go Go.RowKit
theorem rt_sNum_sNum:RowT Tryz.prog 44 44 32 3 32:=⟨by kernel_rfl,⟨32,by kernel_rfl⟩,by kernel_rfl,by decide,by decide⟩
theorem rt_sNum_Point:RowT Tryz.prog 44 45 32 3 32:=⟨by kernel_rfl,⟨32,by kernel_rfl⟩,by kernel_rfl,by decide,by decide⟩
theorem rt_Point_Point:RowT Tryz.prog 45 45 32 3 32:=⟨by kernel_rfl,⟨32,by kernel_rfl⟩,by kernel_rfl,by decide,by decide⟩
theorem rt_ssNum_ssNum:RowT Tryz.prog 132 132 44 1 24:=⟨by kernel_rfl,⟨44,by kernel_rfl⟩,by kernel_rfl,by decide,by decide⟩
theorem rt_Simplex_Simplex:RowT Tryz.prog 25 25 45 1 24:=⟨by kernel_rfl,⟨45,by kernel_rfl⟩,by kernel_rfl,by decide,by decide⟩
theorem rt_Box_Box:RowT Tryz.prog 23 23 58 6 64:=⟨by kernel_rfl,⟨58,by kernel_rfl⟩,by kernel_rfl,by decide,by decide⟩
theorem rt_sPoly_sPoly:RowT Tryz.prog 28 28 48 2 32:=⟨by kernel_rfl,⟨48,by kernel_rfl⟩,by kernel_rfl,by decide,by decide⟩
theorem rt_sNode_sNode:RowT Tryz.prog 33 33 50 6 72:=⟨by kernel_rfl,⟨50,by kernel_rfl⟩,by kernel_rfl,by decide,by decide⟩
theorem rt_sTerm_sTerm:RowT Tryz.prog 46 46 54 4 48:=⟨by kernel_rfl,⟨54,by kernel_rfl⟩,by kernel_rfl,by decide,by decide⟩
theorem rt_sint_sint:RowT Tryz.prog 171 171 3 1 8:=⟨by kernel_rfl,⟨3,by kernel_rfl⟩,by kernel_rfl,by decide,by decide⟩
open Go.RowKit Go.WideShapes Go.ChangeShapes
section
variable {H:Type} {enc:TypeId×Value→H} {P:Program}
theorem post_of_below{f:Func}{s:ChangeSpec}{apart fresh handsOn again:Bool}{W W':World}{args:Array Value}{v:Value}{ds gs:List (DataW H)}{before pa pv:List MemPlace}(hW:DataW.Whole enc P f.params.toList s.vars apart W args.toList ds gs before)(hres:∀(b:Nat) (sp:Nat→Bool) (hd:Bool),DataW.TrodAll enc P W' b sp hd f.resultTypes.toList (v.resultList f.resultTypes.size) (s.fn H (ds++gs)).results [])(hargs:∀sp:Nat→Bool,(∀p∈before,sp p.block=true)→DataW.TrodAll enc P W' 0 sp true f.params.toList args.toList (s.fn H (ds++gs)).args pa)(hvars:∀sp:Nat→Bool,(∀p∈before,sp p.block=true)→DataW.TrodVars enc P W' sp s.vars (s.fn H (ds++gs)).vars pv)(hps:before=pa++pv)(hb:Below W.heap.size W W')(hok:∀(j:Nat) (t:TypeId) (r:Value),f.resultTypes[j]?=some t→(v.resultList f.resultTypes.size)[j]?=some r→Value.okWide P W' .any 0 t r):
  s.post enc P f apart fresh handsOn again W args v W':=by
 have hlt:∀p∈before,p.block<W.heap.size:=fun p hp=>hW.lt p hp
 have hold:∀p∈before,(fun b=>decide (b<W.heap.size)) p.block=true:=fun p hp=>by simpa using hlt p hp
 refine⟨ds,gs,before,[],pa,pv,hW,hres _ _ _,hargs _ hold,hvars _ hold,World.keptBut_mono (fun p hp=>⟨hp,?_⟩) (hb.frame (·∈before)),fun _=>?_⟩
 ·rw[hps,List.mem_append]at hp
  exact Or.inr hp
 ·obtain⟨_,_,_,_,_,hz,hn⟩:=hW
  refine⟨hok,_,_,([]++pa)++pv,⟨[]++pa,pv,trodAll_append (hargs _ (fun _ _=>rfl)) (hres _ _ _),hvars _ (fun _ _=>rfl),rfl,?_,?_⟩,?_⟩
  ·intro b off hp
   have hin:MemPlace.cell b off∈before:=by rw[hps];simpa using hp
   rw[hb.frozen (hlt _ hin)]
   exact hz b off hin
  ·intro ha
   have:=hn ha
   rw[hps]at this
   simpa using this
  ·intro p hp _
   rw[hps]
   simpa using hp
end
open Go.RowKit Go.WideShapes Go.ChangeShapes
section
variable {H:Type} {enc:TypeId×Value→H} {P:Program}
theorem trodAll_below(hl:laidOutB P=true){W W':World}(hb:Below W.heap.size W W'){sp:Nat→Bool}: ∀ {ts:List TypeId} {vs:List Value} {ds:List (DataW H)} {ps:List MemPlace},(∀t∈ts,P.readableRec t=true∧t<P.types.size) →
  DataW.TrodAll enc P W 0 (fun _=>true) true ts vs ds ps→(∀x∈ps,x.block<W.heap.size)→(∀x∈ps,sp x.block=true)→DataW.TrodAll enc P W' 0 sp true ts vs ds ps
 | [],[],[],_,_,h,_,_=>h
 | t::ts,v::vs,d::ds,ps,ht,⟨p,q,h1,h2,he⟩,hlt,hsp=>by
  subst he
  exact⟨p,q,WideElems.Trod_stays hl (ht t (by simp)).1 (ht t (by simp)).2 h1 (fun x hx=>hb.same (hlt x (by simp[hx]))) (fun x hx=>hsp x (by simp[hx])),
   trodAll_below hl hb (fun u hu=>ht u (by simp[hu])) h2 (fun x hx=>hlt x (by simp[hx])) (fun x hx=>hsp x (by simp[hx])),rfl⟩
 | [],_::_,_,_,_,h,_,_=>by simp[DataW.TrodAll]at h
 | _::_,[],_,_,_,h,_,_=>by simp[DataW.TrodAll]at h
 | [],[],_::_,_,_,h,_,_=>by simp[DataW.TrodAll]at h
 | _::_,_::_,[],_,_,h,_,_=>by simp[DataW.TrodAll]at h
theorem post_true{f:Func}{s:ChangeSpec}{apart fresh handsOn again:Bool}{W W':World}{args:Array Value}{ds:List (DataW H)}{before:List MemPlace}{tb:TypeId}(hl:laidOutB P=true)(hp:(f.params.toList.all fun t=>P.readableRec t&&decide (t<P.types.size))=true)(hr:f.resultTypes=#[tb])(htb:P.underlying tb=some .bool)(hvs:s.vars=[])(hW:DataW.Whole enc P f.params.toList s.vars apart W args.toList ds [] before)(h1:(s.fn H (ds++[])).results=[.lit (.bool true)])(h2:(s.fn H (ds++[])).args=ds)(h3:(s.fn H (ds++[])).vars=[])(hb:Below W.heap.size W W'):
  s.post enc P f apart fresh handsOn again W args (.bool true) W':=by
 have hlt:∀p∈before,p.block<W.heap.size:=fun p hp=>hW.lt p hp
 obtain⟨p,q,hA,hV,hpq,_,_⟩:=id hW
 have hq:q=[]:=by rw[hvs]at hV;exact hV
 subst hq
 rw[List.append_nil]at hpq
 subst hpq
 have ht:∀t∈f.params.toList,P.readableRec t=true∧t<P.types.size:=fun t ht=>by simpa using List.all_eq_true.1 hp t ht
 refine post_of_below (pa:=before) (pv:=[]) hW (fun b sp hd=>?_) (fun sp hsp=>?_) (fun sp _=>?_) (by simp) hb (ok_one hr rfl (okWide_bool_mk htb true))
 ·rw[hr,h1];exact trodAll_mk1 (shut_bool htb _)
 ·rw[h2];exact trodAll_below hl hb ht hA hlt hsp
 ·rw[hvs,h3];rfl
end
open Go.RowKit Go.WideShapes Go.ChangeShapes Go.Deep
section
variable {H:Type} {enc:TypeId×Value→H} {w:World}
theorem cells_Int:Tryz.prog.cellsOf 30=2:=by kernel_rfl
end
