/- The walks and plain laws beneath the statements. -/
import Derived.Test.YtaelfkdjlioegaaGreatDoorQO11
import Derived.Test.YtaelfkdjlioegaaGreatDoorQO16
namespace Go.Proofs.YtaelfkdjlioegaaGreatDoor
open Go Go.RowKit
def bt(s:ByteArray)(i:Nat): Nat:=(s.data.toList.getD i 0).toNat
theorem run_bt{P:Program}{t:TypeId}(s:ByteArray)(hu:P.underlying t=some .string)(i:Nat)(h:i<s.size)(W:World): (Instr.index t (.string s) (.int .i64 (i:Int))).run P W=.ok (.int .u8 (bt s i:Nat)) W:=by
 rw[run_index_at s hu .i64 (i:Int) i rfl h]
 congr 2
 unfold bt
 simp[List.getD,h,← ByteArray.getElem_eq_getElem_data]
def sLt(a b:ByteArray): Bool:=Op.bytesLess a.toList b.toList
theorem str_geq(W:World)(x y:Operand)(a b:ByteArray): RunOk Tryz.prog W (do eqGuard .geq 9 x y (.string a) (.string b);binOp .geq 9 (.string a) (.string b)) (.bool (!sLt a b)):=fun W' _=>by
 simp[go_sem,sLt]
theorem bt_idx(W:World)(s:ByteArray)(i:Nat)(h:i<s.size): RunOk Tryz.prog W (Instr.index 9 (.string s) (.int .i64 (i:Int))) (.int .u8 (bt s i:Nat)):=fun W' _=>run_bt s Tryz.underlying9 i h W'
theorem wnat1p{n:Nat}(h:n≤4611686018427387904): IntKind.i64.wrap ((n:Int)+1)=((n+1:Nat):Int):=by rw[IntWalk.i64_in _ (by omega)];omega
theorem wnat1m{n:Nat}(h:n≤4611686018427387904)(h0:0<n): IntKind.i64.wrap ((n:Int)-1)=((n-1:Nat):Int):=by rw[IntWalk.i64_in _ (by omega)];omega
section
variable {P:Program} {w0:World} {t bt':TypeId} {ti:TI} {g o:Nat} {cs:List Value}
theorem fld_bx{fs:List (Nat×Nat×Option Bool)}{j off sz:Nat}{ag:Option Bool}(hi:tiOf P t=some ti)(hk:ti.k=.struct fs)(h:nthL fs j=some (off,sz,ag))(hz:sz≠0):
 RunOk P w0 (Instr.fieldAt t (.pointer (some ⟨g,o,none⟩)) j) (.pointer (some ⟨g,o+off,none⟩)):=fun W _=>field_at hi hk h hz
theorem ld_bx1{v:Value}(hi:tiOf P t=some ti)(ha:ti.k.agg=false)(hb:Bx w0 g bt' cs.toArray)(hv:cs[o]?=some v):
 RunOk P w0 (Instr.loadAt t (.pointer (some ⟨g,o,none⟩))) v:=fun W hW=>load_one hi ha (hb.later hW) hv
theorem ld_bxa(hi:tiOf P t=some ti)(ha:ti.k.agg=true)(hb:Bx w0 g bt' cs.toArray)(hn:o+ti.size≤cs.length):
 RunOk P w0 (Instr.loadAt t (.pointer (some ⟨g,o,none⟩))) (.agg ((cs.drop o).take ti.size).toArray):=fun W hW=>load_agg hi ha (hb.later hW) hn
end
theorem bool_neq(W:World)(x y:Operand)(a b:Bool): RunOk Tryz.prog W (do eqGuard .neq 4 x y (.bool a) (.bool b);binOp .neq 4 (.bool a) (.bool b)) (.bool (a != b)):=fun W' _=>by
 simp[go_sem]
 cases a<;>cases b<;>rfl
theorem rgW{w0:World}{f:FuncId}{t:TypeId}{cs:Array Value}{args:Nat→Array Value}{R:Value}(he:Enters Tryz.prog f)(h:∀W,Below w0.heap.size w0 W→∀g,Bx W g t cs→RetAt Tryz.prog W f (args g) R): Enters Tryz.prog f∧∀W,Below w0.heap.size w0 W→∀g,Bx W g t cs→Calls Tryz.prog f (args g) W fun e w'=>e=.returned R∧Below W.heap.size W w':=⟨he,fun W hb g hx=>(h W hb g hx).at⟩
def anyB(n:Nat)(f:Nat→Bool): Bool:=(List.range n).any f
theorem anyB_no{n:Nat}{f:Nat→Bool}(h:∀j,j<n→f j=false): anyB n f=false:=by
 unfold anyB
 rw[List.any_eq_false]
 intro j hj
 rw[h j (List.mem_range.1 hj)]
 decide
theorem anyB_yes{n k:Nat}{f:Nat→Bool}(hk:k<n)(h:f k=true): anyB n f=true:=List.any_eq_true.2 ⟨k,List.mem_range.2 hk,h⟩
theorem anyB_iff{n:Nat}{f:Nat→Bool}: anyB n f=true↔∃j,j<n∧f j=true:=by
 unfold anyB
 rw[List.any_eq_true]
 exact⟨fun⟨j,h1,h2⟩=>⟨j,List.mem_range.1 h1,h2⟩,fun⟨j,h1,h2⟩=>⟨j,List.mem_range.2 h1,h2⟩⟩
theorem good_succ{f:Nat→Bool}{k:Nat}(h:∀j,j<k→f j=false)(hk:f k=false): ∀j,j<k+1→f j=false:=fun j hj=>by
 by_cases e:j=k
 ·subst e;exact hk
 ·exact h j (by omega)
open Go Go.RowKit
section
variable {w0:World} {A:Option Addr} {n c k:Nat} {f:Nat→List Value} {g:Nat} {T:TypeId} {cs:List Value}
theorem ix_Box(hr:RdK w0 A n k f){i:Nat}(h:i<n): RunOk Tryz.prog w0 (Instr.indexAt 23 (.slice A n c) (.int .i64 (i:Int))) (.pointer (some (adr A (i*6+0)))):=idx_sl (sz:=6) (ttOk 23 _ rfl) rfl (by decide) hr h
theorem ix_Simplex(hr:RdK w0 A n k f){i:Nat}(h:i<n): RunOk Tryz.prog w0 (Instr.indexAt 25 (.slice A n c) (.int .i64 (i:Int))) (.pointer (some (adr A (i*1+0)))):=idx_sl (sz:=1) (ttOk 25 _ rfl) rfl (by decide) hr h
theorem ix_Point(hr:RdK w0 A n k f){i:Nat}(h:i<n): RunOk Tryz.prog w0 (Instr.indexAt 45 (.slice A n c) (.int .i64 (i:Int))) (.pointer (some (adr A (i*3+0)))):=idx_sl (sz:=3) (ttOk 45 _ rfl) rfl (by decide) hr h
theorem ix_sNum(hr:RdK w0 A n k f){i:Nat}(h:i<n): RunOk Tryz.prog w0 (Instr.indexAt 44 (.slice A n c) (.int .i64 (i:Int))) (.pointer (some (adr A (i*3+0)))):=idx_sl (sz:=3) (ttOk 44 _ rfl) rfl (by decide) hr h
theorem ix_sPoly(hr:RdK w0 A n k f){i:Nat}(h:i<n): RunOk Tryz.prog w0 (Instr.indexAt 28 (.slice A n c) (.int .i64 (i:Int))) (.pointer (some (adr A (i*2+0)))):=idx_sl (sz:=2) (ttOk 28 _ rfl) rfl (by decide) hr h
theorem ix_sNode(hr:RdK w0 A n k f){i:Nat}(h:i<n): RunOk Tryz.prog w0 (Instr.indexAt 33 (.slice A n c) (.int .i64 (i:Int))) (.pointer (some (adr A (i*6+0)))):=idx_sl (sz:=6) (ttOk 33 _ rfl) rfl (by decide) hr h
theorem ix_sTerm(hr:RdK w0 A n k f){i:Nat}(h:i<n): RunOk Tryz.prog w0 (Instr.indexAt 46 (.slice A n c) (.int .i64 (i:Int))) (.pointer (some (adr A (i*4+0)))):=idx_sl (sz:=4) (ttOk 46 _ rfl) rfl (by decide) hr h
theorem ix_sint(hr:RdK w0 A n k f){i:Nat}(h:i<n): RunOk Tryz.prog w0 (Instr.indexAt 171 (.slice A n c) (.int .i64 (i:Int))) (.pointer (some (adr A (i*1+0)))):=idx_sl (sz:=1) (ttOk 171 _ rfl) rfl (by decide) hr h
theorem ix_suint8(hr:RdK w0 A n k f){i:Nat}(h:i<n): RunOk Tryz.prog w0 (Instr.indexAt 104 (.slice A n c) (.int .i64 (i:Int))) (.pointer (some (adr A (i*1+0)))):=idx_sl (sz:=1) (ttOk 104 _ rfl) rfl (by decide) hr h
theorem ix_ssPoly(hr:RdK w0 A n k f){i:Nat}(h:i<n): RunOk Tryz.prog w0 (Instr.indexAt 155 (.slice A n c) (.int .i64 (i:Int))) (.pointer (some (adr A (i*1+0)))):=idx_sl (sz:=1) (ttOk 155 _ rfl) rfl (by decide) hr h
theorem fa_Num_0{i o:Nat}: RunOk Tryz.prog w0 (Instr.fieldAt 32 (.pointer (some (adr A (i*k+o)))) 0) (.pointer (some (adr A (i*k+(o+0))))):=fld_sl2 (sz:=2) (ttOk 32 _ rfl) rfl rfl (by decide)
theorem fa_Num_1{i o:Nat}: RunOk Tryz.prog w0 (Instr.fieldAt 32 (.pointer (some (adr A (i*k+o)))) 1) (.pointer (some (adr A (i*k+(o+2))))):=fld_sl2 (sz:=1) (ttOk 32 _ rfl) rfl rfl (by decide)
theorem fa_Int_1{i o:Nat}: RunOk Tryz.prog w0 (Instr.fieldAt 30 (.pointer (some (adr A (i*k+o)))) 1) (.pointer (some (adr A (i*k+(o+1))))):=fld_sl2 (sz:=1) (ttOk 30 _ rfl) rfl rfl (by decide)
theorem fa_Span_0{i o:Nat}: RunOk Tryz.prog w0 (Instr.fieldAt 58 (.pointer (some (adr A (i*k+o)))) 0) (.pointer (some (adr A (i*k+(o+0))))):=fld_sl2 (sz:=3) (ttOk 58 _ rfl) rfl rfl (by decide)
theorem fa_Span_1{i o:Nat}: RunOk Tryz.prog w0 (Instr.fieldAt 58 (.pointer (some (adr A (i*k+o)))) 1) (.pointer (some (adr A (i*k+(o+3))))):=fld_sl2 (sz:=3) (ttOk 58 _ rfl) rfl rfl (by decide)
theorem fa_Term_0{i o:Nat}: RunOk Tryz.prog w0 (Instr.fieldAt 54 (.pointer (some (adr A (i*k+o)))) 0) (.pointer (some (adr A (i*k+(o+0))))):=fld_sl2 (sz:=1) (ttOk 54 _ rfl) rfl rfl (by decide)
theorem fa_Term_1{i o:Nat}: RunOk Tryz.prog w0 (Instr.fieldAt 54 (.pointer (some (adr A (i*k+o)))) 1) (.pointer (some (adr A (i*k+(o+1))))):=fld_sl2 (sz:=3) (ttOk 54 _ rfl) rfl rfl (by decide)
theorem fa_Poly_1{i o:Nat}: RunOk Tryz.prog w0 (Instr.fieldAt 48 (.pointer (some (adr A (i*k+o)))) 1) (.pointer (some (adr A (i*k+(o+1))))):=fld_sl2 (sz:=1) (ttOk 48 _ rfl) rfl rfl (by decide)
theorem fa_Node_0{i o:Nat}: RunOk Tryz.prog w0 (Instr.fieldAt 50 (.pointer (some (adr A (i*k+o)))) 0) (.pointer (some (adr A (i*k+(o+0))))):=fld_sl2 (sz:=1) (ttOk 50 _ rfl) rfl rfl (by decide)
theorem fa_Node_1{i o:Nat}: RunOk Tryz.prog w0 (Instr.fieldAt 50 (.pointer (some (adr A (i*k+o)))) 1) (.pointer (some (adr A (i*k+(o+1))))):=fld_sl2 (sz:=3) (ttOk 50 _ rfl) rfl rfl (by decide)
theorem fa_Node_2{i o:Nat}: RunOk Tryz.prog w0 (Instr.fieldAt 50 (.pointer (some (adr A (i*k+o)))) 2) (.pointer (some (adr A (i*k+(o+4))))):=fld_sl2 (sz:=2) (ttOk 50 _ rfl) rfl rfl (by decide)
theorem fb_Domain_0{o:Nat}: RunOk Tryz.prog w0 (Instr.fieldAt 27 (.pointer (some ⟨g,o,none⟩)) 0) (.pointer (some ⟨g,o+0,none⟩)):=fld_bx (sz:=1) (ttOk 27 _ rfl) rfl rfl (by decide)
theorem fb_Domain_1{o:Nat}: RunOk Tryz.prog w0 (Instr.fieldAt 27 (.pointer (some ⟨g,o,none⟩)) 1) (.pointer (some ⟨g,o+1,none⟩)):=fld_bx (sz:=1) (ttOk 27 _ rfl) rfl rfl (by decide)
theorem fb_Problem_1{o:Nat}: RunOk Tryz.prog w0 (Instr.fieldAt 35 (.pointer (some ⟨g,o,none⟩)) 1) (.pointer (some ⟨g,o+1,none⟩)):=fld_bx (sz:=1) (ttOk 35 _ rfl) rfl rfl (by decide)
theorem fb_Problem_2{o:Nat}: RunOk Tryz.prog w0 (Instr.fieldAt 35 (.pointer (some ⟨g,o,none⟩)) 2) (.pointer (some ⟨g,o+2,none⟩)):=fld_bx (sz:=2) (ttOk 35 _ rfl) rfl rfl (by decide)
theorem fb_Problem_3{o:Nat}: RunOk Tryz.prog w0 (Instr.fieldAt 35 (.pointer (some ⟨g,o,none⟩)) 3) (.pointer (some ⟨g,o+4,none⟩)):=fld_bx (sz:=1) (ttOk 35 _ rfl) rfl rfl (by decide)
theorem fb_Problem_4{o:Nat}: RunOk Tryz.prog w0 (Instr.fieldAt 35 (.pointer (some ⟨g,o,none⟩)) 4) (.pointer (some ⟨g,o+5,none⟩)):=fld_bx (sz:=1) (ttOk 35 _ rfl) rfl rfl (by decide)
theorem fb_Problem_5{o:Nat}: RunOk Tryz.prog w0 (Instr.fieldAt 35 (.pointer (some ⟨g,o,none⟩)) 5) (.pointer (some ⟨g,o+6,none⟩)):=fld_bx (sz:=3) (ttOk 35 _ rfl) rfl rfl (by decide)
theorem fb_Problem_6{o:Nat}: RunOk Tryz.prog w0 (Instr.fieldAt 35 (.pointer (some ⟨g,o,none⟩)) 6) (.pointer (some ⟨g,o+9,none⟩)):=fld_bx (sz:=3) (ttOk 35 _ rfl) rfl rfl (by decide)
theorem fb_Problem_8{o:Nat}: RunOk Tryz.prog w0 (Instr.fieldAt 35 (.pointer (some ⟨g,o,none⟩)) 8) (.pointer (some ⟨g,o+13,none⟩)):=fld_bx (sz:=1) (ttOk 35 _ rfl) rfl rfl (by decide)
theorem la_Num(hr:RdK w0 A n k f){i o:Nat}(hin:i<n)(ho:o+3≤k){l:List Value}(hl:l.length=3)(hv:((f i).drop o).take 3=l): RunOk Tryz.prog w0 (Instr.loadAt 32 (.pointer (some (adr A (i*k+o))))) (.agg l.toArray):=ld_agg (ttOk 32 _ rfl) rfl hr hin hl ho hv
theorem lb_Num{o:Nat}(hb:Bx w0 g T cs.toArray)(hn:o+3≤cs.length): RunOk Tryz.prog w0 (Instr.loadAt 32 (.pointer (some ⟨g,o,none⟩))) (.agg ((cs.drop o).take 3).toArray):=ld_bxa (ttOk 32 _ rfl) rfl hb hn
theorem la_Span(hr:RdK w0 A n k f){i o:Nat}(hin:i<n)(ho:o+6≤k){l:List Value}(hl:l.length=6)(hv:((f i).drop o).take 6=l): RunOk Tryz.prog w0 (Instr.loadAt 58 (.pointer (some (adr A (i*k+o))))) (.agg l.toArray):=ld_agg (ttOk 58 _ rfl) rfl hr hin hl ho hv
theorem la_Term(hr:RdK w0 A n k f){i o:Nat}(hin:i<n)(ho:o+4≤k){l:List Value}(hl:l.length=4)(hv:((f i).drop o).take 4=l): RunOk Tryz.prog w0 (Instr.loadAt 54 (.pointer (some (adr A (i*k+o))))) (.agg l.toArray):=ld_agg (ttOk 54 _ rfl) rfl hr hin hl ho hv
theorem la_Poly(hr:RdK w0 A n k f){i o:Nat}(hin:i<n)(ho:o+2≤k){l:List Value}(hl:l.length=2)(hv:((f i).drop o).take 2=l): RunOk Tryz.prog w0 (Instr.loadAt 48 (.pointer (some (adr A (i*k+o))))) (.agg l.toArray):=ld_agg (ttOk 48 _ rfl) rfl hr hin hl ho hv
theorem la_Node(hr:RdK w0 A n k f){i o:Nat}(hin:i<n)(ho:o+6≤k){l:List Value}(hl:l.length=6)(hv:((f i).drop o).take 6=l): RunOk Tryz.prog w0 (Instr.loadAt 50 (.pointer (some (adr A (i*k+o))))) (.agg l.toArray):=ld_agg (ttOk 50 _ rfl) rfl hr hin hl ho hv
theorem lb_Box{o:Nat}(hb:Bx w0 g T cs.toArray){v:Value}(hv:cs[o]?=some v): RunOk Tryz.prog w0 (Instr.loadAt 23 (.pointer (some ⟨g,o,none⟩))) v:=ld_bx1 (ttOk 23 _ rfl) rfl hb hv
theorem lb_Simplex{o:Nat}(hb:Bx w0 g T cs.toArray){v:Value}(hv:cs[o]?=some v): RunOk Tryz.prog w0 (Instr.loadAt 25 (.pointer (some ⟨g,o,none⟩))) v:=ld_bx1 (ttOk 25 _ rfl) rfl hb hv
theorem la_Point(hr:RdK w0 A n k f){i o:Nat}(hin:i<n)(ho:o<k){v:Value}(hv:(f i)[o]?=some v): RunOk Tryz.prog w0 (Instr.loadAt 45 (.pointer (some (adr A (i*k+o))))) v:=ld_one (ttOk 45 _ rfl) rfl hr hin ho hv
theorem la_sPoly(hr:RdK w0 A n k f){i o:Nat}(hin:i<n)(ho:o<k){v:Value}(hv:(f i)[o]?=some v): RunOk Tryz.prog w0 (Instr.loadAt 28 (.pointer (some (adr A (i*k+o))))) v:=ld_one (ttOk 28 _ rfl) rfl hr hin ho hv
theorem lb_sPoly{o:Nat}(hb:Bx w0 g T cs.toArray){v:Value}(hv:cs[o]?=some v): RunOk Tryz.prog w0 (Instr.loadAt 28 (.pointer (some ⟨g,o,none⟩))) v:=ld_bx1 (ttOk 28 _ rfl) rfl hb hv
theorem lb_sNode{o:Nat}(hb:Bx w0 g T cs.toArray){v:Value}(hv:cs[o]?=some v): RunOk Tryz.prog w0 (Instr.loadAt 33 (.pointer (some ⟨g,o,none⟩))) v:=ld_bx1 (ttOk 33 _ rfl) rfl hb hv
theorem la_sTerm(hr:RdK w0 A n k f){i o:Nat}(hin:i<n)(ho:o<k){v:Value}(hv:(f i)[o]?=some v): RunOk Tryz.prog w0 (Instr.loadAt 46 (.pointer (some (adr A (i*k+o))))) v:=ld_one (ttOk 46 _ rfl) rfl hr hin ho hv
theorem la_int(hr:RdK w0 A n k f){i o:Nat}(hin:i<n)(ho:o<k){v:Value}(hv:(f i)[o]?=some v): RunOk Tryz.prog w0 (Instr.loadAt 3 (.pointer (some (adr A (i*k+o))))) v:=ld_one (ttOk 3 _ rfl) rfl hr hin ho hv
theorem lb_int{o:Nat}(hb:Bx w0 g T cs.toArray){v:Value}(hv:cs[o]?=some v): RunOk Tryz.prog w0 (Instr.loadAt 3 (.pointer (some ⟨g,o,none⟩))) v:=ld_bx1 (ttOk 3 _ rfl) rfl hb hv
theorem la_string(hr:RdK w0 A n k f){i o:Nat}(hin:i<n)(ho:o<k){v:Value}(hv:(f i)[o]?=some v): RunOk Tryz.prog w0 (Instr.loadAt 9 (.pointer (some (adr A (i*k+o))))) v:=ld_one (ttOk 9 _ rfl) rfl hr hin ho hv
theorem la_uint8(hr:RdK w0 A n k f){i o:Nat}(hin:i<n)(ho:o<k){v:Value}(hv:(f i)[o]?=some v): RunOk Tryz.prog w0 (Instr.loadAt 5 (.pointer (some (adr A (i*k+o))))) v:=ld_one (ttOk 5 _ rfl) rfl hr hin ho hv
end
open Go Go.RowKit
def nv(x:Nm): Dyadic:=dy (ival x.b (sval x.s)) x.e
def sg(x:Nm): Int:=dsgn (nv x)
def isFm(x:Nm): Bool:=(neg (dm (nv x))==x.b&&(mag (dm (nv x))).toList==x.s.toList)&&de (nv x)==x.e
structure okN (x:Nm):Prop where
 sz:x.s.size≤20
 lo:-200≤x.e
 hi:x.e≤200
def tmD:Tm:=⟨⟨#[]⟩,nm0⟩
def pyD:Py:=⟨0,[]⟩
def ndD:Nd:=⟨0,nm0,pyD⟩
def tmAt(l:List Tm)(k:Nat): Tm:=l.getD k tmD
def nmAt(l:List Nm)(k:Nat): Nm:=l.getD k nm0
def spAt(l:List (Nm×Nm))(k:Nat): Nm×Nm:=l.getD k (nm0,nm0)
def ptAt(l:List (List Nm))(k:Nat): List Nm:=l.getD k []
def pyAt(l:List Py)(k:Nat): Py:=l.getD k pyD
def ndAt(l:List Nd)(k:Nat): Nd:=l.getD k ndD
def mayB(m:ByteArray)(vars:Int): Bool:=bif anyB m.size (fun j=>decide ((bt m j:Int)>127))then false else((m.size:Int)==vars)
def badT(vars:Int)(l:List Tm)(k:Nat): Bool:=((!mayB (tmAt l k).m vars||sg (tmAt l k).c==0)||!isFm (tmAt l k).c)||(decide ((k:Int)>0)&&!sLt (tmAt l (k-1)).m (tmAt l k).m)
def chkPy(p:Py): Int:=if 0≤p.vars∧p.vars≤12 then(if 4096<p.ts.length then 3 else if anyB p.ts.length (badT p.vars p.ts)then 1 else 0)else 1
theorem tmAt_mem{l:List Tm}{k:Nat}(h:k<l.length): tmAt l k∈l:=by
 unfold tmAt
 rw[List.getD,List.getElem?_eq_getElem h]
 exact List.getElem_mem h
theorem spAt_mem{l:List (Nm×Nm)}{k:Nat}(h:k<l.length): spAt l k∈l:=by
 unfold spAt
 rw[List.getD,List.getElem?_eq_getElem h]
 exact List.getElem_mem h
theorem pyAt_mem{l:List Py}{k:Nat}(h:k<l.length): pyAt l k∈l:=by
 unfold pyAt
 rw[List.getD,List.getElem?_eq_getElem h]
 exact List.getElem_mem h
theorem ndAt_mem{l:List Nd}{k:Nat}(h:k<l.length): ndAt l k∈l:=by
 unfold ndAt
 rw[List.getD,List.getElem?_eq_getElem h]
 exact List.getElem_mem h
theorem ptAt_mem{l:List (List Nm)}{k:Nat}(h:k<l.length): ptAt l k∈l:=by
 unfold ptAt
 rw[List.getD,List.getElem?_eq_getElem h]
 exact List.getElem_mem h
theorem SlV.rd{α:Type}{lo k:Nat}{p:Rdg α}{w:World}{l:List α}{v:Value}(h:SlV lo k p w l v):
  ∃A c f,v=.slice A l.length c∧l.length≤c∧(A=none→l.length=0∧c=0)∧RdK w A l.length k f∧∀i (hi:i<l.length),(f i).length=k∧p w l[i] (f i):=by
 obtain⟨A,c,h1,h2,h3,h4⟩:=h
 by_cases h0:0<l.length
 ·obtain⟨b,off,e,_,hc⟩:=h4 h0
  have key:∀i,∃cs:List Value,∀(hi:i<l.length),cs.length=k∧p w l[i] cs∧∀j,j<k→w.cell? ⟨b,off+i*k+j,none⟩=cs[j]?:=fun i=>by
   by_cases hi:i<l.length
   ·obtain⟨cs,a1,a2,a3⟩:=hc i hi
    exact⟨cs,fun _=>⟨a1,a2,a3⟩⟩
   ·exact⟨[],fun h=>absurd h hi⟩
  refine⟨A,c,fun i=>Classical.choose (key i),h1,h2,h3,fun _=>⟨b,off,e,fun j hj i hi=>(Classical.choose_spec (key j) hj).2.2 i hi⟩,fun i hi=>⟨(Classical.choose_spec (key i) hi).1,(Classical.choose_spec (key i) hi).2.1⟩⟩
 ·exact⟨A,c,fun _=>[],h1,h2,h3,fun h=>absurd h h0,fun i hi=>absurd hi (by omega)⟩
theorem RdK.congr{w:World}{A:Option Addr}{n k:Nat}{f g:Nat→List Value}(h:RdK w A n k f)(hf:∀j,j<n→f j=g j): RdK w A n k g:=fun h0=>by
 obtain⟨b,off,e,hc⟩:=h h0
 exact⟨b,off,e,fun j hj i hi=>by rw[← hf j hj];exact hc j hj i hi⟩
theorem getD_at{α:Type}{l:List α}{k:Nat}{d:α}(h:k<l.length): l.getD k d=l[k]:=by rw[List.getD,List.getElem?_eq_getElem h];rfl
theorem SlV.enc{α:Type}{lo k:Nat}{enc:α→List Value}{w:World}{l:List α}{v:Value}(d:α)(h:SlV lo k (fun _ x cs=>cs=enc x) w l v):
  ∃A c,v=.slice A l.length c∧l.length≤c∧(A=none→l.length=0∧c=0)∧RdK w A l.length k (fun j=>enc (l.getD j d)):=by
 obtain⟨A,c,f,h1,h2,h3,h4,h5⟩:=h.rd
 exact⟨A,c,h1,h2,h3,h4.congr fun j hj=>by rw[(h5 j hj).2,getD_at hj]⟩
theorem SlV.rdPy{lo:Nat}{w:World}{l:List Py}{v:Value}(h:SlV lo 2 (pyR lo) w l v):
  ∃(A:Option Addr) (c:Nat) (vs:Nat→Value),v=.slice A l.length c∧l.length≤c∧(A=none→l.length=0∧c=0)∧RdK w A l.length 2 (fun j=>[.int .i64 (pyAt l j).vars,vs j])∧∀j,j<l.length→SlV lo 4 tmR w (pyAt l j).ts (vs j):=by
 obtain⟨A,c,f,h1,h2,h3,h4,h5⟩:=h.rd
 have key:∀i,∃u:Value,i<l.length→f i=[.int .i64 (pyAt l i).vars,u]∧SlV lo 4 tmR w (pyAt l i).ts u:=fun i=>by
  by_cases hi:i<l.length
  ·obtain⟨_,u,e1,e2⟩:=h5 i hi
   unfold pyAt
   rw[getD_at hi]
   exact⟨u,fun _=>⟨e1,e2⟩⟩
  ·exact⟨undef,fun h=>absurd h hi⟩
 exact⟨A,c,fun i=>Classical.choose (key i),h1,h2,h3,h4.congr fun j hj=>(Classical.choose_spec (key j) hj).1,fun j hj=>(Classical.choose_spec (key j) hj).2⟩
theorem SlV.rdNd{lo:Nat}{w:World}{l:List Nd}{v:Value}(h:SlV lo 6 (ndR lo) w l v):
  ∃(A:Option Addr) (c:Nat) (vs:Nat→Value),v=.slice A l.length c∧l.length≤c∧(A=none→l.length=0∧c=0)∧RdK w A l.length 6 (fun j=>[.int .i64 (ndAt l j).split,.bool (ndAt l j).scale.b,.string (ndAt l j).scale.s,.int .i64 (ndAt l j).scale.e,.int .i64 (ndAt l j).sum.vars,vs j])∧∀j,j<l.length→SlV lo 4 tmR w (ndAt l j).sum.ts (vs j):=by
 obtain⟨A,c,f,h1,h2,h3,h4,h5⟩:=h.rd
 have key:∀i,∃u:Value,i<l.length→f i=[.int .i64 (ndAt l i).split,.bool (ndAt l i).scale.b,.string (ndAt l i).scale.s,.int .i64 (ndAt l i).scale.e,.int .i64 (ndAt l i).sum.vars,u]∧SlV lo 4 tmR w (ndAt l i).sum.ts u:=fun i=>by
  by_cases hi:i<l.length
  ·obtain⟨_,u,e1,e2⟩:=h5 i hi
   unfold ndAt
   rw[getD_at hi]
   exact⟨u,fun _=>⟨e1,e2⟩⟩
  ·exact⟨undef,fun h=>absurd h hi⟩
 exact⟨A,c,fun i=>Classical.choose (key i),h1,h2,h3,h4.congr fun j hj=>(Classical.choose_spec (key j) hj).1,fun j hj=>(Classical.choose_spec (key j) hj).2⟩
theorem SlV.rdPt{lo:Nat}{w:World}{l:List (List Nm)}{v:Value}(h:SlV lo 1 (ptR lo) w l v):
  ∃(A:Option Addr) (c:Nat) (vs:Nat→Value),v=.slice A l.length c∧l.length≤c∧(A=none→l.length=0∧c=0)∧RdK w A l.length 1 (fun j=>[vs j])∧∀j,j<l.length→SlV lo 3 nmR w (ptAt l j) (vs j):=by
 obtain⟨A,c,f,h1,h2,h3,h4,h5⟩:=h.rd
 have key:∀i,∃u:Value,i<l.length→f i=[u]∧SlV lo 3 nmR w (ptAt l i) u:=fun i=>by
  by_cases hi:i<l.length
  ·obtain⟨_,u,e1,e2⟩:=h5 i hi
   unfold ptAt
   rw[getD_at hi]
   exact⟨u,fun _=>⟨e1,e2⟩⟩
  ·exact⟨undef,fun h=>absurd h hi⟩
 exact⟨A,c,fun i=>Classical.choose (key i),h1,h2,h3,h4.congr fun j hj=>(Classical.choose_spec (key j) hj).1,fun j hj=>(Classical.choose_spec (key j) hj).2⟩
def flatB(l:List (Nm×Nm))(k:Nat): Bool:=decide (dsgn (nv (spAt l k).1-nv (spAt l k).2)≥0)
def chkBx(l:List (Nm×Nm)): Int:=if anyB l.length (flatB l)then 5 else if l.length=0 then 1 else 0
def idxB(n:Nat)(f:Nat→Bool): Int:=match (List.range n).find? f with|some k=>(k:Int)|none=>-1
theorem idxB_yes{n k:Nat}{f:Nat→Bool}(h:∀j,j<k→f j=false)(hk:k<n)(hb:f k=true): idxB n f=(k:Int):=by
 have h1:(List.range n).find? f=some k:=by
  rw[List.find?_range_eq_some]
  exact⟨hb,List.mem_range.2 hk,fun j hj=>by rw[h j hj];rfl⟩
 unfold idxB
 rw[h1]
theorem idxB_no{n:Nat}{f:Nat→Bool}(h:∀j,j<n→f j=false): idxB n f=-1:=by
 have h1:(List.range n).find? f=none:=by
  rw[List.find?_eq_none]
  intro j hj
  rw[h j (List.mem_range.1 hj)]
  decide
 unfold idxB
 rw[h1]
theorem idxB_any(n:Nat)(f:Nat→Bool): decide (idxB n f≥0)=anyB n f:=by
 by_cases h:∃j,j<n∧f j=true
 ·rw[anyB_iff.2 h]
  have h1:∃k,(List.range n).find? f=some k:=by
   rw[← Option.isSome_iff_exists,List.find?_isSome]
   obtain⟨j,a,b⟩:=h
   exact⟨j,List.mem_range.2 a,b⟩
  obtain⟨k,hk⟩:=h1
  unfold idxB
  rw[hk]
  simp
 ·have h1:∀j,j<n→f j=false:=fun j hj=>by
   cases e:f j with
   | false=>rfl
   | true=>exact absurd ⟨j,hj,e⟩ h
  rw[idxB_no h1,anyB_no h1]
  decide
structure okP (p:Py):Prop where
 len:p.ts.length≤4294967296
 tms:∀t,t∈p.ts→t.m.size≤1048576∧okN t.c
def wrongB(many:Int)(p:Py): Bool:=chkPy p != 0||p.vars != many
def otherB(many:Int)(x:List Nm): Bool:=(x.length:Int) != many
def n0B(x:Nm): Bool:=(x.b==false&&x.s.toList==(⟨#[]⟩:ByteArray).toList)&&x.e==0
def nodeB(many:Int)(x:Nd): Bool:=if(x.split != 0)=true then((x.split != 1||!n0B x.scale)||x.sum.vars != 0)||decide ((x.sum.ts.length:Int)>0)else chkPy x.sum != 0||x.sum.vars != many
def polysN(kind vars:Int): Int:=if kind<1∨7≤kind∨vars<1 then 0 else if kind=5 then vars else if kind=2 then 2 else 1
def abv(x:Nm): Bool:=decide (sg x>0)
def toldB(s r c:Bool)(eps delta:Nm)(nr:Nat)(budget:Int)(nc:Nat): Bool :=
 bif (s != abv eps)||(!s&&!n0B eps)then false else
 bif (r != abv delta)||(!r&&(!n0B delta||decide ((nr:Int)>0)))then false else
 bif (s&&decide (budget<1))||(!s&&budget != 0)then false else
 c==decide ((nc:Int)>0)
def linesN(nb ns:Nat): Int:=bif decide ((nb:Int)>0)then 2*(nb:Int)else(ns:Int)
def fitsB(nb:Nat)(pts:List (List Nm))(vars:Int)(wants:Bool): Bool :=
 bif decide ((nb:Int)>0)||wants then((nb:Int)==vars)&&((pts.length:Int)==0)else((pts.length:Int)==vars+1)&&!anyB pts.length fun j=>otherB vars (ptAt pts j)
