/- The walks and plain laws beneath the statements. -/
import Derived.Test.YtaelfkdjlioegaaGreatDoorQO45
import Derived.Test.YtaelfkdjlioegaaGreatDoorQO46
import Derived.Test.YtaelfkdjlioegaaGreatDoorQO47
namespace Go.Proofs.YtaelfkdjlioegaaGreatDoor
set_option maxRecDepth 100000
open Go Go.RowKit
theorem rown_v{x:PV}{lo:Nat}{Ab As Ap Ar Ac:Option Addr}{cb cs kp kr cc:Nat}(hx:smallX x)(w:World)(hF:Five lo w x (.slice Ab x.box.length cb) (.slice As x.pts.length cs) (.slice Ap x.ps.length kp) (.slice Ar x.rules.length kr) (.slice Ac x.cert.length cc)): NewIn Tryz.prog w [] 9 #[.agg #[.int .i64 x.kind,.int .i64 x.vars,.slice Ab x.box.length cb,.slice As x.pts.length cs,.slice Ap x.ps.length kp,.slice Ar x.rules.length kr,.bool x.eps.b,.string x.eps.s,.int .i64 x.eps.e,.bool x.delta.b,.string x.delta.s,.int .i64 x.delta.e,.int .i64 x.budget,.slice Ac x.cert.length cc]] (fun y:Hp5=>.agg #[.int .i64 x.kind,.int .i64 x.vars,.slice y.1.1 x.box.length y.1.2,.slice y.2.1.1 x.pts.length y.2.1.2,.slice y.2.2.1.1 x.ps.length y.2.2.1.2,.slice y.2.2.2.1.1 x.rules.length y.2.2.2.1.2,.bool x.eps.b,.string x.eps.s,.int .i64 x.eps.e,.bool x.delta.b,.string x.delta.s,.int .i64 x.delta.e,.int .i64 x.budget,.slice y.2.2.2.2.1 x.cert.length y.2.2.2.2.2]) (fun y:Hp5=>fivR x y):=by
 obtain⟨p1,l1,l2,nd,h⟩:=five_own hx w hF
 have k:=rown_n (Ab:=Ab) (As:=As) (Ap:=Ap) (Ar:=Ar) (Ac:=Ac) (cb:=cb) (cs:=cs) (kp:=kp) (kr:=kr) (cc:=cc) (kind:=x.kind) (vars:=x.vars) (budget:=x.budget) (eps:=x.eps) (delta:=x.delta) (bx:=x.box) (p1:=p1) (l1:=l1) (l2:=l2) (nd:=nd) hx.box h.bs h.bp h.bq h.bt h.bu h.bv h.bc h.bn w h.hb h.hs h.hp h.hq h.hqs h.hu h.hus h.hc h.hcs
 simp only[h.e0,h.e1,h.e2,h.e3,h.m0,h.m1,h.m2,h.m3]at k
 exact k
theorem fiv_new{β:Type}{x:PV}{y:Hp5}{f:FuncId}{args:Array Value}{val:β→Value}{R:β→Res}{W:World}(he:Enters Tryz.prog f)(h:∀W' lo,Below W.heap.size W W'→Five lo W' x (.slice y.1.1 x.box.length y.1.2) (.slice y.2.1.1 x.pts.length y.2.1.2) (.slice y.2.2.1.1 x.ps.length y.2.2.1.2) (.slice y.2.2.2.1.1 x.rules.length y.2.2.2.1.2) (.slice y.2.2.2.2.1 x.cert.length y.2.2.2.2.2)→NewIn Tryz.prog W' [] f args val R): NewIn Tryz.prog W [fivR x y] f args val R:=⟨he,fun W' hW' v S hφ=>by
 obtain⟨lo,hF⟩:=fiv_five hφ
 exact(h W' lo hW' hF).2 W' (Below.refl _ _)⟩
theorem fam_ret{x:PV}{y:Hp5}{f:FuncId}{args:Array Value}{R:Value}{W:World}(he:Enters Tryz.prog f)(h:∀W' lo,Below W.heap.size W W'→Five lo W' x (.slice y.1.1 x.box.length y.1.2) (.slice y.2.1.1 x.pts.length y.2.1.2) (.slice y.2.2.1.1 x.ps.length y.2.2.1.2) (.slice y.2.2.2.1.1 x.rules.length y.2.2.2.1.2) (.slice y.2.2.2.2.1 x.cert.length y.2.2.2.2.2)→RetAt Tryz.prog W' f args R): RetIn Tryz.prog W [famX x y] f args R:=⟨he,fun W' hW' v S hφ=>by
 obtain⟨lo,hF⟩:=fiv_five (fam_fiv hφ)
 exact(h W' lo hW' hF).at⟩
open Go Go.RowKit
theorem short_of{x:PV}(hx:smallX x): shortP x :=
 ⟨Nat.le_trans hx.box (by decide),Nat.le_trans hx.pts (by decide),Nat.le_trans hx.ps (by decide),Nat.le_trans hx.rules (by decide),Nat.le_trans hx.cert (by decide),fun p h=>Nat.le_trans (hx.pt p h) (by decide),fun p h=>Nat.le_trans (hx.p p h) (by decide),fun p h=>Nat.le_trans (hx.rule p h) (by decide),fun p h=>Nat.le_trans (hx.node p h) (by decide)⟩
theorem SlV.take{α:Type}{lo k:Nat}{p:Rdg α}{w:World}{l:List α}{A:Option Addr}{n c m:Nat}(h:SlV lo k p w l (.slice A n c))(hm:m≤l.length): SlV lo k p w (l.take m) (.slice A (l.take m).length c):=by
 obtain⟨A',c',e,h2,h3,h4⟩:=h
 obtain⟨rfl,rfl,rfl⟩:=sl_eq e
 have hl:(l.take m).length=m:=by rw[List.length_take];omega
 refine⟨A,c,rfl,by omega,fun hA=>?_,fun h0=>?_⟩
 ·have:=h3 hA
  omega
 ·obtain⟨b,off,e,hlo,hc⟩:=h4 (by omega)
  refine⟨b,off,e,hlo,fun i hi=>?_⟩
  obtain⟨cs,k1,k2,k3⟩:=hc i (by omega)
  refine⟨cs,k1,?_,k3⟩
  rw[List.getElem_take]
  exact k2
open Go Go.RowKit
theorem fiv_ret{x:PV}{y:Hp5}{f:FuncId}{args:Array Value}{R:Value}{W:World}(he:Enters Tryz.prog f)(h:∀W' lo,Below W.heap.size W W'→Five lo W' x (.slice y.1.1 x.box.length y.1.2) (.slice y.2.1.1 x.pts.length y.2.1.2) (.slice y.2.2.1.1 x.ps.length y.2.2.1.2) (.slice y.2.2.2.1.1 x.rules.length y.2.2.2.1.2) (.slice y.2.2.2.2.1 x.cert.length y.2.2.2.2.2)→RetAt Tryz.prog W' f args R): RetIn Tryz.prog W [fivR x y] f args R:=⟨he,fun W' hW' v S hφ=>by
 obtain⟨lo,hF⟩:=fiv_five hφ
 exact(h W' lo hW' hF).at⟩
open Go.RowKit Go.WideShapes Go.ChangeShapes Go.Deep
section
variable {H:Type} {enc:TypeId×Value→H} {w:World} {base:Nat} {spare:Nat→Bool} {held:Bool}
theorem cells_Num:Tryz.prog.cellsOf 32=3:=by kernel_rfl
theorem cells_bool:Tryz.prog.cellsOf 4=1:=by kernel_rfl
theorem cells_string:Tryz.prog.cellsOf 9=1:=by kernel_rfl
theorem cells_int:Tryz.prog.cellsOf 3=1:=by kernel_rfl
theorem list2{α:Type}{l:List α}(h:l.length=2): ∃a b,l=[a,b]:=by
 match l,h with | [a,b],_=>exact⟨a,b,rfl⟩
theorem list3{α:Type}{l:List α}(h:l.length=3): ∃a b c,l=[a,b,c]:=by
 match l,h with | [a,b,c],_=>exact⟨a,b,c,rfl⟩
theorem trod_Int{fuel:Nat}{cs:List Value}{x:DataW H×List MemPlace}(h:DataW.trod enc Tryz.prog w base spare held fuel 30 cs=some x): ∃(b:Bool) (s:ByteArray),cs=[.bool b,.string s]∧s.size≤maxLen:=by
 obtain⟨y0,y1,n,_,hl,h0,h1⟩:=trod_struct2 Tryz.underlying30 h
 rw[cells_Int]at hl
 obtain⟨c0,c1,rfl⟩:=list2 hl
 dsimp only at h0 h1
 rw[cells_bool]at h0
 rw[cells_string]at h1
 obtain⟨b,hb,_⟩:=DataW.trod_bool Tryz.underlying4 h0
 obtain⟨s,hs,_,hz⟩:=DataW.trod_string Tryz.underlying9 h1
 simp at hb hs
 subst hb hs
 exact⟨b,s,rfl,hz⟩
theorem trod_Num{fuel:Nat}{cs:List Value}{x:DataW H×List MemPlace}(h:DataW.trod enc Tryz.prog w base spare held fuel 32 cs=some x): ∃(b:Bool) (s:ByteArray) (e:Int),cs=[.bool b,.string s,.int .i64 e]∧s.size≤maxLen:=by
 obtain⟨y0,y1,n,_,hl,h0,h1⟩:=trod_struct2 Tryz.underlying32 h
 rw[cells_Num]at hl
 obtain⟨c0,c1,c2,rfl⟩:=list3 hl
 dsimp only at h0 h1
 rw[cells_Int]at h0
 rw[cells_int]at h1
 obtain⟨b,s,hb,hz⟩:=trod_Int h0
 obtain⟨e,he,_⟩:=DataW.trod_int Tryz.underlying3 h1
 simp at hb he
 obtain⟨rfl,rfl⟩:=hb
 subst he
 exact⟨b,s,e,rfl,hz⟩
end
