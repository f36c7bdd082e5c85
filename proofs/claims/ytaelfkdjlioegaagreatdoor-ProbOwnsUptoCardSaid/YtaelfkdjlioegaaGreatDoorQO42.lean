/- The walks and plain laws beneath the statements. -/
import Derived.Test.YtaelfkdjlioegaaGreatDoorQO41
import Derived.Test.YtaelfkdjlioegaaGreatDoorQO36
import Derived.RegionTactic
import Derived.Test.YtaelfkdjlioegaaGreatDoorQO37
namespace Go.Proofs.YtaelfkdjlioegaaGreatDoor
set_option maxRecDepth 100000
open Go Go.RowKit
abbrev PtS:Type:=List Nm×Option Addr×Nat
def ptS(x:PtS): List Value:=[.slice x.2.1 x.1.length x.2.2]
theorem ptS_len(x:PtS): (ptS x).length=1:=rfl
theorem ptS_one(x:PtS)(u:Value)(h:u∈ptS x): u.oneCell'=true:=by
 simp only[ptS,List.mem_cons,List.not_mem_nil,or_false]at h
 subst h
 rfl
def pts0:PtS:=([],none,0)
abbrev NdS:Type:=Nd×Option Addr×Nat
def ndS(x:NdS): List Value:=[.int .i64 x.1.split,.bool x.1.scale.b,.string x.1.scale.s,.int .i64 x.1.scale.e,.int .i64 x.1.sum.vars,.slice x.2.1 x.1.sum.ts.length x.2.2]
theorem ndS_len(x:NdS): (ndS x).length=6:=rfl
theorem ndS_one(x:NdS)(u:Value)(h:u∈ndS x): u.oneCell'=true:=by
 simp only[ndS,List.mem_cons,List.not_mem_nil,or_false]at h
 rcases h with rfl|rfl|rfl|rfl|rfl|rfl<;>rfl
def nds0:NdS:=(ndD,none,0)
def Rw{α:Type}(w:World)(k:Nat)(c:α→List Value)(d:α)(l:List α)(A:Option Addr)(cp:Nat): Prop:=RdK w A l.length k (fun j=>c (l.getD j d))∧(A=none→l.length=0∧cp=0)
theorem Rw.below{α:Type}{w w':World}{k:Nat}{c:α→List Value}{d:α}{l:List α}{A:Option Addr}{cp:Nat}(hc:∀x,(c x).length=k)(h:Rw w k c d l A cp)(hb:Below w.heap.size w w'): Rw w' k c d l A cp:=⟨h.1.below (fun _=>hc _) hb,h.2⟩
section
variable {P:Program} {w0:World}
theorem new_as{β:Type}{tt:List (Nat×TI)}(hT:TTOk P tt)(hm:P.follows .mixedOrders=true){f:FuncId}{fn:Func}(he:Enters P f)(hf:P.funcs[f]?=some fn){N:Nat}(hn:fn.ntmps=N){rs:Array ResultVar}(hr:fn.results=rs)(args:List Value)(hl:Nat.ble args.length N=true)(val:β→Value)(ρ:β→Res)(E:SV→St→Prop)(d:List Dir){T:World→Prop}(h:∀W,Below w0.heap.size w0 W→T W)(hk:∀W,T W=bodyX P tt W fn (st0 N args) d fun e σ _=>finK tt rs.toList e σ fun s=>E s σ)(hE:∀W s σ,E s σ→∀r a w',Sat W σ r a w'→∃y x S,s.den r=val y∧(ρ y).φ x S w'∧∀b,S b→W.heap.size≤b∧b<w'.heap.size): NewIn P w0 [] f args.toArray val ρ:=by
 refine⟨he,fun W hW=>?_⟩
 have h2:=new_sk (w0:=W) (Z:=fun v w'=>∃y x S,v=val y∧(ρ y).φ x S w'∧∀b,S b→W.heap.size≤b∧b<w'.heap.size) hT hm hf hn hr args hl d (h W hW) (hk W) (hE W)
 refine h2.mono fun e w' hh=>?_
 obtain⟨v,rfl,⟨y,x,S,rfl,k1,k2⟩,k3⟩:=hh
 exact⟨y,x,S,rfl,k1,k2,k3⟩
end
theorem cell_congr{w w':World}{a:Addr}{u:Value}(h:w'.heap[a.block]?=w.heap[a.block]?)(hc:w.cell? a=some u): w'.cell? a=some u:=by
 unfold World.cell? at hc ⊢
 rw[h]
 exact hc
theorem cell_ltS{w:World}{a:Addr}{u:Value}(hc:w.cell? a=some u): a.block<w.heap.size:=by
 rcases Nat.lt_or_ge a.block w.heap.size with h|h
 ·exact h
 ·unfold World.cell? at hc
  rw[Array.getElem?_eq_none h]at hc
  cases hc
theorem SlV.frz{α:Type}{lo k:Nat}{p:Rdg α}{w w':World}{l:List α}{v:Value}(hb:∀b,lo≤b→b<w.heap.size→w'.heap[b]?=w.heap[b]?)(hp:∀x cs,p w x cs→p w' x cs)(h:SlV lo k p w l v): SlV lo k p w' l v:=by
 obtain⟨A,c,h1,h2,h3,h4⟩:=h
 refine⟨A,c,h1,h2,h3,fun h0=>?_⟩
 obtain⟨b,off,e,hlo,hc⟩:=h4 h0
 refine⟨b,off,e,hlo,fun i hi=>?_⟩
 obtain⟨cs,hk,hx,hj⟩:=hc i hi
 refine⟨cs,hk,hp _ _ hx,fun j hjk=>?_⟩
 have h5:=hj j hjk
 obtain⟨u,hu⟩:∃u,cs[j]?=some u:=⟨_,List.getElem?_eq_getElem (by rw[hk];exact hjk)⟩
 rw[hu]at h5 ⊢
 exact cell_congr (hb b hlo (cell_ltS h5)) h5
theorem Five.frz{lo:Nat}{w w':World}{x:PV}{vb vs vp vr vc:Value}(hb:∀b,lo≤b→b<w.heap.size→w'.heap[b]?=w.heap[b]?)(h:Five lo w x vb vs vp vr vc): Five lo w' x vb vs vp vr vc :=
 ⟨h.b.frz hb fun _ _ h=>h,h.s.frz hb fun _ _ ⟨v,h1,h2⟩=>⟨v,h1,h2.frz hb fun _ _ h=>h⟩,h.p.frz hb fun _ _ ⟨v,h1,h2⟩=>⟨v,h1,h2.frz hb fun _ _ h=>h⟩,h.r.frz hb fun _ _ ⟨v,h1,h2⟩=>⟨v,h1,h2.frz hb fun _ _ h=>h⟩,h.c.frz hb fun _ _ ⟨v,h1,h2⟩=>⟨v,h1,h2.frz hb fun _ _ h=>h⟩⟩
abbrev Hp5:Type:=Hp×Hp×Hp×Hp×Hp
def fivR(x:PV)(y:Hp5): Res where
 φ v S w:=v.oneCell'=true∧∃lo w0,Five lo w0 x (.slice y.1.1 x.box.length y.1.2) (.slice y.2.1.1 x.pts.length y.2.1.2) (.slice y.2.2.1.1 x.ps.length y.2.2.1.2) (.slice y.2.2.2.1.1 x.rules.length y.2.2.2.1.2) (.slice y.2.2.2.2.1 x.cert.length y.2.2.2.2.2)∧(∀b,S b↔lo≤b∧b<w0.heap.size)∧∀b,S b→w.heap[b]?=w0.heap[b]?
 one _ _ _ h:=h.1
 loc x S w w' h hφ:=by
  obtain⟨h1,lo,w0,h2,h3,h4⟩:=hφ
  exact⟨h1,lo,w0,h2,h3,fun b hb=>(h b hb).trans (h4 b hb)⟩
theorem fiv_five{x:PV}{y:Hp5}{v:Value}{S:Nat→Prop}{w:World}(h:(fivR x y).φ v S w): ∃lo,Five lo w x (.slice y.1.1 x.box.length y.1.2) (.slice y.2.1.1 x.pts.length y.2.1.2) (.slice y.2.2.1.1 x.ps.length y.2.2.1.2) (.slice y.2.2.2.1.1 x.rules.length y.2.2.2.1.2) (.slice y.2.2.2.2.1 x.cert.length y.2.2.2.2.2):=by
 obtain⟨h1,lo,w0,h2,h3,h4⟩:=(show _∧_ from h)
 exact⟨lo,h2.frz fun b hb hl=>h4 b ((h3 b).2 ⟨hb,hl⟩)⟩
open Go Go.RowKit
theorem eql_nil(P:Program){t e:TypeId}{x y:Operand}{A:Option Addr}{n c:Nat}(h:P.underlying t=some (.slice e))(W:World): RunOk P W (do eqGuard .eql t x y (.slice A n c) (.slice none 0 0);binOp .eql t (.slice A n c) (.slice none 0 0):Sem Value) (.bool (decide (A=none))):=fun w _=>by
 have h1:(eqGuard .eql t x y (.slice A n c) (.slice none 0 0)).run P w=.ok () w:=by
  unfold eqGuard
  cases A<;>rfl
 rw[Sem.run_bind,h1,Result.andThen_ok]
 have h2:(Op.equal t (.slice A n c) (.slice none 0 0)).run P w=.ok (decide (A=none)) w:=by
  unfold Op.equal
  rw[show Op.maxDepth=9999+1 from rfl]
  unfold Op.equalIn
  cases A<;>(rw[Sem.run_bind,und_run h,Result.andThen_ok];rfl)
 have h3:binOp .eql t (.slice A n c) (.slice none 0 0)=(do pure (.bool (← Op.equal t (.slice A n c) (.slice none 0 0))):Sem Value):=rfl
 simp[h3,h2]
theorem clone_box{A:Option Addr}{ca:Nat}{l:List (Nm×Nm)}(hl:l.length≤1048576)(w:World)(ha:Rw w 6 spC (nm0,nm0) l A ca): NewIn Tryz.prog w [] 36 #[.slice A l.length ca] (fun(y:Hp)=>Value.slice y.1 l.length y.2) (fun(y:Hp)=>rowR 58 6 spC l y.1 y.2) :=
 new_at (β:=Hp) ttOk mixed (fun a w=>Tryz.call36 a w) Tryz.func36 Tryz.ntmps36 Tryz.results36 _ rfl 0 _ _ [.o 1 1 (.set (.bool (decide (A=none)))),.both [.nil 2 0 58 6 (spC:(Nm×Nm)→List Value)] [.row 3 1 0 [5] 58 6 spC ([]:List (Nm×Nm)) (fun(y1:Hp)=>[.eff 3 2 0 (fun(y2:Hp)=>Value.slice y2.1 (l).length y2.2) (fun(y2:Hp)=>rowR 58 6 spC l y2.1 y2.2) (fun(y2:Hp)=>[])])]] (fun W hW=>have HA:=ha.below spC_len hW;ai (eql_nil Tryz.prog (A:=A) (n:=l.length) (c:=ca) (t:=23) (e:=58) (x:=(.tmp 3)) (y:=(.const (.slice none 0 0))) (by kernel_rfl) W)<|ai (fun hz:(decide (A=none))=true=>(show ∃y:Hp,SV.val (.slice none 0 0)=SV.val ((fun(y:Hp)=>Value.slice y.1 l.length y.2) y)∧∀(x:Value) (S:Nat→Prop) (w:World),(rowR 58 6 spC ([]:List (Nm×Nm)) none 0).φ x S w→((fun(y:Hp)=>rowR 58 6 spC l y.1 y.2) y).φ x S w from⟨((none,0):Hp),(by rw[(show l=[]from List.eq_nil_of_length_eq_zero (HA.2 (of_decide_eq_true hz)).1)];rfl),fun x S w h=>(by rw[(show l=[]from List.eq_nil_of_length_eq_zero (HA.2 (of_decide_eq_true hz)).1)];exact h)⟩)) fun hz:(decide (A=none))=false=>ai (show([]:List Value)=List.flatMap spC ([]:List (Nm×Nm))from rfl)<|ai (And.intro spC_len (show(([]:List (Nm×Nm))).length≤maxLen from(Nat.zero_le _))) fun(y1:Hp)=>ai (eff_app (w0:=W) (ty:=23) (c:=spC) (l:=([]:List (Nm×Nm))) (l2:=l) (l':=l) (A:=y1.1) (cp:=y1.2) (u:=.slice A l.length ca) rt_Box_Box spC_len spC_one (List.nil_append l) (show l.length*64≤140737488355328 from by omega) (fun W' hW'=>arg_rd spC_len (by decide) (d:=(nm0,nm0)) (HA.below spC_len hW').1 HA.2)) fun(y2:Hp)=>(show ∃y:Hp,SV.val (.slice y2.1 (l).length y2.2)=SV.val ((fun(y:Hp)=>Value.slice y.1 l.length y.2) y)∧∀(x:Value) (S:Nat→Prop) (w:World),(rowR 58 6 spC l y2.1 y2.2).φ x S w→((fun(y:Hp)=>rowR 58 6 spC l y.1 y.2) y).φ x S w from⟨y2,rfl,fun x S w h=>h⟩)) fun W=>by kernel_rfl
theorem clone_sim{A:Option Addr}{ca:Nat}{l:List PtS}(hl:l.length≤1048576)(w:World)(ha:Rw w 1 ptS pts0 l A ca): NewIn Tryz.prog w [] 37 #[.slice A l.length ca] (fun(y:Hp)=>Value.slice y.1 l.length y.2) (fun(y:Hp)=>rowR 45 1 ptS l y.1 y.2) :=
 new_at (β:=Hp) ttOk mixed (fun a w=>Tryz.call37 a w) Tryz.func37 Tryz.ntmps37 Tryz.results37 _ rfl 0 _ _ [.o 1 1 (.set (.bool (decide (A=none)))),.both [.nil 2 0 45 1 (ptS:PtS→List Value)] [.row 3 1 0 [5] 45 1 ptS ([]:List PtS) (fun(y1:Hp)=>[.eff 3 2 0 (fun(y2:Hp)=>Value.slice y2.1 (l).length y2.2) (fun(y2:Hp)=>rowR 45 1 ptS l y2.1 y2.2) (fun(y2:Hp)=>[])])]] (fun W hW=>have HA:=ha.below ptS_len hW;ai (eql_nil Tryz.prog (A:=A) (n:=l.length) (c:=ca) (t:=25) (e:=45) (x:=(.tmp 3)) (y:=(.const (.slice none 0 0))) (by kernel_rfl) W)<|ai (fun hz:(decide (A=none))=true=>(show ∃y:Hp,SV.val (.slice none 0 0)=SV.val ((fun(y:Hp)=>Value.slice y.1 l.length y.2) y)∧∀(x:Value) (S:Nat→Prop) (w:World),(rowR 45 1 ptS ([]:List PtS) none 0).φ x S w→((fun(y:Hp)=>rowR 45 1 ptS l y.1 y.2) y).φ x S w from⟨((none,0):Hp),(by rw[(show l=[]from List.eq_nil_of_length_eq_zero (HA.2 (of_decide_eq_true hz)).1)];rfl),fun x S w h=>(by rw[(show l=[]from List.eq_nil_of_length_eq_zero (HA.2 (of_decide_eq_true hz)).1)];exact h)⟩)) fun hz:(decide (A=none))=false=>ai (show([]:List Value)=List.flatMap ptS ([]:List PtS)from rfl)<|ai (And.intro ptS_len (show(([]:List PtS)).length≤maxLen from(Nat.zero_le _))) fun(y1:Hp)=>ai (eff_app (w0:=W) (ty:=25) (c:=ptS) (l:=([]:List PtS)) (l2:=l) (l':=l) (A:=y1.1) (cp:=y1.2) (u:=.slice A l.length ca) rt_Simplex_Simplex ptS_len ptS_one (List.nil_append l) (show l.length*24≤140737488355328 from by omega) (fun W' hW'=>arg_rd ptS_len (by decide) (d:=pts0) (HA.below ptS_len hW').1 HA.2)) fun(y2:Hp)=>(show ∃y:Hp,SV.val (.slice y2.1 (l).length y2.2)=SV.val ((fun(y:Hp)=>Value.slice y.1 l.length y.2) y)∧∀(x:Value) (S:Nat→Prop) (w:World),(rowR 45 1 ptS l y2.1 y2.2).φ x S w→((fun(y:Hp)=>rowR 45 1 ptS l y.1 y.2) y).φ x S w from⟨y2,rfl,fun x S w h=>h⟩)) fun W=>by kernel_rfl
theorem clone_pt{A:Option Addr}{ca:Nat}{l:List Nm}(hl:l.length≤1048576)(w:World)(ha:Rw w 3 nmC nm0 l A ca): NewIn Tryz.prog w [] 38 #[.slice A l.length ca] (fun(y:Hp)=>Value.slice y.1 l.length y.2) (fun(y:Hp)=>rowR 32 3 nmC l y.1 y.2) :=
 new_at (β:=Hp) ttOk mixed (fun a w=>Tryz.call38 a w) Tryz.func38 Tryz.ntmps38 Tryz.results38 _ rfl 0 _ _ [.o 1 1 (.set (.bool (decide (A=none)))),.both [.nil 2 0 32 3 (nmC:Nm→List Value)] [.row 3 1 0 [5] 32 3 nmC ([]:List Nm) (fun(y1:Hp)=>[.eff 3 2 0 (fun(y2:Hp)=>Value.slice y2.1 (l).length y2.2) (fun(y2:Hp)=>rowR 32 3 nmC l y2.1 y2.2) (fun(y2:Hp)=>[])])]] (fun W hW=>have HA:=ha.below nmC_len hW;ai (eql_nil Tryz.prog (A:=A) (n:=l.length) (c:=ca) (t:=45) (e:=32) (x:=(.tmp 3)) (y:=(.const (.slice none 0 0))) (by kernel_rfl) W)<|ai (fun hz:(decide (A=none))=true=>(show ∃y:Hp,SV.val (.slice none 0 0)=SV.val ((fun(y:Hp)=>Value.slice y.1 l.length y.2) y)∧∀(x:Value) (S:Nat→Prop) (w:World),(rowR 32 3 nmC ([]:List Nm) none 0).φ x S w→((fun(y:Hp)=>rowR 32 3 nmC l y.1 y.2) y).φ x S w from⟨((none,0):Hp),(by rw[(show l=[]from List.eq_nil_of_length_eq_zero (HA.2 (of_decide_eq_true hz)).1)];rfl),fun x S w h=>(by rw[(show l=[]from List.eq_nil_of_length_eq_zero (HA.2 (of_decide_eq_true hz)).1)];exact h)⟩)) fun hz:(decide (A=none))=false=>ai (show([]:List Value)=List.flatMap nmC ([]:List Nm)from rfl)<|ai (And.intro nmC_len (show(([]:List Nm)).length≤maxLen from(Nat.zero_le _))) fun(y1:Hp)=>ai (eff_app (w0:=W) (ty:=45) (c:=nmC) (l:=([]:List Nm)) (l2:=l) (l':=l) (A:=y1.1) (cp:=y1.2) (u:=.slice A l.length ca) rt_Point_Point nmC_len nmC_one (List.nil_append l) (show l.length*32≤140737488355328 from by omega) (fun W' hW'=>arg_rd nmC_len (by decide) (d:=nm0) (HA.below nmC_len hW').1 HA.2)) fun(y2:Hp)=>(show ∃y:Hp,SV.val (.slice y2.1 (l).length y2.2)=SV.val ((fun(y:Hp)=>Value.slice y.1 l.length y.2) y)∧∀(x:Value) (S:Nat→Prop) (w:World),(rowR 32 3 nmC l y2.1 y2.2).φ x S w→((fun(y:Hp)=>rowR 32 3 nmC l y.1 y.2) y).φ x S w from⟨y2,rfl,fun x S w h=>h⟩)) fun W=>by kernel_rfl
theorem clone_py{A:Option Addr}{ca:Nat}{l:List PyS}(hl:l.length≤1048576)(w:World)(ha:Rw w 2 pyS pys0 l A ca): NewIn Tryz.prog w [] 39 #[.slice A l.length ca] (fun(y:Hp)=>Value.slice y.1 l.length y.2) (fun(y:Hp)=>rowR 48 2 pyS l y.1 y.2) :=
 new_at (β:=Hp) ttOk mixed (fun a w=>Tryz.call39 a w) Tryz.func39 Tryz.ntmps39 Tryz.results39 _ rfl 0 _ _ [.o 1 1 (.set (.bool (decide (A=none)))),.both [.nil 2 0 48 2 (pyS:PyS→List Value)] [.row 3 1 0 [5] 48 2 pyS ([]:List PyS) (fun(y1:Hp)=>[.eff 3 2 0 (fun(y2:Hp)=>Value.slice y2.1 (l).length y2.2) (fun(y2:Hp)=>rowR 48 2 pyS l y2.1 y2.2) (fun(y2:Hp)=>[])])]] (fun W hW=>have HA:=ha.below pyS_len hW;ai (eql_nil Tryz.prog (A:=A) (n:=l.length) (c:=ca) (t:=28) (e:=48) (x:=(.tmp 3)) (y:=(.const (.slice none 0 0))) (by kernel_rfl) W)<|ai (fun hz:(decide (A=none))=true=>(show ∃y:Hp,SV.val (.slice none 0 0)=SV.val ((fun(y:Hp)=>Value.slice y.1 l.length y.2) y)∧∀(x:Value) (S:Nat→Prop) (w:World),(rowR 48 2 pyS ([]:List PyS) none 0).φ x S w→((fun(y:Hp)=>rowR 48 2 pyS l y.1 y.2) y).φ x S w from⟨((none,0):Hp),(by rw[(show l=[]from List.eq_nil_of_length_eq_zero (HA.2 (of_decide_eq_true hz)).1)];rfl),fun x S w h=>(by rw[(show l=[]from List.eq_nil_of_length_eq_zero (HA.2 (of_decide_eq_true hz)).1)];exact h)⟩)) fun hz:(decide (A=none))=false=>ai (show([]:List Value)=List.flatMap pyS ([]:List PyS)from rfl)<|ai (And.intro pyS_len (show(([]:List PyS)).length≤maxLen from(Nat.zero_le _))) fun(y1:Hp)=>ai (eff_app (w0:=W) (ty:=28) (c:=pyS) (l:=([]:List PyS)) (l2:=l) (l':=l) (A:=y1.1) (cp:=y1.2) (u:=.slice A l.length ca) rt_sPoly_sPoly pyS_len pyS_one (List.nil_append l) (show l.length*32≤140737488355328 from by omega) (fun W' hW'=>arg_rd pyS_len (by decide) (d:=pys0) (HA.below pyS_len hW').1 HA.2)) fun(y2:Hp)=>(show ∃y:Hp,SV.val (.slice y2.1 (l).length y2.2)=SV.val ((fun(y:Hp)=>Value.slice y.1 l.length y.2) y)∧∀(x:Value) (S:Nat→Prop) (w:World),(rowR 48 2 pyS l y2.1 y2.2).φ x S w→((fun(y:Hp)=>rowR 48 2 pyS l y.1 y.2) y).φ x S w from⟨y2,rfl,fun x S w h=>h⟩)) fun W=>by kernel_rfl
theorem clone_nd{A:Option Addr}{ca:Nat}{l:List NdS}(hl:l.length≤1048576)(w:World)(ha:Rw w 6 ndS nds0 l A ca): NewIn Tryz.prog w [] 40 #[.slice A l.length ca] (fun(y:Hp)=>Value.slice y.1 l.length y.2) (fun(y:Hp)=>rowR 50 6 ndS l y.1 y.2) :=
 new_at (β:=Hp) ttOk mixed (fun a w=>Tryz.call40 a w) Tryz.func40 Tryz.ntmps40 Tryz.results40 _ rfl 0 _ _ [.o 1 1 (.set (.bool (decide (A=none)))),.both [.nil 2 0 50 6 (ndS:NdS→List Value)] [.row 3 1 0 [5] 50 6 ndS ([]:List NdS) (fun(y1:Hp)=>[.eff 3 2 0 (fun(y2:Hp)=>Value.slice y2.1 (l).length y2.2) (fun(y2:Hp)=>rowR 50 6 ndS l y2.1 y2.2) (fun(y2:Hp)=>[])])]] (fun W hW=>have HA:=ha.below ndS_len hW;ai (eql_nil Tryz.prog (A:=A) (n:=l.length) (c:=ca) (t:=33) (e:=50) (x:=(.tmp 3)) (y:=(.const (.slice none 0 0))) (by kernel_rfl) W)<|ai (fun hz:(decide (A=none))=true=>(show ∃y:Hp,SV.val (.slice none 0 0)=SV.val ((fun(y:Hp)=>Value.slice y.1 l.length y.2) y)∧∀(x:Value) (S:Nat→Prop) (w:World),(rowR 50 6 ndS ([]:List NdS) none 0).φ x S w→((fun(y:Hp)=>rowR 50 6 ndS l y.1 y.2) y).φ x S w from⟨((none,0):Hp),(by rw[(show l=[]from List.eq_nil_of_length_eq_zero (HA.2 (of_decide_eq_true hz)).1)];rfl),fun x S w h=>(by rw[(show l=[]from List.eq_nil_of_length_eq_zero (HA.2 (of_decide_eq_true hz)).1)];exact h)⟩)) fun hz:(decide (A=none))=false=>ai (show([]:List Value)=List.flatMap ndS ([]:List NdS)from rfl)<|ai (And.intro ndS_len (show(([]:List NdS)).length≤maxLen from(Nat.zero_le _))) fun(y1:Hp)=>ai (eff_app (w0:=W) (ty:=33) (c:=ndS) (l:=([]:List NdS)) (l2:=l) (l':=l) (A:=y1.1) (cp:=y1.2) (u:=.slice A l.length ca) rt_sNode_sNode ndS_len ndS_one (List.nil_append l) (show l.length*72≤140737488355328 from by omega) (fun W' hW'=>arg_rd ndS_len (by decide) (d:=nds0) (HA.below ndS_len hW').1 HA.2)) fun(y2:Hp)=>(show ∃y:Hp,SV.val (.slice y2.1 (l).length y2.2)=SV.val ((fun(y:Hp)=>Value.slice y.1 l.length y.2) y)∧∀(x:Value) (S:Nat→Prop) (w:World),(rowR 50 6 ndS l y2.1 y2.2).φ x S w→((fun(y:Hp)=>rowR 50 6 ndS l y.1 y.2) y).φ x S w from⟨y2,rfl,fun x S w h=>h⟩)) fun W=>by kernel_rfl
theorem clone_tm{A:Option Addr}{ca:Nat}{l:List Tm}(hl:l.length≤1048576)(w:World)(ha:Rw w 4 tmC tmD l A ca): NewIn Tryz.prog w [] 79 #[.slice A l.length ca] (fun(y:Hp)=>Value.slice y.1 l.length y.2) (fun(y:Hp)=>rowR 54 4 tmC l y.1 y.2) :=
 new_at (β:=Hp) ttOk mixed (fun a w=>Tryz.call79 a w) Tryz.func79 Tryz.ntmps79 Tryz.results79 _ rfl 0 _ _ [.o 1 1 (.set (.bool (decide (A=none)))),.both [.nil 2 0 54 4 (tmC:Tm→List Value)] [.row 3 1 0 [5] 54 4 tmC ([]:List Tm) (fun(y1:Hp)=>[.eff 3 2 0 (fun(y2:Hp)=>Value.slice y2.1 (l).length y2.2) (fun(y2:Hp)=>rowR 54 4 tmC l y2.1 y2.2) (fun(y2:Hp)=>[])])]] (fun W hW=>have HA:=ha.below tmC_len hW;ai (eql_nil Tryz.prog (A:=A) (n:=l.length) (c:=ca) (t:=46) (e:=54) (x:=(.tmp 3)) (y:=(.const (.slice none 0 0))) (by kernel_rfl) W)<|ai (fun hz:(decide (A=none))=true=>(show ∃y:Hp,SV.val (.slice none 0 0)=SV.val ((fun(y:Hp)=>Value.slice y.1 l.length y.2) y)∧∀(x:Value) (S:Nat→Prop) (w:World),(rowR 54 4 tmC ([]:List Tm) none 0).φ x S w→((fun(y:Hp)=>rowR 54 4 tmC l y.1 y.2) y).φ x S w from⟨((none,0):Hp),(by rw[(show l=[]from List.eq_nil_of_length_eq_zero (HA.2 (of_decide_eq_true hz)).1)];rfl),fun x S w h=>(by rw[(show l=[]from List.eq_nil_of_length_eq_zero (HA.2 (of_decide_eq_true hz)).1)];exact h)⟩)) fun hz:(decide (A=none))=false=>ai (show([]:List Value)=List.flatMap tmC ([]:List Tm)from rfl)<|ai (And.intro tmC_len (show(([]:List Tm)).length≤maxLen from(Nat.zero_le _))) fun(y1:Hp)=>ai (eff_app (w0:=W) (ty:=46) (c:=tmC) (l:=([]:List Tm)) (l2:=l) (l':=l) (A:=y1.1) (cp:=y1.2) (u:=.slice A l.length ca) rt_sTerm_sTerm tmC_len tmC_one (List.nil_append l) (show l.length*48≤140737488355328 from by omega) (fun W' hW'=>arg_rd tmC_len (by decide) (d:=tmD) (HA.below tmC_len hW').1 HA.2)) fun(y2:Hp)=>(show ∃y:Hp,SV.val (.slice y2.1 (l).length y2.2)=SV.val ((fun(y:Hp)=>Value.slice y.1 l.length y.2) y)∧∀(x:Value) (S:Nat→Prop) (w:World),(rowR 54 4 tmC l y2.1 y2.2).φ x S w→((fun(y:Hp)=>rowR 54 4 tmC l y.1 y.2) y).φ x S w from⟨y2,rfl,fun x S w h=>h⟩)) fun W=>by kernel_rfl
