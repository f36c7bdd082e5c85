/- The walks and plain laws beneath the statements. -/
import Derived.Test.YtaelfkdjlioegaaGreatDoorQG47
import Derived.Test.YtaelfkdjlioegaaGreatDoorQG48
import Derived.Test.YtaelfkdjlioegaaGreatDoorQG49
import Derived.Deep.Slices
import Derived.Deep.Fields
import Derived.ChangeSame
import Derived.Lib.SmallJoins
import Derived.Test.YtaelfkdjlioegaaGreatDoorRows
namespace Go.Proofs.YtaelfkdjlioegaaGreatDoor
open Go.Proofs.Tryz
set_option maxRecDepth 100000
open Go Go.RowKit
variable{Ab As Ap Ar Ac:Option Addr}{x:PV}{ps:List MemPlace}
theorem kf{n:Nat}{b:Bool}(h:decide ((n:Int)>0)=b): ((n:Int)==0)=!b:=by
 rw[← h,Tx];simp
theorem cY{cb:Nat}{vs vp vr vc:Value}{o i:Bool}{t:Int}(x:PV)(hn:x.box.length≤4294967296)(hok:∀s,s∈x.box→okN s.1∧okN s.2)(w:World)(hb:RdK w Ab x.box.length 6 (fun j=>YH (Qw x.box j)))(hO:∀W,Below w.heap.size w W→RetAt prog W 27 #[yA x (.slice Ab x.box.length cb) vs vp vr vc] (.bool o))(hI:∀W,Below w.heap.size w W→(!o)=false→RetAt prog W 28 #[yA x (.slice Ab x.box.length cb) vs vp vr vc] (.bool i))(hS:∀W,Below w.heap.size w W→(!o)=false→(!i)=false→((x.box.length:Int)==0)=true→RetAt prog W 30 #[vs] (.int .i64 t)): RetAt prog w 11 #[yA x (.slice Ab x.box.length cb) vs vp vr vc] (.int .i64 (ZO o i x.box.length t (XD x.box))) :=
 Qi Qk mixed (fun a w=>call11 a w) func11 ntmps11 results11 _ rfl _ [.o 1 1 (.ret (bV o)),.both [] [.o 3 1 (.ret (bV i)),.both [] [.both [.o 6 3 (.ret (iV (XD x.box)))] [.o 7 3 (.ret (iV t))]]]] (fun W hW hR=>have HB:=hb.up hW (fun _=>rfl);ai (hO W hW)<|Q4 (!o) (fun h1=>(show(.int .i64 1:Value)=.int .i64 (ZO o i x.box.length t (XD x.box))from by unfold ZO;rw[h1];rfl)) fun h1=>ai (hI W hW h1)<|Q4 (!i) (fun h2=>(show(.int .i64 3:Value)=.int .i64 (ZO o i x.box.length t (XD x.box))from by unfold ZO;rw[h1,h2];rfl)) fun h2=>Q4 (decide ((x.box.length:Int)>0)) (fun he=>ai (iE (c:=cb) hn hok W HB)<|(show(.int .i64 (XD x.box):Value)=.int .i64 (ZO o i x.box.length t (XD x.box))from by unfold ZO;rw[h1,h2,kf he];rfl)) fun he=>ai (hS W hW h1 h2 (kf he))<|(show(.int .i64 t:Value)=.int .i64 (ZO o i x.box.length t (XD x.box))from by unfold ZO;rw[h1,h2,kf he];rfl)) fun W=>by kernel_rfl
theorem O3{l:List Xl}{f:Py→Bool}: Q3 l.length (fun j=>f (gP l j).1)=(l.map fun x:Xl=>x.1).any f:=by
 rw[List.any_map]
 exact Dp (f:=fun p:Xl=>f p.1)
theorem dX{lo:Nat}(x:PV){vb vs vp vr vc:Value}(h:okX x)(w:World)(hF:Five lo w x vb vs vp vr vc): RetAt prog w 11 #[yA x vb vs vp vr vc] (.int .i64 (chkN x)):=by
 obtain⟨Ab,As,Ap,Ar,Ac,cb,cs,kp,kr,cc,Us,Up,Ur,Uc,us,up,ur,uc,rfl,rfl,rfl,rfl,rfl,hR⟩:=Bn hF
 have hmap:=Ef (x:=x) (Up:=Up) (Ur:=Ur) (Uc:=Uc) (up:=up) (ur:=ur) (uc:=uc)
 have hS:∀y,y∈KO (KG x.ps Up up) (KG x.rules Ur ur) x.cert Uc uc→okP y.1:=fun y hy=>ar h _ (by rw[← hmap];exact R5.2 ⟨y,hy,rfl⟩)
 refine cY (o:=Xr x) (i:=Q5 x) (t:=BH x.pts x.vars.toNat) x (L8 h.o.l0.hb (by decide)) (fun s hsm=>⟨h.o.nums _ (DN hsm).1,h.o.nums _ (DN hsm).2⟩) w hR.b ?_ ?_ ?_
 ·intro W hW
  have hR:=hR.below hW
  have k:=dZ (lo:=lo) (eps:=x.eps) (delta:=x.delta) (kind:=x.kind) (vars:=x.vars) (budget:=x.budget) (cb:=cb) (cs:=cs) (cc:=cc) (kp:=kp) (kr:=kr) (l1:=KG x.ps Up up) (l2:=KG x.rules Ur ur) (Ua:=Uc) (Uc:=uc) rfl h.o.l0 (by rw[XF];exact h.o.np) (by rw[XF];exact h.o.nr) (fun y hy=>hS y (Tb _ hy)) h.o.okc h.o.nums W hR.b hR.s hR.sp hR.c hR.q1 hR.r1 hR.X
  rw[O3 (f:=Qz x.vars),Sj,AK,AK,Dp (d:=nm0) (f:=fun x=>!XK x),XF,XF,eh (L8 h.o.l0.hs (by decide)) h.o.hv.2]at k
  exact k
 ·intro W hW _
  have hR:=hR.below hW
  have k:=UM (lo:=lo) (eps:=x.eps) (delta:=x.delta) (kind:=x.kind) (vars:=x.vars) (budget:=x.budget) (cb:=cb) (cs:=cs) (cc:=cc) (kp:=kp) (kr:=kr) (l1:=KG x.ps Up up) (l2:=KG x.rules Ur ur) (Ua:=Uc) (Uc:=uc) rfl h.o.l0 (by rw[XF];exact h.o.np) (by rw[XF];exact h.o.nr) rfl hS W hR.b hR.s hR.sp hR.c hR.q1 hR.r1 hR.X
  rw[O3 (f:=fun p=>!XG p),hmap,Dp (d:=nm0) (f:=Xy),XF,XF,dW]at k
  exact k
 ·intro W hW h1 h2 h0
  have h1:Xr x=true:=by simpa using h1
  obtain⟨N,hv,hn1,hpn,hpl⟩:=CB h1 (by simpa using h0)
  have h4:=F1 (x:=x) (by simpa using h2)
  have k:=NQ (lo:=lo) hpn hpl (fun p hp q hq=>h.o.nums q (PP hp hq)) hn1 (by omega) W (hF.s.below (Oi lo) hW)
  rw[show N=x.vars.toNat by omega]at k
  exact k
theorem kJ{lo:Nat}{cb cs kp kr cc:Nat}(hx:smallX x)(w:World)(hF:Five lo w x (.slice Ab x.box.length cb) (.slice As x.pts.length cs) (.slice Ap x.ps.length kp) (.slice Ar x.rules.length kr) (.slice Ac x.cert.length cc)): NewIn prog w [] 9 #[xA x Ab cb As cs Ap kp Ar kr Ac cc] (fun y:Pp=>xA x y.1.1 y.1.2 y.2.1.1 y.2.1.2 y.2.2.1.1 y.2.2.1.2 y.2.2.2.1.1 y.2.2.2.1.2 y.2.2.2.2.1 y.2.2.2.2.2) (fun y:Pp=>ap x y):=by
 obtain⟨p1,l1,l2,nd,h⟩:=aA hx w hF
 have k:=ky (Ab:=Ab) (As:=As) (Ap:=Ap) (Ar:=Ar) (Ac:=Ac) (cb:=cb) (cs:=cs) (kp:=kp) (kr:=kr) (cc:=cc) (kind:=x.kind) (vars:=x.vars) (budget:=x.budget) (eps:=x.eps) (delta:=x.delta) (bx:=x.box) (p1:=p1) (l1:=l1) (l2:=l2) (nd:=nd) hx.box h.bs h.bp h.bq h.bt h.bu h.bv h.bc h.bn w h.hb h.hs h.hp h.hq h.hqs h.hu h.hus h.hc h.hcs
 simp only[h.e0,h.e1,h.e2,h.e3,h.m0,h.m1,h.m2,h.m3]at k
 exact k
theorem aj{x:Nm}(h:ZK x=false): okN x:=by
 unfold ZK at h
 simp only[Bool.or_eq_false_iff,decide_eq_false_iff_not]at h
 exact⟨by omega,by omega,by omega⟩
theorem TB{a b:Bool}(h:(bif a then true else b)=false): a=false∧b=false:=by
 cases a
 ·exact⟨rfl,h⟩
 ·cases h
theorem SQ{n:Nat}{f:Nat→Bool}(h:Q3 n f=false){j:Nat}(hj:j<n): f j=false:=by
 cases e:f j with
 | false=>rfl
 | true=>rw[anyB_iff.2 ⟨j,hj,e⟩]at h;cases h
theorem gd(h:B8 x=false): ∀a,a∈gw x→okN a:=by
 unfold B8 at h
 have h1:=(TB (TB (TB (TB (TB (TB h).2).2).2).2).2).1
 intro a ha
 obtain⟨j,hj,e⟩:=List.getElem_of_mem ha
 have h2:=SQ h1 hj
 rw[Xg hj,e]at h2
 exact aj h2
theorem dG(hx:smallX x)(h:B8 x=false): okX x:=by
 have hn:=gd h
 have hp:∀p,p∈GT x→p.ts.length≤1048576→okP p:=fun p hp hl=>⟨L8 hl (by decide),fun t ht=>⟨hx.mono p hp t ht,hn _ (U4 _ (U9.2 ⟨p,hp,R5.2 ⟨t,ht,rfl⟩⟩))⟩⟩
 exact⟨⟨⟨hx.box,hx.pts,hx.pt,hx.cert⟩,hx.hv,hx.ps,hx.rules,fun p h=>hp p (Tb _ (Tb _ h)) (hx.p p h),fun p h=>hp p (Tb _ (U4 _ h)) (hx.rule p h),fun p h=>hp p.sum (U4 _ (R5.2 ⟨p,h,rfl⟩)) (hx.node p h),fun a ha=>hn a (Tb _ ha)⟩⟩
theorem Wj(hx:smallX x): shortP x :=
 ⟨L8 hx.box (by decide),L8 hx.pts (by decide),L8 hx.ps (by decide),L8 hx.rules (by decide),L8 hx.cert (by decide),fun p h=>L8 (hx.pt p h) (by decide),fun p h=>L8 (hx.p p h) (by decide),fun p h=>L8 (hx.rule p h) (by decide),fun p h=>L8 (hx.node p h) (by decide)⟩
theorem P4{y:Pp}{f:FuncId}{args:Array Value}{R:Value}{W:World}(he:Yf prog f)(h:∀W' lo,Below W.heap.size W W'→Five lo W' x (.slice y.1.1 x.box.length y.1.2) (.slice y.2.1.1 x.pts.length y.2.1.2) (.slice y.2.2.1.1 x.ps.length y.2.2.1.2) (.slice y.2.2.2.1.1 x.rules.length y.2.2.2.1.2) (.slice y.2.2.2.2.1 x.cert.length y.2.2.2.2.2)→RetAt prog W' f args R): E1 prog W [ap x y] f args R:=⟨he,fun W' hW' v S hφ=>by
 obtain⟨lo,hF⟩:=WT hφ
 exact(h W' lo hW' hF).at⟩
theorem fA{kind vars:Int}{lo:Nat}{cb cs kp kr cc:Nat}(hx:smallX x)(w:World)(hT:Yk w)(hF:Five lo w x (.slice Ab x.box.length cb) (.slice As x.pts.length cs) (.slice Ap x.ps.length kp) (.slice Ar x.rules.length kr) (.slice Ac x.cert.length cc)): RetAt prog w 3 #[xA x Ab cb As cs Ap kp Ar kr Ac cc,.int .i64 kind,.int .i64 vars] (.bool true) :=
 have E0:=eB true;Qi Qk mixed (fun a w=>call3 a w) func3 ntmps3 results3 _ rfl _ [.o 1 1 (.ret (bV (B8 x))),.both [.o 2 0 (.ret (bV true))] [.mk 3 1 [] (fun(y1:Pp)=>xA x y1.1.1 y1.1.2 y1.2.1.1 y1.2.1.2 y1.2.2.1.1 y1.2.2.1.2 y1.2.2.2.1.1 y1.2.2.2.1.2 y1.2.2.2.2.1 y1.2.2.2.2.2) (fun(y1:Pp)=>ap x y1) (fun(y1:Pp)=>[.reg 23 [],.o 4 1 (.retr [0] (.int .i64 (chkN x))),.o 4 3 (.ret (iV (chkN x))),.g 4 6 true,.g 4 7 true,.g 4 8 true,.o 4 8 (.ret (iV (QT kind vars))),.g 4 9 true,.g 4 10 true,.g 4 11 true,.o 4 11 (.ret (iV (QT kind vars))),.g 4 12 true,.o 4 13 (.pk true),.g 4 15 true,.g 4 16 true,.g 4 17 true,.o 4 17 (.retr [0] (.bool true)),.o 4 18 (.pk true),.o 4 20 (.ret (bV true))])]] (fun W hW hR=>have HF:=hF.below hW;(fun(hT:Yk W)=>ai (lx hx W HF)<|Q4 (B8 x) (fun v1=>ai (RJ W hT)<|(E0 true rfl)) fun v1=>ai (kJ hx W HF) fun(y1:Pp)=>Yz (P4 (x:=x) (y:=y1) (W:=W) (fun a w=>call10 a w) (fun W' lo' hW' hF=>fe x (dG hx v1) W' (Qn hT hW') hF)) (dX x (dG hx v1) W HF) (show((chkN x)==(chkN x))=true from beq_self_eq_true _) (show((chkN x)==(chkN x))=true from beq_self_eq_true _) (show((chkN x)==(chkN x))=true from beq_self_eq_true _) (IH kind vars W) (show((chkN x)==(chkN x))=true from beq_self_eq_true _) (show((chkN x)==(chkN x))=true from beq_self_eq_true _)<|Yz (show((chkN x)==(chkN x))=true from beq_self_eq_true _) (Cu kind vars W) (show((chkN x)==(chkN x))=true from beq_self_eq_true _) (show((chkN x)==(chkN x))=true from beq_self_eq_true _) (show((QT kind vars)==(QT kind vars))=true from beq_self_eq_true _) (show((QT kind vars)==(QT kind vars))=true from beq_self_eq_true _) (show((QT kind vars)==(QT kind vars))=true from beq_self_eq_true _) (P4 (x:=x) (y:=y1) (W:=W) (fun a w=>call14 a w) (fun W' lo' hW' hF=>(by have h:=fR x x (Wj hx) W' hF (HF.below hW');rwa [sameB_iff.2 rfl]at h)))<|ZG (show((QT kind vars)==(QT kind vars))=true from beq_self_eq_true _) (RJ W hT)<|(E0 true rfl)) (Qn hT hW)) fun W=>by kernel_rfl
open Go.WideShapes Go.ChangeShapes Go.Deep
section
variable {H:Type} {enc:TypeId×Value→H} {w:World}
theorem FV:prog.cellsOf 30=2:=by kernel_rfl
end
section
variable {H:Type} {enc:TypeId×Value→H} {w:World} {base:Nat} {spare:Nat→Bool} {held:Bool}
theorem ZJ:prog.cellsOf 32=3:=by kernel_rfl
theorem NW:prog.cellsOf 4=1:=by kernel_rfl
theorem Bb:prog.cellsOf 9=1:=by kernel_rfl
theorem J5:prog.cellsOf 3=1:=by kernel_rfl
theorem jw{α:Type}{l:List α}(h:l.length=2): ∃a b,l=[a,b]:=by
 match l,h with | [a,b],_=>exact⟨a,b,rfl⟩
theorem mA{α:Type}{l:List α}(h:l.length=3): ∃a b c,l=[a,b,c]:=by
 match l,h with | [a,b,c],_=>exact⟨a,b,c,rfl⟩
theorem dB{fuel:Nat}{cs:List Value}{x:DataW H×List MemPlace}(h:DataW.trod enc prog w base spare held fuel 30 cs=some x): ∃(b:Bool) (s:ByteArray),cs=[.bool b,.string s]∧s.size≤maxLen:=by
 obtain⟨y0,y1,n,_,hl,h0,h1⟩:=trod_struct2 Tryz.underlying30 h
 rw[FV]at hl
 obtain⟨c0,c1,rfl⟩:=jw hl
 dsimp only at h0 h1
 rw[NW]at h0
 rw[Bb]at h1
 obtain⟨b,hb,_⟩:=DataW.trod_bool Tryz.underlying4 h0
 obtain⟨s,hs,_,hz⟩:=DataW.trod_string Tryz.underlying9 h1
 simp at hb hs
 subst hb hs
 exact⟨b,s,rfl,hz⟩
theorem W3{fuel:Nat}{cs:List Value}{x:DataW H×List MemPlace}(h:DataW.trod enc prog w base spare held fuel 32 cs=some x): ∃(b:Bool) (s:ByteArray) (e:Int),cs=[.bool b,.string s,.int .i64 e]∧s.size≤maxLen:=by
 obtain⟨y0,y1,n,_,hl,h0,h1⟩:=trod_struct2 Tryz.underlying32 h
 rw[ZJ]at hl
 obtain⟨c0,c1,c2,rfl⟩:=mA hl
 dsimp only at h0 h1
 rw[FV]at h0
 rw[J5]at h1
 obtain⟨b,s,hb,hz⟩:=dB h0
 obtain⟨e,he,_⟩:=DataW.trod_int Tryz.underlying3 h1
 simp at hb he
 obtain⟨rfl,rfl⟩:=hb
 subst he
 exact⟨b,s,e,rfl,hz⟩
end
section
variable {H:Type} {enc:TypeId×Value→H} {w:World} {B:Nat}
theorem Fu{d:DataW H}{l:List (DataW H)}(h:d∈l): Rows.uptoBulk d≤Rows.uptoBulkAll l:=by
 induction l with
 | nil=>cases h
 | cons x r ih =>
  simp only[Rows.uptoBulkAll]
  cases Lp.1 h with
  | inl e=>subst e;omega
  | inr e=>have:=ih e;omega
theorem Wm(d:DataW H): 1≤Rows.uptoBulk d:=by
 cases d with
 | lit l=>cases l<;>simp[Rows.uptoBulk]
 | nil=>simp[Rows.uptoBulk]
 | ptr d=>simp[Rows.uptoBulk]
 | slice elems spare=>simp[Rows.uptoBulk]
 | agg parts=>simp[Rows.uptoBulk]
 | iface t d=>simp[Rows.uptoBulk]
 | map entries=>simp[Rows.uptoBulk]
 | held h=>simp[Rows.uptoBulk]
theorem bL(l:List (DataW H)): l.length≤Rows.uptoBulkAll l:=by
 induction l with
 | nil=>simp[Rows.uptoBulkAll]
 | cons x r ih=>have:=Wm x;simp only[Rows.uptoBulkAll,Rb];omega
abbrev TR(enc:TypeId×Value→H)(w:World)(fuel:Nat)(t:TypeId)(cs:List Value)(x:DataW H×List MemPlace): Prop:=DataW.trod enc prog w 0 (fun _=>true) true fuel t cs=some x
theorem J7{t:TypeId}{fs:Array Field}{fuel k:Nat}{cs:List Value}{x:DataW H×List MemPlace}(ht:prog.underlying t=some (.struct fs))(hk:prog.cellsOf t=k)(h:TR enc w fuel t cs x)(hB:Rows.uptoBulk x.1≤B):
  cs.length=k∧∃n,∀(i:Nat) (f:Field) (m:Nat),fs[i]?=some f→prog.cellsOf f.type=m→∃y,TR enc w n f.type ((cs.drop f.offset).take m) y∧Rows.uptoBulk y.1≤B:=by
 obtain⟨xs,n,_,rfl,hl,hlen,hf⟩:=DataW.trod_struct ht h
 refine⟨hl.trans hk,n,fun i f m hi hm=>?_⟩
 subst hm
 have h1:=hf i f hi
 have hil:i<xs.length:=by rw[hlen];exact(Array.getElem?_eq_some_iff.1 hi).1
 rw[List.getElem?_eq_getElem hil]at h1
 refine⟨_,h1,?_⟩
 have h2:(xs[i]).1∈xs.map (·.1):=R5.2 ⟨_,Sa hil,rfl⟩
 have h3:=Fu h2
 simp only[Rows.uptoBulk]at hB
 omega
theorem NT{a:Addr}{v:Value}(h00:w.cell? (a.add 0)=some v): ∃blk off,a=⟨blk,off,none⟩:=by
 obtain⟨blk,off,sp⟩:=a
 cases sp with
 | none=>exact⟨blk,off,rfl⟩
 | some x =>
  exfalso
  simp only[Addr.add,if_true,World.cell?]at h00
  split at h00
  ·simp at h00
  ·cases h00
theorem Km{α:Type}{t e k:Nat}{p:Rdg α}{Q:α→Prop}(d:α){fuel:Nat}{cs:List Value}{x:DataW H×List MemPlace}(ht:prog.underlying t=some (.slice e))(hk:prog.cellsOf e=k)(h0:0<k)(he:∀fuel cs x,TR enc w fuel e cs x→Rows.uptoBulk x.1≤B→∃a:α,p w a cs∧Q a)(h:TR enc w fuel t cs x)(hB:Rows.uptoBulk x.1≤B):
  ∃(l:List α) (A:Option Addr) (c:Nat),cs=[.slice A l.length c]∧SlV 0 k p w l (.slice A l.length c)∧l.length≤B∧∀a,a∈l→Q a:=by
 rcases open_slice ht h with⟨e1,_⟩|⟨a,len,cap,m,n,D,Pl,e1,_,hl,_,hm,hx,hi⟩
 ·exact⟨[],none,0,e1,SlV.nil_ _ _ _ _,L9 _,fun a ha=>by cases ha⟩
 ·simp only[if_true]at hm
  rw[hx]at hB
  simp only[Rows.uptoBulk]at hB
  have hlen:len≤B:=by
   have:=bL ((List.range len).map D)
   simp at this
   omega
  have key:∀i,∃x:List Value×α,i<len→w.cells? 0 (a.add (i*k)) k=some x.1∧p w x.2 x.1∧Q x.2:=fun i=>by
   by_cases hin:i<len
   ·obtain⟨cs',h1,h2⟩:=hi i (by omega)
    rw[hk]at h1
    have h3:D i∈(List.range len).map D:=R5.2 ⟨i,Lm.2 hin,rfl⟩
    obtain⟨b,h4,h5⟩:=he _ _ _ h2 (by have:=Fu h3;show Rows.uptoBulk (D i)≤B;omega)
    exact⟨(cs',b),fun _=>⟨h1,h4,h5⟩⟩
   ·exact⟨([],d),fun h=>absurd h hin⟩
  obtain⟨X,hX⟩:∃X:Nat→List Value×α,∀i,i<len→w.cells? 0 (a.add (i*k)) k=some (X i).1∧p w (X i).2 (X i).1∧Q (X i).2:=⟨fun i=>Classical.choose (key i),fun i hi=>Lj (key i) hi⟩
  have hll:((List.range len).map fun i=>(X i).2).length=len:=by simp
  refine⟨(List.range len).map fun i=>(X i).2,some a,cap,by rw[hll];exact e1,⟨some a,cap,rfl,by rw[hll];exact hl,(fun h=>nomatch h),fun hp=>?_⟩,by rw[hll];exact hlen,fun b hb=>?_⟩
  ·rw[hll]at hp
   obtain⟨_,hcl,hat⟩:=World.cells?_some (hX 0 hp).1
   have h00:=hat 0 h0
   rw[List.getElem?_eq_getElem (by omega),Th,add_add]at h00
   obtain⟨blk,off,rfl⟩:=NT h00
   refine⟨blk,off,rfl,L9 _,fun i hi2=>?_⟩
   have hin:i<len:=by rw[hll]at hi2;exact hi2
   obtain⟨q1,q2,q3⟩:=hX i hin
   obtain⟨_,hcl',hat'⟩:=World.cells?_some q1
   refine⟨(X i).1,hcl',?_,fun j hj=>?_⟩
   ·rw[show((List.range len).map fun i=>(X i).2)[i]=(X i).2 by simp]
    exact q2
   ·have h5:=hat' j hj
    rw[add_add,Q9]at h5
    rw[Sb]
    exact h5
  ·obtain⟨i,hi2,rfl⟩:=R5.1 hb
   exact(hX i (Lm.1 hi2)).2.2
theorem ji{α:Type}{l:List α}(h:l.length=6): ∃a b c d e f,l=[a,b,c,d,e,f]:=by
 match l,h with | [a,b,c,d,e,f],_=>exact⟨a,b,c,d,e,f,rfl⟩
theorem nT{α:Type}{l:List α}(h:l.length=4): ∃a b c d,l=[a,b,c,d]:=by
 match l,h with | [a,b,c,d],_=>exact⟨a,b,c,d,rfl⟩
theorem jI{α:Type}{l:List α}(h:l.length=14): ∃a b c d e f g a' b' c' d' e' f' g',l=[a,b,c,d,e,f,g,a',b',c',d',e',f',g']:=by
 match l,h with | [a,b,c,d,e,f,g,a',b',c',d',e',f',g'],_=>exact⟨a,b,c,d,e,f,g,a',b',c',d',e',f',g',rfl⟩
theorem Dh{fuel:Nat}{cs:List Value}{x:DataW H×List MemPlace}(h:TR enc w fuel 32 cs x): ∃a:Nm,Jm w a cs:=by
 obtain⟨b,s,e,he,_⟩:=W3 h
 exact⟨⟨b,s,e⟩,he⟩
theorem eL:prog.cellsOf 58=6:=by kernel_rfl
theorem d8:prog.cellsOf 54=4:=by kernel_rfl
theorem il:prog.cellsOf 45=1:=by kernel_rfl
theorem Il:prog.cellsOf 48=2:=by kernel_rfl
theorem aD:prog.cellsOf 50=6:=by kernel_rfl
theorem Mr:prog.cellsOf 27=2:=by kernel_rfl
theorem Wc:prog.cellsOf 35=14:=by kernel_rfl
theorem mU:prog.cellsOf 23=1:=by kernel_rfl
theorem SX:prog.cellsOf 25=1:=by kernel_rfl
theorem RF:prog.cellsOf 28=1:=by kernel_rfl
theorem gI:prog.cellsOf 33=1:=by kernel_rfl
theorem fj:prog.cellsOf 46=1:=by kernel_rfl
abbrev BK(B:Nat)(d:DataW H): Prop:=Rows.uptoBulk d≤B
theorem gT{fuel:Nat}{cs:List Value}{x:DataW H×List MemPlace}(h:TR enc w fuel 58 cs x)(hB:BK B x.1): ∃a:Nm×Nm,WS w a cs∧True:=by
 obtain⟨hl,n,hf⟩:=J7 Tryz.underlying58 eL h hB
 obtain⟨c0,c1,c2,c3,c4,c5,rfl⟩:=ji hl
 obtain⟨y0,h0,_⟩:=(show ∃y,TR enc w n 32 [c0,c1,c2] y∧BK B y.1 from hf 0 _ 3 rfl ZJ)
 obtain⟨y1,h1,_⟩:=(show ∃y,TR enc w n 32 [c3,c4,c5] y∧BK B y.1 from hf 1 _ 3 rfl ZJ)
 obtain⟨a,ha⟩:=Dh h0
 obtain⟨b,hb⟩:=Dh h1
 refine⟨(a,b),?_,trivial⟩
 show[c0,c1,c2]++[c3,c4,c5]=QF a++QF b
 rw[show[c0,c1,c2]=QF a from ha,show[c3,c4,c5]=QF b from hb]
theorem jc{fuel:Nat}{cs:List Value}{x:DataW H×List MemPlace}(h:TR enc w fuel 54 cs x)(hB:BK B x.1): ∃a:Tm,Zl w a cs∧a.m.size≤B:=by
 obtain⟨hl,n,hf⟩:=J7 Tryz.underlying54 d8 h hB
 obtain⟨c0,c1,c2,c3,rfl⟩:=nT hl
 obtain⟨y0,h0,hb0⟩:=(show ∃y,TR enc w n 9 [c0] y∧BK B y.1 from hf 0 _ 1 rfl Bb)
 obtain⟨y1,h1,_⟩:=(show ∃y,TR enc w n 32 [c1,c2,c3] y∧BK B y.1 from hf 1 _ 3 rfl ZJ)
 obtain⟨s,hs,hy,_⟩:=DataW.trod_string Tryz.underlying9 h0
 obtain⟨b,hb⟩:=Dh h1
 refine⟨⟨s,b⟩,?_,?_⟩
 ·show[c0]++[c1,c2,c3]=[.string s]++QF b
  rw[hs,show[c1,c2,c3]=QF b from hb]
 ·have h5:Rows.uptoBulk y0.1≤B:=hb0
  rw[hy]at h5
  simp[Rows.uptoBulk]at h5
  show s.size≤B
  have h6:s.data.size=s.size:=rfl
  omega
theorem az{fuel:Nat}{cs:List Value}{x:DataW H×List MemPlace}(h:TR enc w fuel 45 cs x)(hB:BK B x.1): ∃a:List Nm,SN 0 w a cs∧a.length≤B:=by
 obtain⟨l,A,c,h1,h2,h3,_⟩:=Km (p:=Jm) (Q:=fun _=>True) nm0 Tryz.underlying45 ZJ (by decide) (fun _ _ _ h _=>by obtain⟨a,ha⟩:=Dh h;exact⟨a,ha,trivial⟩) h hB
 exact⟨l,⟨_,h1,h2⟩,h3⟩
def PQ(B:Nat)(p:Py): Prop:=p.ts.length≤B∧∀t,t∈p.ts→t.m.size≤B
theorem CC{fuel:Nat}{cs:List Value}{x:DataW H×List MemPlace}(h:TR enc w fuel 3 cs x): ∃e:Int,cs=[.int .i64 e]∧-9223372036854775808≤e∧e≤9223372036854775807:=by
 obtain⟨e,he,_,hw⟩:=DataW.trod_int Tryz.underlying3 h
 simp only[Lit.wf,R8,decide_eq_true_eq]at hw
 exact⟨e,he,hw.1,hw.2⟩
theorem ZC{a b:Value}(h:[a]=[b]): a=b:=by injection h
theorem F6{fuel:Nat}{cs:List Value}{x:DataW H×List MemPlace}(h:TR enc w fuel 48 cs x)(hB:BK B x.1): ∃a:Py,UJ 0 w a cs∧PQ B a:=by
 obtain⟨hl,n,hf⟩:=J7 Tryz.underlying48 Il h hB
 obtain⟨c0,c1,rfl⟩:=jw hl
 obtain⟨y0,h0,_⟩:=(show ∃y,TR enc w n 3 [c0] y∧BK B y.1 from hf 0 _ 1 rfl J5)
 obtain⟨y1,h1,hb1⟩:=(show ∃y,TR enc w n 46 [c1] y∧BK B y.1 from hf 1 _ 1 rfl fj)
 obtain⟨e,he,_⟩:=CC h0
 obtain⟨l,A,c,k1,k2,k3,k4⟩:=Km (p:=Zl) (Q:=fun t=>t.m.size≤B) GS Tryz.underlying46 d8 (by decide) (fun _ _ _ h hB=>jc h hB) h1 hb1
 rw[ZC he,ZC k1]
 exact⟨⟨e,l⟩,⟨_,rfl,k2⟩,k3,k4⟩
theorem iJ{fuel:Nat}{cs:List Value}{x:DataW H×List MemPlace}(h:TR enc w fuel 50 cs x)(hB:BK B x.1): ∃a:Nd,eW 0 w a cs∧PQ B a.sum:=by
 obtain⟨hl,n,hf⟩:=J7 Tryz.underlying50 aD h hB
 obtain⟨c0,c1,c2,c3,c4,c5,rfl⟩:=ji hl
 obtain⟨y0,h0,_⟩:=(show ∃y,TR enc w n 3 [c0] y∧BK B y.1 from hf 0 _ 1 rfl J5)
 obtain⟨y1,h1,_⟩:=(show ∃y,TR enc w n 32 [c1,c2,c3] y∧BK B y.1 from hf 1 _ 3 rfl ZJ)
 obtain⟨y2,h2,hb2⟩:=(show ∃y,TR enc w n 48 [c4,c5] y∧BK B y.1 from hf 2 _ 2 rfl Il)
 obtain⟨e,he,_⟩:=CC h0
 obtain⟨b,hb⟩:=Dh h1
 obtain⟨q,⟨v,hv,hq⟩,hQ⟩:=F6 h2 hb2
 have g1:=List.cons.inj (show[c1,c2,c3]=QF b from hb)
 have g2:=List.cons.inj g1.2
 have g3:=List.cons.inj hv
 rw[ZC he,g1.1,g2.1,ZC g2.2,g3.1,ZC g3.2]
 exact⟨⟨e,b,q⟩,⟨v,rfl,hq⟩,hQ⟩
theorem lO{r:Reach}{b0:Nat}{v:Value}{d:DataW H}(hval:Value.okWide prog w r b0 35 v)(h:DataW.Trod enc prog w 0 (fun _=>true) true 35 v d ps)(hB:Rows.uptoBulk d≤1048576):
  ∃(x:PV) (Ab As Ap Ar Ac:Option Addr) (cb cs kp kr cc:Nat),v=xA x Ab cb As cs Ap kp Ar kr Ac cc∧smallX x∧Five 0 w x (.slice Ab x.box.length cb) (.slice As x.pts.length cs) (.slice Ap x.ps.length kp) (.slice Ar x.rules.length kr) (.slice Ac x.cert.length cc):=by
 obtain⟨cs,rfl,hsz⟩:=okWide_struct Tryz.underlying35 hval
 obtain⟨fuel,hf0⟩:=h
 obtain⟨hl,n,hf⟩:=J7 (B:=1048576) Tryz.underlying35 Wc hf0 hB
 obtain⟨c0,c1,c2,c3,c4,c5,c6,c7,c8,c9,c10,c11,c12,c13,hcs⟩:=jI hl
 rw[hcs]at hf
 obtain⟨y0,h0,_⟩:=(show ∃y,TR enc w n 3 [c0] y∧BK 1048576 y.1 from hf 0 _ 1 rfl J5)
 obtain⟨y1,h1,_⟩:=(show ∃y,TR enc w n 3 [c1] y∧BK 1048576 y.1 from hf 1 _ 1 rfl J5)
 obtain⟨y2,h2,hb2⟩:=(show ∃y,TR enc w n 27 [c2,c3] y∧BK 1048576 y.1 from hf 2 _ 2 rfl Mr)
 obtain⟨y3,h3,hb3⟩:=(show ∃y,TR enc w n 28 [c4] y∧BK 1048576 y.1 from hf 3 _ 1 rfl RF)
 obtain⟨y4,h4,hb4⟩:=(show ∃y,TR enc w n 28 [c5] y∧BK 1048576 y.1 from hf 4 _ 1 rfl RF)
 obtain⟨y5,h5,_⟩:=(show ∃y,TR enc w n 32 [c6,c7,c8] y∧BK 1048576 y.1 from hf 5 _ 3 rfl ZJ)
 obtain⟨y6,h6,_⟩:=(show ∃y,TR enc w n 32 [c9,c10,c11] y∧BK 1048576 y.1 from hf 6 _ 3 rfl ZJ)
 obtain⟨y7,h7,_⟩:=(show ∃y,TR enc w n 3 [c12] y∧BK 1048576 y.1 from hf 7 _ 1 rfl J5)
 obtain⟨y8,h8,hb8⟩:=(show ∃y,TR enc w n 33 [c13] y∧BK 1048576 y.1 from hf 8 _ 1 rfl gI)
 obtain⟨_,n2,hg⟩:=J7 Tryz.underlying27 Mr h2 hb2
 obtain⟨z0,g0,gb0⟩:=(show ∃y,TR enc w n2 23 [c2] y∧BK 1048576 y.1 from hg 0 _ 1 rfl mU)
 obtain⟨z1,g1,gb1⟩:=(show ∃y,TR enc w n2 25 [c3] y∧BK 1048576 y.1 from hg 1 _ 1 rfl SX)
 obtain⟨kind,e0,_⟩:=CC h0
 obtain⟨vars,e1,ev⟩:=CC h1
 obtain⟨budget,e7,_⟩:=CC h7
 obtain⟨eps,e5⟩:=Dh h5
 obtain⟨delta,e6⟩:=Dh h6
 obtain⟨box,Ab,cb,e2,f2,n2',_⟩:=Km (p:=WS) (Q:=fun _=>True) (nm0,nm0) Tryz.underlying23 eL (by decide) (fun _ _ _ h hB=>gT h hB) g0 gb0
 obtain⟨pts,As,cs',e3,f3,n3,q3⟩:=Km (p:=SN 0) (Q:=fun l=>l.length≤1048576) [] Tryz.underlying25 il (by decide) (fun _ _ _ h hB=>az h hB) g1 gb1
 obtain⟨pl,Ap,kp,e4,f4,n4,q4⟩:=Km (p:=UJ 0) (Q:=PQ 1048576) jk Tryz.underlying28 Il (by decide) (fun _ _ _ h hB=>F6 h hB) h3 hb3
 obtain⟨rl,Ar,kr,e8,f8,n8,q8⟩:=Km (p:=UJ 0) (Q:=PQ 1048576) jk Tryz.underlying28 Il (by decide) (fun _ _ _ h hB=>F6 h hB) h4 hb4
 obtain⟨ct,Ac,cc,e9,f9,n9,q9⟩:=Km (p:=eW 0) (Q:=fun a=>PQ 1048576 a.sum) lk Tryz.underlying33 aD (by decide) (fun _ _ _ h hB=>iJ h hB) h8 hb8
 have u5:=List.cons.inj (show[c6,c7,c8]=QF eps from e5)
 have v5:=List.cons.inj u5.2
 have u6:=List.cons.inj (show[c9,c10,c11]=QF delta from e6)
 have v6:=List.cons.inj u6.2
 refine⟨⟨kind,vars,box,pts,pl,rl,eps,delta,budget,ct⟩,Ab,As,Ap,Ar,Ac,cb,cs',kp,kr,cc,R7 Value.agg (Array.toList_inj.1 ?_),⟨n2',n3,n4,n8,n9,q3,fun p hp=>(q4 p hp).1,fun p hp=>(q8 p hp).1,fun p hp=>(q9 p hp).1,fun p hp t ht=>?_,ev⟩,⟨f2,f3,f4,f8,f9⟩⟩
 ·rw[show cs.toList=_ from hcs,ZC e0,ZC e1,ZC e2,ZC e3,ZC e4,ZC e8,u5.1,v5.1,ZC v5.2,u6.1,v6.1,ZC v6.2,ZC e7,ZC e9]
 ·unfold GT at hp
  simp only[Rj,R5]at hp
  rcases hp with(hp|hp)|⟨q,hp,rfl⟩
  ·exact(q4 p hp).2 t ht
  ·exact(q8 p hp).2 t ht
  ·exact(q9 q hp).2 t ht
end
