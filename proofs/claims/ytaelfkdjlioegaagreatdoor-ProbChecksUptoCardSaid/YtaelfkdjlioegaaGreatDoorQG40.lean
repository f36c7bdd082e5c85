/- The walks and plain laws beneath the statements. -/
import Derived.Test.YtaelfkdjlioegaaGreatDoorQG38
namespace Go.Proofs.YtaelfkdjlioegaaGreatDoor
open Tryz
set_option maxRecDepth 100000
open Go Go.RowKit
variable{o:Oper}{v:Value}{Ac:Option Addr}{ct:List Nd}
def eG(c:Code)(i:Nat): Oper:=((VD c).toList[i]?).getD default
theorem DD{P:Program}{ops:Array Oper}{Q:Exit→Act→World→Prop}{i:Nat}{K:Act→World→Prop}{a:Act}{w:World}(hi:ops[i]?=some o)(hg:o.guard=none)(h:o.wp P a w K Q): wpOp P ops Q i K a w:=by
 unfold wpOp
 rw[hi]
 dsimp only
 rw[if_pos (by unfold Region.wanted;rw[hg])]
 exact .inl h
section
variable {P:Program} {Q:Exit→Act→World→Prop}
theorem PW{t x d:Nat}{a:Act}{w:World}{K:Act→World→Prop}(h1:o.op=.load t (.tmp x))(h2:o.dst=some d)(h:(Instr.loadAt t (a.tmps.getD x undef)).run P w=.ok v w)(hK:K (a.put (some d) v) w): o.wp P a w K Q:=by
 unfold Oper.wp
 have e:(execOp a.eval o).run P w=.ok (.value v) w:=by
  unfold execOp
  rw[h1]
  simp only[Sem.run_bind]
  rw[show a.eval (.tmp x)=a.tmps.getD x undef from rfl,h]
  rfl
 rw[e]
 show K (a.put o.dst v) w
 rw[h2];exact hK
theorem M4{t x y:Nat}{a:Act}{w w':World}{K:Act→World→Prop}(h1:o.op=.store t (.tmp x) (.tmp y))(h2:o.dst=none)(h:(Instr.storeAt t (a.tmps.getD x undef) (a.tmps.getD y undef)).run P w=.ok () w')(hK:K a w'): o.wp P a w K Q:=by
 unfold Oper.wp
 have e:(execOp a.eval o).run P w=.ok .skip w':=by
  unfold execOp
  rw[h1]
  simp only[Sem.run_bind]
  rw[show a.eval (.tmp x)=a.tmps.getD x undef from rfl,show a.eval (.tmp y)=a.tmps.getD y undef from rfl,h]
  rfl
 rw[e]
 show K (a.put o.dst undef) w'
 rw[h2];exact hK
theorem bK{d:Nat}{a:Act}{w:World}{K:Act→World→Prop}(h1:o.op=.assign (.const v))(h2:o.dst=some d)(hK:K (a.put (some d) v) w): o.wp P a w K Q:=by
 unfold Oper.wp
 have e:(execOp a.eval o).run P w=.ok (.value v) w:=by
  unfold execOp
  rw[h1]
  rfl
 rw[e]
 show K (a.put o.dst v) w
 rw[h2];exact hK
end
structure ShK (W:World) (N b1 b2:Nat) (lv dp:Int) (l0 l1 l4:Bool) (a:Act) (w:World):Prop where
 sz:a.tmps.size=N
 df:a.defers=[]
 p2:a.tmps.getD 2 undef=.pointer (some ⟨b1,0,none⟩)
 p3:a.tmps.getD 3 undef=.pointer (some ⟨b2,0,none⟩)
 v0:l0=true→a.tmps.getD 10 undef=.int .i64 lv
 v1:l1=true→a.tmps.getD 11 undef=.int .i64 dp
 v4:l4=true→a.tmps.getD 4 undef=.bool true
 x1:Bx w b1 3 #[.int .i64 lv]
 x2:Bx w b2 3 #[.int .i64 dp]
 lo:Below W.heap.size W w
 n1:W.heap.size≤b1
 n2:W.heap.size≤b2
theorem YR{a:Act}{d k:Nat}(h:d≠k): (a.put (some d) v).tmps.getD k undef=a.tmps.getD k undef:=by
 show(a.tmps.setIfInBounds d v).getD k undef=_
 rw[Array.getD_eq_getD_getElem?,Array.getD_eq_getD_getElem?,Array.getElem?_setIfInBounds_ne h]
theorem V7{a:Act}{d:Nat}(h:d<a.tmps.size): (a.put (some d) v).tmps.getD d undef=v:=by
 show(a.tmps.setIfInBounds d v).getD d undef=_
 rw[Array.getD_eq_getD_getElem?,Array.getElem?_setIfInBounds_self_of_lt h]
 rfl
section
variable {W:World} {N b1 b2:Nat} {lv dp:Int} {l0 l1 l4:Bool} {a:Act} {w:World}
theorem ShK.s0(h:ShK W N b1 b2 lv dp l0 l1 l4 a w)(hN:12≤N): ShK W N b1 b2 lv dp true l1 l4 (a.put (some 10) (.int .i64 lv)) w :=
 ⟨by simp[Act.put,h.sz],h.df,(YR (by decide)).trans h.p2,(YR (by decide)).trans h.p3,fun _=>V7 (by rw[h.sz];omega),fun e=>(YR (by decide)).trans (h.v1 e),fun e=>(YR (by decide)).trans (h.v4 e),h.x1,h.x2,h.lo,h.n1,h.n2⟩
theorem ShK.s1(h:ShK W N b1 b2 lv dp l0 l1 l4 a w)(hN:12≤N): ShK W N b1 b2 lv dp l0 true l4 (a.put (some 11) (.int .i64 dp)) w :=
 ⟨by simp[Act.put,h.sz],h.df,(YR (by decide)).trans h.p2,(YR (by decide)).trans h.p3,fun e=>(YR (by decide)).trans (h.v0 e),fun _=>V7 (by rw[h.sz];omega),fun e=>(YR (by decide)).trans (h.v4 e),h.x1,h.x2,h.lo,h.n1,h.n2⟩
theorem ShK.s4(h:ShK W N b1 b2 lv dp l0 l1 l4 a w)(hN:12≤N): ShK W N b1 b2 lv dp l0 l1 true (a.put (some 4) (.bool true)) w :=
 ⟨by simp[Act.put,h.sz],h.df,(YR (by decide)).trans h.p2,(YR (by decide)).trans h.p3,fun e=>(YR (by decide)).trans (h.v0 e),fun e=>(YR (by decide)).trans (h.v1 e),fun _=>V7 (by rw[h.sz];omega),h.x1,h.x2,h.lo,h.n1,h.n2⟩
theorem ShK.put(h:ShK W N b1 b2 lv dp l0 l1 l4 a w)(w':World)(hx1:Bx w' b1 3 #[.int .i64 lv])(hx2:Bx w' b2 3 #[.int .i64 dp])(hl:Below W.heap.size W w'): ShK W N b1 b2 lv dp l0 l1 l4 a w' :=
 ⟨h.sz,h.df,h.p2,h.p3,h.v0,h.v1,h.v4,hx1,hx2,hl,h.n1,h.n2⟩
theorem C7{b:Nat}{z:Int}{w:World}(h:Bx w b 3 #[.int .i64 z]): ∃w',(Instr.storeAt 3 (.pointer (some ⟨b,0,none⟩)) (.int .i64 z)).run prog w=.ok () w'∧(∀g t cs,Bx w g t cs→Bx w' g t cs)∧(∀B,B≤b→Below B w w'):=by
 have hrun:=BI (P:=prog) (t:=3) (o:=0) (v:=.int .i64 z) (Qk 3 _ rfl) h rfl (L3 1) (fun v hv=>by obtain rfl:=Rx.1 (show v∈[Value.int .i64 z]from hv);rfl)
 refine⟨_,hrun,fun g t cs hx=>?_,fun B hB=>?_⟩
 ·by_cases e:g=b
  ·subst e
   have h1:=h.stores [.int .i64 z] 0
   have h2:=(show w.heap[g]?=some (.cells #[.int .i64 z] 3 (0,0))from h).symm.trans (show w.heap[g]?=some (.cells cs t (0,0))from hx)
   simp only[Option.some.injEq,Obj.cells.injEq,and_true]at h2
   obtain⟨rfl,rfl⟩:=h2
   exact h1
  ·exact hx.farN e _ _
 ·refine⟨rfl,rfl,rfl,?_,fun k hk=>?_⟩
  ·exact Nat.le_of_eq (GQ _ _ _ _).symm
  ·exact Vt _ _ _ _ _ (by omega)
end
theorem fI{W:World}{N b1 b2:Nat}{lv dp:Int}{a:Act}{w:World}(h:ShK W N b1 b2 lv dp true true true a w)(hne:b1≠b2):
  Sat W (⟨N,[(2,.ptr 0 0),(3,.ptr 1 0),(4,bV true)],[some (3,[iV lv]),some (3,[iV dp])],[]⟩:St) ⟨fun i=>if i=0 then b1 else b2,fun _=>.bool false,fun _ _=>False⟩ a w:=by
 have hb:∀i p,Xk [some (3,[SV.val (.int .i64 lv)]),some (3,[SV.val (.int .i64 dp)])] i=some p→(i=0∧p=(3,[SV.val (.int .i64 lv)]))∨(i=1∧p=(3,[SV.val (.int .i64 dp)])):=fun i p hi=>by
  match i,hi with
  | 0,hi=>exact .inl ⟨rfl,(Option.some.inj hi).symm⟩
  | 1,hi=>exact .inr ⟨rfl,(Option.some.inj hi).symm⟩
  | n+2,hi=>cases hi
 refine⟨⟨h.lo,h.sz,fun k s hk=>?_,fun i t cs hi=>?_,(fun i R hi=>nomatch hi),(fun i hi=>absurd hi (Rc _))⟩,⟨fun i p hi=>?_,fun i j p q hi hj hij=>?_,(fun i R hi=>nomatch hi),(fun i j R R' hi=>nomatch hi),(fun i j p R hi hj=>nomatch hj)⟩,h.df⟩
 ·match k,hk with
  | 0,hk=>cases hk
  | 1,hk=>cases hk
  | 2,hk=>obtain rfl:=Option.some.inj hk;exact⟨h.p2,rfl⟩
  | 3,hk=>obtain rfl:=Option.some.inj hk;exact⟨h.p3,rfl⟩
  | 4,hk=>obtain rfl:=Option.some.inj hk;exact⟨h.v4 rfl,rfl⟩
  | n+5,hk=>cases hk
 ·rcases hb i _ hi with⟨rfl,e⟩|⟨rfl,e⟩
  ·injection e with e1 e2;subst e1;subst e2;exact⟨h.x1,rfl⟩
  ·injection e with e1 e2;subst e1;subst e2;exact⟨h.x2,rfl⟩
 ·rcases hb i p hi with⟨rfl,_⟩|⟨rfl,_⟩
  ·exact h.n1
  ·exact h.n2
 ·rcases hb i p hi with⟨rfl,_⟩|⟨rfl,_⟩<;>rcases hb j q hj with⟨rfl,_⟩|⟨rfl,_⟩
  ·exact absurd rfl hij
  ·exact hne
  ·exact hne.symm
  ·exact absurd rfl hij
noncomputable def shT:Code:=Ko 3 f92
theorem UU{W:World}{N b1 b2:Nat}{lv dp:Int}(hN:12≤N){Q:Exit→Act→World→Prop}{a:Act}{w:World}(h:ShK W N b1 b2 lv dp false false false a w)(hQ:∀a' w',ShK W N b1 b2 lv dp true true true a' w'→Q .ret a' w'): shT.wp prog Q a w:=by
 rw[show shT=.seq (.region 4 (VD (JZ shT)) true) .ret from by kernel_rfl]
 have o0:(VD (JZ shT))[0]?=some (eG (JZ shT) 0):=by kernel_rfl
 have o1:(VD (JZ shT))[1]?=some (eG (JZ shT) 1):=by kernel_rfl
 have o2:(VD (JZ shT))[2]?=some (eG (JZ shT) 2):=by kernel_rfl
 have o3:(VD (JZ shT))[3]?=some (eG (JZ shT) 3):=by kernel_rfl
 have o4:(VD (JZ shT))[4]?=some (eG (JZ shT) 4):=by kernel_rfl
 refine wp_seq (wp_region_any mixed ?_)
 rw[show(VD (JZ shT)).size=5 from by kernel_rfl]
 have k:∀ {K:Act→World→Prop} {l0 l1 l4:Bool} {a:Act} {w:World},ShK W N b1 b2 lv dp l0 l1 l4 a w→(∀w',ShK W N b1 b2 lv dp l0 l1 l4 a w'→K a w')→(l0=true→wpOp prog (VD (JZ shT)) (Exit.then (Code.ret.wp prog Q) Q) 2 K a w)∧(l1=true→wpOp prog (VD (JZ shT)) (Exit.then (Code.ret.wp prog Q) Q) 3 K a w):=fun {K l0 l1 l4 a w} h hK=>by
  constructor
  ·intro hl
   obtain⟨w',r1,r2,r3⟩:=C7 h.x1
   refine DD o2 (by kernel_rfl) (M4 (t:=3) (x:=2) (y:=10) (by kernel_rfl) (by kernel_rfl) (by rw[h.p2,h.v0 hl];exact r1) (hK w' (h.put w' (r2 _ _ _ h.x1) (r2 _ _ _ h.x2) (h.lo.trans (r3 _ h.n1)))))
  ·intro hl
   obtain⟨w',r1,r2,r3⟩:=C7 h.x2
   refine DD o3 (by kernel_rfl) (M4 (t:=3) (x:=3) (y:=11) (by kernel_rfl) (by kernel_rfl) (by rw[h.p3,h.v1 hl];exact r1) (hK w' (h.put w' (r2 _ _ _ h.x1) (r2 _ _ _ h.x2) (h.lo.trans (r3 _ h.n2)))))
 have k0:∀ {K:Act→World→Prop} {l0 l1 l4:Bool} {a:Act} {w:World},ShK W N b1 b2 lv dp l0 l1 l4 a w→(∀a',ShK W N b1 b2 lv dp true l1 l4 a' w→K a' w)→wpOp prog (VD (JZ shT)) (Exit.then (Code.ret.wp prog Q) Q) 0 K a w:=fun {K l0 l1 l4 a w} h hK =>
  DD o0 (by kernel_rfl) (PW (t:=3) (x:=2) (d:=10) (v:=.int .i64 lv) (by kernel_rfl) (by kernel_rfl) (by rw[h.p2];exact By (cs:=[.int .i64 lv]) h.x1 rfl _ (Below.refl _ _)) (hK _ (h.s0 hN)))
 have k1:∀ {K:Act→World→Prop} {l0 l1 l4:Bool} {a:Act} {w:World},ShK W N b1 b2 lv dp l0 l1 l4 a w→(∀a',ShK W N b1 b2 lv dp l0 true l4 a' w→K a' w)→wpOp prog (VD (JZ shT)) (Exit.then (Code.ret.wp prog Q) Q) 1 K a w:=fun {K l0 l1 l4 a w} h hK =>
  DD o1 (by kernel_rfl) (PW (t:=3) (x:=3) (d:=11) (v:=.int .i64 dp) (by kernel_rfl) (by kernel_rfl) (by rw[h.p3];exact By (cs:=[.int .i64 dp]) h.x2 rfl _ (Below.refl _ _)) (hK _ (h.s1 hN)))
 have e4:∀a w,ShK W N b1 b2 lv dp true true false a w→wpAny prog .any (VD (JZ shT)) (Exit.then (Code.ret.wp prog Q) Q) 1 #[true,true,true,true,false] a w:=fun a w h =>
  wpAny_all (rs:=[4]) (by kernel_rfl) (by simp) fun i hi=>by
   obtain rfl:=Rx.1 hi
   refine DD o4 (by kernel_rfl) (bK (d:=4) (v:=.bool true) (by kernel_rfl) (by kernel_rfl) ?_)
   exact wpAny_done (by kernel_rfl) (wp_ret (hQ _ _ (h.s4 hN))) 0
 have e3:∀a w,ShK W N b1 b2 lv dp true true false a w→wpAny prog .any (VD (JZ shT)) (Exit.then (Code.ret.wp prog Q) Q) 2 #[true,true,true,false,false] a w:=fun a w h =>
  wpAny_all (rs:=[3]) (by kernel_rfl) (by simp) fun i hi=>by
   obtain rfl:=Rx.1 hi
   exact(k h fun w' h'=>e4 a w' h').2 rfl
 have e2:∀a w,ShK W N b1 b2 lv dp true true false a w→wpAny prog .any (VD (JZ shT)) (Exit.then (Code.ret.wp prog Q) Q) 3 #[true,true,false,false,false] a w:=fun a w h =>
  wpAny_all (rs:=[2]) (by kernel_rfl) (by simp) fun i hi=>by
   obtain rfl:=Rx.1 hi
   exact(k h fun w' h'=>e3 a w' h').1 rfl
 have e2':∀a w,ShK W N b1 b2 lv dp true false false a w→wpAny prog .any (VD (JZ shT)) (Exit.then (Code.ret.wp prog Q) Q) 3 #[true,false,true,false,false] a w:=fun a w h =>
  wpAny_all (rs:=[1]) (by kernel_rfl) (by simp) fun i hi=>by
   obtain rfl:=Rx.1 hi
   exact k1 h fun a' h'=>e3 a' w h'
 have e1:∀a w,ShK W N b1 b2 lv dp true false false a w→wpAny prog .any (VD (JZ shT)) (Exit.then (Code.ret.wp prog Q) Q) 4 #[true,false,false,false,false] a w:=fun a w h =>
  wpAny_all (rs:=[1,2]) (by kernel_rfl) (by simp) fun i hi=>by
   rcases Lp.1 hi with rfl|hi
   ·exact k1 h fun a' h'=>e2 a' w h'
   ·obtain rfl:=Rx.1 hi
    exact(k h fun w' h'=>e2' a w' h').1 rfl
 have e1':∀a w,ShK W N b1 b2 lv dp false true false a w→wpAny prog .any (VD (JZ shT)) (Exit.then (Code.ret.wp prog Q) Q) 4 #[false,true,false,false,false] a w:=fun a w h =>
  wpAny_all (rs:=[0]) (by kernel_rfl) (by simp) fun i hi=>by
   obtain rfl:=Rx.1 hi
   exact k0 h fun a' h'=>e2 a' w h'
 have hd:ShK W N b1 b2 lv dp false false false a { w with drawn:=w.drawn+1 }:=h.put _ h.x1.drew h.x2.drew h.lo.drew
 refine wpAny_all (rs:=[0,1]) (by kernel_rfl) (by simp) fun i hi=>?_
 rcases Lp.1 hi with rfl|hi
 ·exact k0 hd fun a' h'=>e1 a' _ h'
 ·obtain rfl:=Rx.1 hi
  exact k1 hd fun a' h'=>e1' a' _ h'
theorem pq{n:Nat}(h:0<n)(hn:n≤4294967296): IntKind.i64.wrap ((n:Int)-1)=((n-1:Nat):Int):=by
 rw[Ln _ (by omega)]
 omega
theorem ja{cc:Nat}{Ua:Nat→Option Addr}{Un Uc:Nat→Nat}(W:World)(HC:RdK W Ac ct.length 6 (eY ct Ua Un Uc)): An prog tt W f92 (ia (KP 3 f92) (⟨12,[(2,.ptr 1 0),(3,.ptr 2 0)],[none,some (3,[iV (FD ct ct.length)]),some (3,[iV (IP ct ct.length)])],[]⟩:St) (EF ct=true)) (MR 12 [.slice Ac ct.length cc]) [.inl 1 2 f118,.both [] [.row 4 99999 3 [5,12] 3 1 GR ([0]) (fun(y1:Hp)=>[.lop (fun(q1:Nat×Hp)=>(⟨53,[(0,lV Ac ct.length cc),(1,.clo (.func 119) [] [.ptr 0 0,.ptr 1 0,.ptr 2 0]),(5,lV q1.2.1 ((XA ct q1.1)).length q1.2.2),(13,lV Ac ct.length cc),(14,iV (ct.length:Int)),(15,iV (q1.1:Int))],[none,some (3,[iV (FD ct q1.1)]),some (3,[iV (IP ct q1.1)])],[some (Qd 3 1 GR (XA ct q1.1) q1.2.1 q1.2.2)]⟩:St)) (fun(q1:Nat×Hp)=>(q1.1≤ct.length∧∀j,j<q1.1→((((XA ct j).length:Nat):Int)==0)=false)) (fun(q1:Nat×Hp)=>(ct.length-q1.1)) ((0,y1):Nat×Hp) (fun(q1:Nat×Hp) (u:List Hp)=>(q1.1+1,u.headD (none,0))) (fun(q1:Nat×Hp)=>[.both [.o 6 1 (.set (.pointer (some (QJ Ac (q1.1*6+0))))),.o 6 2 (.set (.agg #[.int .i64 ((Qc ct q1.1).split),.bool ((Qc ct q1.1).scale.b),.string ((Qc ct q1.1).scale.s),.int .i64 ((Qc ct q1.1).scale.e),.int .i64 ((Qc ct q1.1).sum.vars),.slice (Ua q1.1) (Un q1.1) (Uc q1.1)])),.both [] [.o 9 3 (.eq (iV (((XA ct q1.1).length-1:Nat):Int))),.o 9 4 (.rd [0] (.pointer (some (QJ q1.2.1 (((XA ct q1.1).length-1)*1+0))))),.o 9 5 (.rd [0] (.int .i64 (List.getD (XA ct q1.1) ((XA ct q1.1).length-1) 0))),.o 10 3 (.eq (iV (((XA ct q1.1).length-1:Nat):Int))),.eff 10 4 0 (fun(y2:Hp)=>Value.slice y2.1 (((XA ct q1.1).take ((XA ct q1.1).length-1))).length y2.2) (fun(y2:Hp)=>Qd 3 1 GR ((XA ct q1.1).take ((XA ct q1.1).length-1)) y2.1 y2.2) (fun(y2:Hp)=>[.inl 11 3 f119,.o 1 2 (.set (.pointer (some (QJ Ac (q1.1*6+0))))),.o 1 3 (.set (.pointer (some (QJ Ac (q1.1*6+0))))),.o 1 4 (.set (.int .i64 ((Qc ct q1.1).split))),.both [.o 3 2 (.set (.int .i64 (IP ct (q1.1+1)))),.br false,.br false,.o 15 0 (.eq (iV ((q1.1+1:Nat):Int))),.nxt [y2]] [.o 3 2 (.set (.int .i64 (IP ct (q1.1+1)))),.br false,.br true,.eff 14 6 0 (fun(y3:Hp)=>Value.slice y3.1 ((((XA ct q1.1).take ((XA ct q1.1).length-1))++[IntKind.i64.wrap (EH (XA ct q1.1)+1),IntKind.i64.wrap (EH (XA ct q1.1)+1)])).length y3.2) (fun(y3:Hp)=>Qd 3 1 GR (((XA ct q1.1).take ((XA ct q1.1).length-1))++[IntKind.i64.wrap (EH (XA ct q1.1)+1),IntKind.i64.wrap (EH (XA ct q1.1)+1)]) y3.1 y3.2) (fun(y3:Hp)=>[.o 15 0 (.eq (iV ((q1.1+1:Nat):Int))),.nxt [y3]])]])]] [.both [] [.esc 4]]])])]] (fun e σ _=>JX tt (f92).results.toList e σ fun s=>ZQ s.plain (s.den e0=dC ct)) :=
 let Z0:OB:=some (33,[lV Ac ct.length cc]);Ye (ZG func118 (fun a w=>call118 a w)<|Q4 (decide ((ct.length:Int)>4096)) (fun h0=>(show(.tuple #[.int .i64 0,.int .i64 0,.bool false]:Value)=dC ct from by have hB:EF ct=false:=(by unfold EF;rw[h0];rfl);unfold dC;rw[hB];rfl)) fun h0=>ai (show([.int .i64 0]:List Value)=List.flatMap GR ([0])from rfl)<|ai (And.intro Gb (show([0]).length≤maxLen from(by simp[maxLen]))) fun(y1:Hp)=>Yz (qV (.slice Ac ct.length cc)) (Sf (.func 119:Fn)) (qV (.slice y1.1 ((XA ct 0)).length y1.2)) (qV (.slice Ac ct.length cc)) (qI (ct.length:Int)) (qI ((0:Nat):Int)) (qk Z0) (qI (FD ct 0))<|ZG (qI (IP ct 0)) (Kl (Qd 3 1 GR ([0]) y1.1 y1.2) (Qd 3 1 GR (XA ct 0) y1.1 y1.2) fun _ _ _ h=>h)<|ai (show 0≤ct.length∧∀j,j<0→((((XA ct j).length:Nat):Int)==0)=false from⟨L9 _,fun j hj=>absurd hj (Rc _)⟩) fun(q1:Nat×Hp) (hk1:(q1.1≤ct.length∧∀j,j<q1.1→((((XA ct j).length:Nat):Int)==0)=false))=>Q4 (decide ((q1.1:Int)<(ct.length:Int))) (fun hl=>ZG (Xb (c:=cc) (i:=q1.1) HC (Qm hl)) (KA (i:=q1.1) (o:=0) HC (Qm hl) (by decide) rfl rfl)<|Q4 (((((XA ct q1.1)).length:Nat):Int)==0) (fun he=>(show(.tuple #[.int .i64 0,.int .i64 0,.bool false]:Value)=dC ct from by have hB:EF ct=false:=(by unfold EF;rw[h0,QA (Qm hl) he];rfl);unfold dC;rw[hB];rfl)) fun he=>Jj (show IntKind.i64.wrap ((((XA ct q1.1).length:Nat):Int)-1)=(((XA ct q1.1).length-1:Nat):Int)from pq (CU he) (by have:=AH ct q1.1;have:=L1 hl;have:=La h0;omega)) (Jr (w0:=W) (e:=3) (k:=1) (c:=GR) (l:=(XA ct q1.1)) (A:=q1.2.1) (cp:=q1.2.2) Gb 0 (fun W' HR=>ie (w0:=W') (c:=q1.2.2) (i:=(XA ct q1.1).length-1) HR (show((XA ct q1.1).length-1)<((XA ct q1.1)).length from by have:=CU he;omega))) (Jr (w0:=W) (e:=3) (k:=1) (c:=GR) (l:=(XA ct q1.1)) (A:=q1.2.1) (cp:=q1.2.2) Gb 0 (fun W' HR=>KH (w0:=W') (i:=(XA ct q1.1).length-1) (o:=0) HR (show((XA ct q1.1).length-1)<((XA ct q1.1)).length from by have:=CU he;omega) (by decide) rfl)) (show IntKind.i64.wrap ((((XA ct q1.1).length:Nat):Int)-1)=(((XA ct q1.1).length-1:Nat):Int)from pq (CU he) (by have:=AH ct q1.1;have:=L1 hl;have:=La h0;omega))<|ai (O9 (w0:=W) (Qk 171 _ rfl) rfl (by decide) Gb (m:=(XA ct q1.1).length-1) (l:=(XA ct q1.1)) (A:=q1.2.1) (cp:=q1.2.2) (by omega) (CU he)) fun(y2:Hp)=>ZP func119 (fun a w=>call119 a w) (Xb (c:=cc) (i:=q1.1) HC (Qm hl)) (J6 (w0:=W) (A:=Ac) (i:=q1.1) (k:=6) (o:=0)) (KH (i:=q1.1) (o:=0) HC (Qm hl) (by decide) rfl)<|Q4 (((Qc ct q1.1).split)==0) (fun hs=>Yz (show Qt prog W (Builtin.max_ #[3,3] 3 #[.int .i64 (IP ct q1.1),.int .i64 (EH (XA ct q1.1))]) (.int .i64 (IP ct (q1.1+1)))from JP _ _ _ _ _ _ _) (rfl:false=false) (show((Qc ct q1.1).split != 0)=false from by show(!((Qc ct q1.1).split==0))=_;rw[hs];rfl) (Qq (n:=q1.1) (by have:=L1 hl;have:=La h0;omega)) (qV (.slice Ac ct.length cc)) (Sf (.func 119:Fn)) (show(.slice y2.1 (((XA ct q1.1).take ((XA ct q1.1).length-1))).length y2.2:Value)=(.slice y2.1 ((XA ct (q1.1+1))).length y2.2)from(by rw[P3 hs])) (qV (.slice Ac ct.length cc))<|KW (qI (ct.length:Int)) (qI (((q1.1+1):Nat):Int)) (qk Z0) (show(IntKind.i64.wrap ((FD ct q1.1)+1):Int)=(FD ct (q1.1+1))from(mz hs).symm) (qI (IP ct (q1.1+1))) (Kl (Qd 3 1 GR ((XA ct q1.1).take ((XA ct q1.1).length-1)) y2.1 y2.2) (Qd 3 1 GR (XA ct (q1.1+1)) y2.1 y2.2) fun _ _ _ h=>Xe (by rw[P3 hs]) (by rw[P3 hs]) h)<|ai (show q1.1+1≤ct.length∧∀j,j<q1.1+1→((((XA ct j).length:Nat):Int)==0)=false from⟨Qm hl,fun j hj=>by rcases Ra j q1.1 with h|h;exact hk1.2 j h;exact(show j=q1.1 by omega)▸he⟩) (show ct.length-(q1.1+1)<ct.length-q1.1 from by have:=L1 hl;omega)) fun hs=>Kr (show Qt prog W (Builtin.max_ #[3,3] 3 #[.int .i64 (IP ct q1.1),.int .i64 (EH (XA ct q1.1))]) (.int .i64 (IP ct (q1.1+1)))from JP _ _ _ _ _ _ _) (rfl:false=false) (show((Qc ct q1.1).split != 0)=true from by show(!((Qc ct q1.1).split==0))=_;rw[hs];rfl)<|ai (Jv (w0:=W) (ty:=171) (c:=GR) (l:=((XA ct q1.1).take ((XA ct q1.1).length-1))) (l2:=[IntKind.i64.wrap (EH (XA ct q1.1)+1),IntKind.i64.wrap (EH (XA ct q1.1)+1)]) (l':=(((XA ct q1.1).take ((XA ct q1.1).length-1))++[IntKind.i64.wrap (EH (XA ct q1.1)+1),IntKind.i64.wrap (EH (XA ct q1.1)+1)])) (A:=y2.1) (cp:=y2.2) (bt:=3) (m:=2) (cp2:=2) (cs:=[.int .i64 (IntKind.i64.wrap ((List.getD (XA ct q1.1) ((XA ct q1.1).length-1) 0)+1)),.int .i64 (IntKind.i64.wrap ((List.getD (XA ct q1.1) ((XA ct q1.1).length-1) 0)+1))]) F5 Gb am rfl (show((((XA ct q1.1).take ((XA ct q1.1).length-1))++[IntKind.i64.wrap (EH (XA ct q1.1)+1),IntKind.i64.wrap (EH (XA ct q1.1)+1)])).length*8≤140737488355328 from by have:=AH ct q1.1;have:=L1 hl;have:=La h0;simp;omega) rfl rfl) fun(y3:Hp)=>Yz (Qq (n:=q1.1) (by have:=L1 hl;have:=La h0;omega)) (qV (.slice Ac ct.length cc)) (Sf (.func 119:Fn)) (show(.slice y3.1 ((((XA ct q1.1).take ((XA ct q1.1).length-1))++[IntKind.i64.wrap (EH (XA ct q1.1)+1),IntKind.i64.wrap (EH (XA ct q1.1)+1)])).length y3.2:Value)=(.slice y3.1 ((XA ct (q1.1+1))).length y3.2)from(by rw[Pk hs])) (qV (.slice Ac ct.length cc)) (qI (ct.length:Int)) (qI (((q1.1+1):Nat):Int)) (qk Z0)<|Kr (show((FD ct q1.1):Int)=(FD ct (q1.1+1))from(m6 hs).symm) (qI (IP ct (q1.1+1))) (Kl (Qd 3 1 GR (((XA ct q1.1).take ((XA ct q1.1).length-1))++[IntKind.i64.wrap (EH (XA ct q1.1)+1),IntKind.i64.wrap (EH (XA ct q1.1)+1)]) y3.1 y3.2) (Qd 3 1 GR (XA ct (q1.1+1)) y3.1 y3.2) fun _ _ _ h=>Xe (by rw[Pk hs]) (by rw[Pk hs]) h)<|ai (show q1.1+1≤ct.length∧∀j,j<q1.1+1→((((XA ct j).length:Nat):Int)==0)=false from⟨Qm hl,fun j hj=>by rcases Ra j q1.1 with h|h;exact hk1.2 j h;exact(show j=q1.1 by omega)▸he⟩) (show ct.length-(q1.1+1)<ct.length-q1.1 from by have:=L1 hl;omega)) fun hl=>Q4 (!(((((XA ct q1.1)).length:Nat):Int)==0)) (fun hz=>(show(.tuple #[.int .i64 0,.int .i64 0,.bool false]:Value)=dC ct from by have e1:q1.1=ct.length:=(by have:=La hl;have:=hk1.1;omega);have hB:EF ct=((((XA ct ct.length).length:Nat):Int)==0):=(by unfold EF;rw[h0,Yp (fun j hj=>hk1.2 j (by omega))];rfl);unfold dC;rw[hB,← e1,show((((XA ct q1.1).length:Nat):Int)==0)=false from by revert hz;cases ((((XA ct q1.1).length:Nat):Int)==0)<;>simp];rfl)) fun hz=>Jj (show KP 3 f92=some shT from by kernel_rfl) (show EF ct=true from(by have e1:q1.1=ct.length:=(by have:=La hl;have:=hk1.1;omega);unfold EF;rw[h0,Yp (fun j hj=>hk1.2 j (by omega)),← e1,show((((XA ct q1.1).length:Nat):Int)==0)=true from by revert hz;cases ((((XA ct q1.1).length:Nat):Int)==0)<;>simp];rfl)) (R7 (fun(z:Int)=>(some (3,[iV z]):OB)) (show((FD ct q1.1):Int)=(FD ct ct.length)from(by rw[show q1.1=ct.length from by have:=La hl;have:=hk1.1;omega]))) (R7 (fun(z:Int)=>(some (3,[iV z]):OB)) (show((IP ct q1.1):Int)=(IP ct ct.length)from(by rw[show q1.1=ct.length from by have:=La hl;have:=hk1.1;omega])))<|trivial) (by kernel_rfl)
theorem fi{cc:Nat}{Ua:Nat→Option Addr}{Un Uc:Nat→Nat}(w:World)(hc:RdK w Ac ct.length 6 (eY ct Ua Un Uc)): RetAt prog w 92 #[.slice Ac ct.length cc] (dC ct):=by
 refine Im Qk mixed (fun a w=>call92 a w) func92 (args:=[.slice Ac ct.length cc]) (by kernel_rfl) fun W hW=>⟨_,_,ja W (hc.below (fun _=>rfl) hW),fun b σ r a w1 he hS=>?_⟩
 obtain⟨hb,hB,hS1⟩:=BQ he hS
 have e1:b=shT:=(Iz hb).symm
 rw[e1]
 refine UU (W:=W) (N:=12) (b1:=r.b 1) (b2:=r.b 2) (lv:=FD ct ct.length) (dp:=IP ct ct.length) (by decide) ⟨hS1.see.size,by rw[show(Yg (Jc []) a).defers=a.defers from by simp[Yg,Jc]];exact hS1.defers,(hS1.see.ts 2 (.ptr 1 0) rfl).1,(hS1.see.ts 3 (.ptr 2 0) rfl).1,(fun h=>nomatch h),(fun h=>nomatch h),(fun h=>nomatch h),(hS1.see.bs 1 _ _ rfl).1,(hS1.see.bs 2 _ _ rfl).1,hS1.see.low,hS1.sep.own 1 _ rfl,hS1.sep.own 2 _ rfl⟩ fun a' w' h=>?_
 have hne:r.b 1≠r.b 2:=hS1.sep.inj 1 2 _ _ rfl rfl (by decide)
 have hS2:=fI h hne
 have h3:=Nl (fn:=f92) (v:=dC ct) (Ds:=[]) Qk hS2 rfl (Ye (show(.tuple #[.int .i64 (FD ct ct.length),.int .i64 (IP ct ct.length),.bool true]:Value)=dC ct from by unfold dC;rw[hB];rfl) (by kernel_rfl)) List.nodup_nil (fun D hD=>nomatch hD)
 rwa [show Yg (Jc []) a'=a' by simp[Yg,Jc]]at h3
theorem WX{lo:Nat}{many:Int}{cc:Nat}{Ua:Nat→Option Addr}{Un Uc:Nat→Nat}(hn:ct.length≤4294967296)(hok:∀p,p∈ct→okP p.sum)(w:World)(hT:Yk w)(hc:RdK w Ac ct.length 6 (eY ct Ua Un Uc))(hs:∀j,j<ct.length→SlV lo 4 Zl w (Qc ct j).sum.ts (.slice (Ua j) (Un j) (Uc j))): RetAt prog w 58 #[.slice Ac ct.length cc,.int .i64 many] (.bool (Zw many ct)) :=
 have E0:=eB (Zw many ct);Qi Qk mixed (fun a w=>call58 a w) func58 ntmps58 results58 _ rfl _ [.both [] [.o 3 1 (.ret (.tup [iV (bif EF ct then FD ct ct.length else 0),iV (bif EF ct then IP ct ct.length else 0),bV (EF ct)])),.gb 4 2 [.o 4 4 (.ret (bV (Q3 ct.length fun j=>Yc many (Qc ct j))))] []]] (fun W hW hR=>have HC:=hc.up hW (fun _=>rfl);(fun(HN:∀j,j<ct.length→SlV lo 4 Zl W (Qc ct j).sum.ts (.slice (Ua j) (Un j) (Uc j)))=>(fun(hT:Yk W)=>Q4 ((ct.length:Int)==0) (fun h1=>(E0 true (by unfold Zw;rw[h1];rfl))) fun h1=>ai (show RetAt prog W 92 #[.slice Ac ct.length cc] (.tuple #[.int .i64 (bif EF ct then FD ct ct.length else 0),.int .i64 (bif EF ct then IP ct ct.length else 0),.bool (EF ct)])from fi W HC)<|XC (EF ct) true (fun h2=>ai (lZ call93 fun V hV g hx=>kN (many:=many) (c:=cc) hn hok V (Qn hT hV) hx (HC.below (fun _=>rfl) hV) (fun j hj=>(HN j hj).below Xo hV))<|(E0 (!(Q3 ct.length fun j=>Yc many (Qc ct j))) (by unfold Zw;rw[h1,h2];rfl))) fun h2=>(E0 false (by unfold Zw;rw[h1,h2];rfl))) (Qn hT hW)) (fun j hj=>(hs j hj).below Xo hW)) fun W=>by kernel_rfl
