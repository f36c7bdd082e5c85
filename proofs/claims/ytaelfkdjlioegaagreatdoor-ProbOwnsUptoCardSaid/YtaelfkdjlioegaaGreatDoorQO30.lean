/- The walks and plain laws beneath the statements. -/
import Derived.Test.YtaelfkdjlioegaaGreatDoorQO19
import Derived.Test.YtaelfkdjlioegaaGreatDoorQO23
namespace Go.Proofs.YtaelfkdjlioegaaGreatDoor
set_option maxRecDepth 100000
open Go Go.RowKit
def opIn(c:Code)(i:Nat): Oper:=((rnO c).toList[i]?).getD default
theorem wpOp_of{P:Program}{ops:Array Oper}{Q:Exit→Act→World→Prop}{i:Nat}{o:Oper}{K:Act→World→Prop}{a:Act}{w:World}(hi:ops[i]?=some o)(hg:o.guard=none)(h:o.wp P a w K Q): wpOp P ops Q i K a w:=by
 unfold wpOp
 rw[hi]
 dsimp only
 rw[if_pos (by unfold Region.wanted;rw[hg])]
 exact .inl h
section
variable {P:Program} {Q:Exit→Act→World→Prop}
theorem op_load{o:Oper}{t x d:Nat}{v:Value}{a:Act}{w:World}{K:Act→World→Prop}(h1:o.op=.load t (.tmp x))(h2:o.dst=some d)(h:(Instr.loadAt t (a.tmps.getD x undef)).run P w=.ok v w)(hK:K (a.put (some d) v) w): o.wp P a w K Q:=by
 unfold Oper.wp
 have e:(execOp a.eval o).run P w=.ok (.value v) w:=by
  unfold execOp
  rw[h1]
  simp only[Sem.run_bind]
  rw[show a.eval (.tmp x)=a.tmps.getD x undef from rfl,h]
  rfl
 rw[e]
 show K (a.put o.dst v) w
 rw[h2];exact hK
theorem op_store{o:Oper}{t x y:Nat}{a:Act}{w w':World}{K:Act→World→Prop}(h1:o.op=.store t (.tmp x) (.tmp y))(h2:o.dst=none)(h:(Instr.storeAt t (a.tmps.getD x undef) (a.tmps.getD y undef)).run P w=.ok () w')(hK:K a w'): o.wp P a w K Q:=by
 unfold Oper.wp
 have e:(execOp a.eval o).run P w=.ok .skip w':=by
  unfold execOp
  rw[h1]
  simp only[Sem.run_bind]
  rw[show a.eval (.tmp x)=a.tmps.getD x undef from rfl,show a.eval (.tmp y)=a.tmps.getD y undef from rfl,h]
  rfl
 rw[e]
 show K (a.put o.dst undef) w'
 rw[h2];exact hK
theorem op_const{o:Oper}{d:Nat}{v:Value}{a:Act}{w:World}{K:Act→World→Prop}(h1:o.op=.assign (.const v))(h2:o.dst=some d)(hK:K (a.put (some d) v) w): o.wp P a w K Q:=by
 unfold Oper.wp
 have e:(execOp a.eval o).run P w=.ok (.value v) w:=by
  unfold execOp
  rw[h1]
  rfl
 rw[e]
 show K (a.put o.dst v) w
 rw[h2];exact hK
end
structure ShK (W:World) (N b1 b2:Nat) (lv dp:Int) (l0 l1 l4:Bool) (a:Act) (w:World):Prop where
 sz:a.tmps.size=N
 df:a.defers=[]
 p2:a.tmps.getD 2 undef=.pointer (some ⟨b1,0,none⟩)
 p3:a.tmps.getD 3 undef=.pointer (some ⟨b2,0,none⟩)
 v0:l0=true→a.tmps.getD 10 undef=.int .i64 lv
 v1:l1=true→a.tmps.getD 11 undef=.int .i64 dp
 v4:l4=true→a.tmps.getD 4 undef=.bool true
 x1:Bx w b1 3 #[.int .i64 lv]
 x2:Bx w b2 3 #[.int .i64 dp]
 lo:Below W.heap.size W w
 n1:W.heap.size≤b1
 n2:W.heap.size≤b2
theorem getD_put{a:Act}{d k:Nat}{v:Value}(h:d≠k): (a.put (some d) v).tmps.getD k undef=a.tmps.getD k undef:=by
 show(a.tmps.setIfInBounds d v).getD k undef=_
 rw[Array.getD_eq_getD_getElem?,Array.getD_eq_getD_getElem?,Array.getElem?_setIfInBounds_ne h]
theorem getD_put_at{a:Act}{d:Nat}{v:Value}(h:d<a.tmps.size): (a.put (some d) v).tmps.getD d undef=v:=by
 show(a.tmps.setIfInBounds d v).getD d undef=_
 rw[Array.getD_eq_getD_getElem?,Array.getElem?_setIfInBounds_self_of_lt h]
 rfl
section
variable {W:World} {N b1 b2:Nat} {lv dp:Int} {l0 l1 l4:Bool} {a:Act} {w:World}
theorem ShK.s0(h:ShK W N b1 b2 lv dp l0 l1 l4 a w)(hN:12≤N): ShK W N b1 b2 lv dp true l1 l4 (a.put (some 10) (.int .i64 lv)) w :=
 ⟨by simp[Act.put,h.sz],h.df,(getD_put (by decide)).trans h.p2,(getD_put (by decide)).trans h.p3,fun _=>getD_put_at (by rw[h.sz];omega),fun e=>(getD_put (by decide)).trans (h.v1 e),fun e=>(getD_put (by decide)).trans (h.v4 e),h.x1,h.x2,h.lo,h.n1,h.n2⟩
theorem ShK.s1(h:ShK W N b1 b2 lv dp l0 l1 l4 a w)(hN:12≤N): ShK W N b1 b2 lv dp l0 true l4 (a.put (some 11) (.int .i64 dp)) w :=
 ⟨by simp[Act.put,h.sz],h.df,(getD_put (by decide)).trans h.p2,(getD_put (by decide)).trans h.p3,fun e=>(getD_put (by decide)).trans (h.v0 e),fun _=>getD_put_at (by rw[h.sz];omega),fun e=>(getD_put (by decide)).trans (h.v4 e),h.x1,h.x2,h.lo,h.n1,h.n2⟩
theorem ShK.s4(h:ShK W N b1 b2 lv dp l0 l1 l4 a w)(hN:12≤N): ShK W N b1 b2 lv dp l0 l1 true (a.put (some 4) (.bool true)) w :=
 ⟨by simp[Act.put,h.sz],h.df,(getD_put (by decide)).trans h.p2,(getD_put (by decide)).trans h.p3,fun e=>(getD_put (by decide)).trans (h.v0 e),fun e=>(getD_put (by decide)).trans (h.v1 e),fun _=>getD_put_at (by rw[h.sz];omega),h.x1,h.x2,h.lo,h.n1,h.n2⟩
theorem ShK.put(h:ShK W N b1 b2 lv dp l0 l1 l4 a w)(w':World)(hx1:Bx w' b1 3 #[.int .i64 lv])(hx2:Bx w' b2 3 #[.int .i64 dp])(hl:Below W.heap.size W w'): ShK W N b1 b2 lv dp l0 l1 l4 a w' :=
 ⟨h.sz,h.df,h.p2,h.p3,h.v0,h.v1,h.v4,hx1,hx2,hl,h.n1,h.n2⟩
theorem same_store{b:Nat}{z:Int}{w:World}(h:Bx w b 3 #[.int .i64 z]): ∃w',(Instr.storeAt 3 (.pointer (some ⟨b,0,none⟩)) (.int .i64 z)).run Tryz.prog w=.ok () w'∧(∀g t cs,Bx w g t cs→Bx w' g t cs)∧(∀B,B≤b→Below B w w'):=by
 have hrun:=store_run (P:=Tryz.prog) (t:=3) (o:=0) (v:=.int .i64 z) (ttOk 3 _ rfl) h rfl (Nat.le_refl 1) (fun v hv=>by obtain rfl:=List.mem_singleton.1 (show v∈[Value.int .i64 z]from hv);rfl)
 refine⟨_,hrun,fun g t cs hx=>?_,fun B hB=>?_⟩
 ·by_cases e:g=b
  ·subst e
   have h1:=h.stores [.int .i64 z] 0
   have h2:=(show w.heap[g]?=some (.cells #[.int .i64 z] 3 (0,0))from h).symm.trans (show w.heap[g]?=some (.cells cs t (0,0))from hx)
   simp only[Option.some.injEq,Obj.cells.injEq,and_true]at h2
   obtain⟨rfl,rfl⟩:=h2
   exact h1
  ·exact hx.farN e _ _
 ·refine⟨rfl,rfl,rfl,?_,fun k hk=>?_⟩
  ·exact Nat.le_of_eq (setN_size _ _ _ _).symm
  ·exact setN_block _ _ _ _ _ (by omega)
end
theorem sat_end{W:World}{N b1 b2:Nat}{lv dp:Int}{a:Act}{w:World}(h:ShK W N b1 b2 lv dp true true true a w)(hne:b1≠b2):
  Sat W (⟨N,[(2,.ptr 0 0),(3,.ptr 1 0),(4,bV true)],[some (3,[iV lv]),some (3,[iV dp])],[]⟩:St) ⟨fun i=>if i=0 then b1 else b2,fun _=>.bool false,fun _ _=>False⟩ a w:=by
 have hb:∀i p,nth [some (3,[SV.val (.int .i64 lv)]),some (3,[SV.val (.int .i64 dp)])] i=some p→(i=0∧p=(3,[SV.val (.int .i64 lv)]))∨(i=1∧p=(3,[SV.val (.int .i64 dp)])):=fun i p hi=>by
  match i,hi with
  | 0,hi=>exact .inl ⟨rfl,(Option.some.inj hi).symm⟩
  | 1,hi=>exact .inr ⟨rfl,(Option.some.inj hi).symm⟩
  | n+2,hi=>cases hi
 refine⟨⟨h.lo,h.sz,fun k s hk=>?_,fun i t cs hi=>?_,(fun i R hi=>nomatch hi),(fun i hi=>absurd hi (Nat.not_lt_zero _))⟩,⟨fun i p hi=>?_,fun i j p q hi hj hij=>?_,(fun i R hi=>nomatch hi),(fun i j R R' hi=>nomatch hi),(fun i j p R hi hj=>nomatch hj)⟩,h.df⟩
 ·match k,hk with
  | 0,hk=>cases hk
  | 1,hk=>cases hk
  | 2,hk=>obtain rfl:=Option.some.inj hk;exact⟨h.p2,rfl⟩
  | 3,hk=>obtain rfl:=Option.some.inj hk;exact⟨h.p3,rfl⟩
  | 4,hk=>obtain rfl:=Option.some.inj hk;exact⟨h.v4 rfl,rfl⟩
  | n+5,hk=>cases hk
 ·rcases hb i _ hi with⟨rfl,e⟩|⟨rfl,e⟩
  ·injection e with e1 e2;subst e1;subst e2;exact⟨h.x1,rfl⟩
  ·injection e with e1 e2;subst e1;subst e2;exact⟨h.x2,rfl⟩
 ·rcases hb i p hi with⟨rfl,_⟩|⟨rfl,_⟩
  ·exact h.n1
  ·exact h.n2
 ·rcases hb i p hi with⟨rfl,_⟩|⟨rfl,_⟩<;>rcases hb j q hj with⟨rfl,_⟩|⟨rfl,_⟩
  ·exact absurd rfl hij
  ·exact hne
  ·exact hne.symm
  ·exact absurd rfl hij
noncomputable def shT:Code:=tlC 3 Tryz.f92
theorem shape_end{W:World}{N b1 b2:Nat}{lv dp:Int}(hN:12≤N){Q:Exit→Act→World→Prop}{a:Act}{w:World}(h:ShK W N b1 b2 lv dp false false false a w)(hQ:∀a' w',ShK W N b1 b2 lv dp true true true a' w'→Q .ret a' w'): shT.wp Tryz.prog Q a w:=by
 rw[show shT=.seq (.region 4 (rnO (sqA shT)) true) .ret from by kernel_rfl]
 have o0:(rnO (sqA shT))[0]?=some (opIn (sqA shT) 0):=by kernel_rfl
 have o1:(rnO (sqA shT))[1]?=some (opIn (sqA shT) 1):=by kernel_rfl
 have o2:(rnO (sqA shT))[2]?=some (opIn (sqA shT) 2):=by kernel_rfl
 have o3:(rnO (sqA shT))[3]?=some (opIn (sqA shT) 3):=by kernel_rfl
 have o4:(rnO (sqA shT))[4]?=some (opIn (sqA shT) 4):=by kernel_rfl
 refine wp_seq (wp_region_any mixed ?_)
 rw[show(rnO (sqA shT)).size=5 from by kernel_rfl]
 have k:∀ {K:Act→World→Prop} {l0 l1 l4:Bool} {a:Act} {w:World},ShK W N b1 b2 lv dp l0 l1 l4 a w→(∀w',ShK W N b1 b2 lv dp l0 l1 l4 a w'→K a w')→(l0=true→wpOp Tryz.prog (rnO (sqA shT)) (Exit.then (Code.ret.wp Tryz.prog Q) Q) 2 K a w)∧(l1=true→wpOp Tryz.prog (rnO (sqA shT)) (Exit.then (Code.ret.wp Tryz.prog Q) Q) 3 K a w):=fun {K l0 l1 l4 a w} h hK=>by
  constructor
  ·intro hl
   obtain⟨w',r1,r2,r3⟩:=same_store h.x1
   refine wpOp_of o2 (by kernel_rfl) (op_store (t:=3) (x:=2) (y:=10) (by kernel_rfl) (by kernel_rfl) (by rw[h.p2,h.v0 hl];exact r1) (hK w' (h.put w' (r2 _ _ _ h.x1) (r2 _ _ _ h.x2) (h.lo.trans (r3 _ h.n1)))))
  ·intro hl
   obtain⟨w',r1,r2,r3⟩:=same_store h.x2
   refine wpOp_of o3 (by kernel_rfl) (op_store (t:=3) (x:=3) (y:=11) (by kernel_rfl) (by kernel_rfl) (by rw[h.p3,h.v1 hl];exact r1) (hK w' (h.put w' (r2 _ _ _ h.x1) (r2 _ _ _ h.x2) (h.lo.trans (r3 _ h.n2)))))
 have k0:∀ {K:Act→World→Prop} {l0 l1 l4:Bool} {a:Act} {w:World},ShK W N b1 b2 lv dp l0 l1 l4 a w→(∀a',ShK W N b1 b2 lv dp true l1 l4 a' w→K a' w)→wpOp Tryz.prog (rnO (sqA shT)) (Exit.then (Code.ret.wp Tryz.prog Q) Q) 0 K a w:=fun {K l0 l1 l4 a w} h hK =>
  wpOp_of o0 (by kernel_rfl) (op_load (t:=3) (x:=2) (d:=10) (v:=.int .i64 lv) (by kernel_rfl) (by kernel_rfl) (by rw[h.p2];exact lb_int (cs:=[.int .i64 lv]) h.x1 rfl _ (Below.refl _ _)) (hK _ (h.s0 hN)))
 have k1:∀ {K:Act→World→Prop} {l0 l1 l4:Bool} {a:Act} {w:World},ShK W N b1 b2 lv dp l0 l1 l4 a w→(∀a',ShK W N b1 b2 lv dp l0 true l4 a' w→K a' w)→wpOp Tryz.prog (rnO (sqA shT)) (Exit.then (Code.ret.wp Tryz.prog Q) Q) 1 K a w:=fun {K l0 l1 l4 a w} h hK =>
  wpOp_of o1 (by kernel_rfl) (op_load (t:=3) (x:=3) (d:=11) (v:=.int .i64 dp) (by kernel_rfl) (by kernel_rfl) (by rw[h.p3];exact lb_int (cs:=[.int .i64 dp]) h.x2 rfl _ (Below.refl _ _)) (hK _ (h.s1 hN)))
 have e4:∀a w,ShK W N b1 b2 lv dp true true false a w→wpAny Tryz.prog .any (rnO (sqA shT)) (Exit.then (Code.ret.wp Tryz.prog Q) Q) 1 #[true,true,true,true,false] a w:=fun a w h =>
  wpAny_all (rs:=[4]) (by kernel_rfl) (by simp) fun i hi=>by
   obtain rfl:=List.mem_singleton.1 hi
   refine wpOp_of o4 (by kernel_rfl) (op_const (d:=4) (v:=.bool true) (by kernel_rfl) (by kernel_rfl) ?_)
   exact wpAny_done (by kernel_rfl) (wp_ret (hQ _ _ (h.s4 hN))) 0
 have e3:∀a w,ShK W N b1 b2 lv dp true true false a w→wpAny Tryz.prog .any (rnO (sqA shT)) (Exit.then (Code.ret.wp Tryz.prog Q) Q) 2 #[true,true,true,false,false] a w:=fun a w h =>
  wpAny_all (rs:=[3]) (by kernel_rfl) (by simp) fun i hi=>by
   obtain rfl:=List.mem_singleton.1 hi
   exact(k h fun w' h'=>e4 a w' h').2 rfl
 have e2:∀a w,ShK W N b1 b2 lv dp true true false a w→wpAny Tryz.prog .any (rnO (sqA shT)) (Exit.then (Code.ret.wp Tryz.prog Q) Q) 3 #[true,true,false,false,false] a w:=fun a w h =>
  wpAny_all (rs:=[2]) (by kernel_rfl) (by simp) fun i hi=>by
   obtain rfl:=List.mem_singleton.1 hi
   exact(k h fun w' h'=>e3 a w' h').1 rfl
 have e2':∀a w,ShK W N b1 b2 lv dp true false false a w→wpAny Tryz.prog .any (rnO (sqA shT)) (Exit.then (Code.ret.wp Tryz.prog Q) Q) 3 #[true,false,true,false,false] a w:=fun a w h =>
  wpAny_all (rs:=[1]) (by kernel_rfl) (by simp) fun i hi=>by
   obtain rfl:=List.mem_singleton.1 hi
   exact k1 h fun a' h'=>e3 a' w h'
 have e1:∀a w,ShK W N b1 b2 lv dp true false false a w→wpAny Tryz.prog .any (rnO (sqA shT)) (Exit.then (Code.ret.wp Tryz.prog Q) Q) 4 #[true,false,false,false,false] a w:=fun a w h =>
  wpAny_all (rs:=[1,2]) (by kernel_rfl) (by simp) fun i hi=>by
   rcases List.mem_cons.1 hi with rfl|hi
   ·exact k1 h fun a' h'=>e2 a' w h'
   ·obtain rfl:=List.mem_singleton.1 hi
    exact(k h fun w' h'=>e2' a w' h').1 rfl
 have e1':∀a w,ShK W N b1 b2 lv dp false true false a w→wpAny Tryz.prog .any (rnO (sqA shT)) (Exit.then (Code.ret.wp Tryz.prog Q) Q) 4 #[false,true,false,false,false] a w:=fun a w h =>
  wpAny_all (rs:=[0]) (by kernel_rfl) (by simp) fun i hi=>by
   obtain rfl:=List.mem_singleton.1 hi
   exact k0 h fun a' h'=>e2 a' w h'
 have hd:ShK W N b1 b2 lv dp false false false a { w with drawn:=w.drawn+1 }:=h.put _ h.x1.drew h.x2.drew h.lo.drew
 refine wpAny_all (rs:=[0,1]) (by kernel_rfl) (by simp) fun i hi=>?_
 rcases List.mem_cons.1 hi with rfl|hi
 ·exact k0 hd fun a' h'=>e1 a' _ h'
 ·obtain rfl:=List.mem_singleton.1 hi
  exact k1 hd fun a' h'=>e1' a' _ h'
