/- The walks and plain laws beneath the statements. -/
import Derived.Test.YtaelfkdjlioegaaGreatDoorQG46
namespace Go.Proofs.YtaelfkdjlioegaaGreatDoor
open Tryz
set_option maxRecDepth 100000
open Go Go.RowKit
variable{t:TypeId}{ag:Option Bool}{w W:World}{A:Option Addr}{b cp:Nat}{s:Nm×Nm}{x vb vs vp vr vc:Value}{S:Nat→Prop}{lp:List Xl}
def QW:Tm:=⟨⟨#[1]⟩,n1⟩
theorem fC(P:Program)(w0:World){ti:TI}{e sz:Nat}(hi:XT P t=some ti)(hk:ti.k=.slice e sz ag)(hz:sz≠0): Qt P w0 (Instr.sliceAt t (.slice none 0 0) (some (.int .i64 0)) none none) (.slice none 0 0):=fun W _=>by
 obtain⟨h1,h2,_⟩:=Zp hi hk
 simp[Instr.sliceAt,Instr.slice,Xq h1,Js (P:=P) (w:=W) (isS:=true) (len:=0) (cap:=0) (lo:=some (.int .i64 0)) (hi:=none) (.inr ⟨.i64,rfl⟩) (.inl ⟨rfl,rfl⟩) (L3 0) (L3 0),Jf h2 hz]
theorem iL(P:Program)(w0:World){ti:TI}{e sz:Nat}(hi:XT P t=some ti)(hk:ti.k=.slice e sz ag)(hz:sz≠0): Qt P w0 (Instr.sliceAt t (.slice none 0 0) none (some (.int .i64 0)) none) (.slice none 0 0):=fun W _=>by
 obtain⟨h1,h2,_⟩:=Zp hi hk
 simp[Instr.sliceAt,Instr.slice,Xq h1,Js (P:=P) (w:=W) (isS:=true) (len:=0) (cap:=0) (lo:=none) (hi:=some (.int .i64 0)) (.inl ⟨rfl,rfl⟩) (.inr ⟨.i64,rfl⟩) (L3 0) (L3 0),Jf h2 hz]
theorem nM{g:Nat}(h:Bx w g t #[.string ⟨#[1]⟩,.bool false,.string ⟨#[1]⟩,.int .i64 0]): RdK w (some ⟨g,0,none⟩) 1 4 (fun _=>Q7 QW):=fun _=>⟨g,0,rfl,fun j hj i hi=>by
 obtain rfl:j=0:=by omega
 rw[Th,Ld,h.cel]
 show(Q7 QW).toArray[i]?=_
 simp⟩
theorem ij{i:TypeInfo}{z:Value}(h1:prog.info? 5=some i)(h2:i.zero=some z): z=.int .u8 0∧i.size=1∧i.bytes=1:=by
 have h3:(prog.info? 5).bind (fun i=>i.zero.map fun z=>(z,i.size,i.bytes))=some (.int .u8 0,1,1):=by kernel_rfl
 rw[h1,Sw,h2,T4]at h3
 have h4:=Option.some.inj h3
 exact⟨R7 (fun x=>x.1) h4,R7 (fun x=>x.2.1) h4,R7 (fun x=>x.2.2) h4⟩
theorem nK(w0:World): Id prog w0 [] (fun y:Nat=>.slice (some ⟨y,0,none⟩) 1 1) (fun y:Nat=>QN 5 1 1 (LP.known fun _=>[.int .u8 0]) (some ⟨y,0,none⟩) 1) (Instr.makeSlice 104 (.int .i64 1) (.int .i64 1)):=by
 have h0:((prog.info? 5).bind fun i=>i.zero).isSome=true:=by kernel_rfl
 cases e1:prog.info? 5 with
 | none=>rw[e1]at h0;cases h0
 | some i =>
  cases e2:i.zero with
  | none=>rw[e1,Sw,e2]at h0;cases h0
  | some z =>
   obtain⟨rfl,h3,h4⟩:=ij e1 e2
   exact lB (t:=104) (by kernel_rfl) e1 e2 h3 (by omega) rfl
theorem mf  (w:World):NewIn prog w [] 112 #[.slice none 0 0,.agg #[.string ⟨#[1]⟩,.bool false,.string ⟨#[1]⟩,.int .i64 0]] (fun(y:Hp)=>Value.slice y.1 [QW].length y.2) (fun(y:Hp)=>Qd 54 4 Q7 [QW] y.1 y.2) :=
 BG (β:=Hp) Qk mixed (fun a w=>call112 a w) func112 ntmps112 results112 _ rfl 14 _ _ [.unr 1,.reg 14 [],.g 2 5 false,.g 2 6 false,.g 2 7 false,.g 2 8 false,.g 2 9 false,.g 2 10 false,.g 2 11 false,.g 2 12 false,.o 2 13 (.pk false),.o 4 3 (.set (.slice none 0 0)),.row 4 4 15 [23] 54 4 Q7 ([]:List Tm) (fun(y5:Hp)=>[.eff 4 4 14 (fun(y6:Hp)=>Value.slice y6.1 (([]:List Tm)).length y6.2) (fun(y6:Hp)=>Qd 54 4 Q7 ([]:List Tm) y6.1 y6.2) (fun(y6:Hp)=>[.reg 14 [],.g 5 5 false,.g 5 6 false,.g 5 7 false,.g 5 8 false,.g 5 9 false,.g 5 10 false,.g 5 11 false,.g 5 12 false,.o 5 13 (.pk false),.reg 8 [],.o 8 5 (.ret (.agg [bV false,sV ⟨#[1]⟩,iV 0])),.eff 8 8 14 (fun(y7:Hp)=>Value.slice y7.1 ([QW]).length y7.2) (fun(y7:Hp)=>Qd 54 4 Q7 ([QW]) y7.1 y7.2) (fun(y7:Hp)=>[.o 9 3 (.set (.slice none 0 0)),.eff 9 4 14 (fun(y8:Hp)=>Value.slice y8.1 ([QW]).length y8.2) (fun(y8:Hp)=>Qd 54 4 Q7 ([QW]) y8.1 y8.2) (fun(y8:Hp)=>[])])])])] (fun W hW=>Yz (show(decide (0<((0:Nat):Int)))=false from by decide) (show(decide (0<((0:Nat):Int)))=false from by decide) (show(decide (0<((0:Nat):Int)))=false from by decide) (show(decide (0<((0:Nat):Int)))=false from by decide) (show(decide (0<((0:Nat):Int)))=false from by decide) (show(decide (0<((0:Nat):Int)))=false from by decide) (show(decide (0<((0:Nat):Int)))=false from by decide) (show(decide (0<((0:Nat):Int)))=false from by decide)<|Kr (show(decide (0<((0:Nat):Int)))=false from by decide) (iL prog W (Qk 46 _ rfl) rfl (by decide)) (show([]:List Value)=List.flatMap Q7 ([]:List Tm)from rfl)<|ai (And.intro XP (show(([]:List Tm)).length≤maxLen from(L9 _))) fun(y5:Hp)=>ai (JW (w0:=W) (ty:=46) (c:=Q7) (l:=([]:List Tm)) (l2:=([]:List Tm)) (l':=([]:List Tm)) (A:=y5.1) (cp:=y5.2) (u:=.slice none 0 0) Zd XP D7 rfl (show(([]:List Tm)).length*48≤140737488355328 from by decide) (fun W' hW'=>(show JN Q7 ([]:List Tm) W' (.slice none 0 0)from .inr ⟨rfl,rfl⟩))) fun(y6:Hp)=>Yz (show(decide (0<((0:Nat):Int)))=false from by decide) (show(decide (0<((0:Nat):Int)))=false from by decide) (show(decide (0<((0:Nat):Int)))=false from by decide) (show(decide (0<((0:Nat):Int)))=false from by decide) (show(decide (0<((0:Nat):Int)))=false from by decide) (show(decide (0<((0:Nat):Int)))=false from by decide) (show(decide (0<((0:Nat):Int)))=false from by decide) (show(decide (0<((0:Nat):Int)))=false from by decide)<|ZG (show(decide (0<((0:Nat):Int)))=false from by decide) (kD W)<|ai (Jv (w0:=W) (ty:=46) (c:=Q7) (l:=([]:List Tm)) (l2:=[QW]) (l':=[QW]) (A:=y6.1) (cp:=y6.2) (bt:=54) (m:=1) (cp2:=1) (cs:=[.string ⟨#[1]⟩,.bool false,.string ⟨#[1]⟩,.int .i64 0]) Zd XP D7 rfl (show([QW]).length*48≤140737488355328 from by decide) rfl rfl) fun(y7:Hp)=>ai (fC prog W (Qk 46 _ rfl) rfl (by decide))<|ai (JW (w0:=W) (ty:=46) (c:=Q7) (l:=[QW]) (l2:=([]:List Tm)) (l':=[QW]) (A:=y7.1) (cp:=y7.2) (u:=.slice none 0 0) Zd XP D7 rfl (show([QW]).length*48≤140737488355328 from by decide) (fun W' hW'=>(show JN Q7 ([]:List Tm) W' (.slice none 0 0)from .inr ⟨rfl,rfl⟩))) fun(y8:Hp)=>(show ∃y:Hp,SV.val (.slice y8.1 ([QW]).length y8.2)=SV.val ((fun(y:Hp)=>Value.slice y.1 [QW].length y.2) y)∧∀(x:Value) (S:Nat→Prop) (w:World),(Qd 54 4 Q7 ([QW]) y8.1 y8.2).φ x S w→((fun(y:Hp)=>Qd 54 4 Q7 [QW] y.1 y.2) y).φ x S w from⟨y8,rfl,fun x S w h=>h⟩)) fun W=>by kernel_rfl
theorem al{c:Nat}(w:World)(ha:RdK w A 1 4 (fun _=>Q7 QW)): NewIn prog w [] 81 #[.int .i64 1,.slice A 1 c] (fun(y:Hp)=>Value.tuple #[.agg #[.int .i64 1,.slice y.1 [QW].length y.2],.int .i64 0]) (fun(y:Hp)=>Qd 54 4 Q7 [QW] y.1 y.2) :=
 IL (β:=Hp) Qk mixed (fun a w=>call81 a w) func81 ntmps81 results81 _ rfl _ _ (fun s σ=>∃y:Hp,s=SV.tup [.agg [iV 1,lV y.1 [QW].length y.2],iV 0]∧Xk σ.rs 1=some (Qd 54 4 Q7 [QW] y.1 y.2)) [.unr 2,.br true,.o 5 3 (.set (.pointer (some (QJ A (0*4+0))))),.o 5 4 (.set (.agg #[.string ⟨#[1]⟩,.bool false,.string ⟨#[1]⟩,.int .i64 0])),.mk 5 5 [] (fun(y1:Hp)=>.slice y1.1 ([QW]).length y1.2) (fun(y1:Hp)=>Qd 54 4 Q7 [QW] y1.1 y1.2) (fun(y1:Hp)=>[.o 4 1 (.eq (iV 1)),.br false,.unr 2,.br true,.o 10 2 (.rd [0] (.pointer (some (QJ y1.1 (0*4+0))))),.o 10 3 (.set (.pointer (some (QJ y1.1 (0*4+1))))),.o 10 4 (.rd [0] (.agg #[.bool false,.string ⟨#[1]⟩,.int .i64 0])),.o 10 5 (.ret (iV 1)),.nil 11 1 54 4 Q7,.o 11 3 (.rd [0] (.pointer (some (QJ y1.1 (0*4+0))))),.o 11 4 (.rd [0] (.agg #[.string ⟨#[1]⟩,.bool false,.string ⟨#[1]⟩,.int .i64 0])),.eff 11 6 1 (fun(y2:Hp)=>Value.slice y2.1 ([QW]).length y2.2) (fun(y2:Hp)=>Qd 54 4 Q7 ([QW]) y2.1 y2.2) (fun(y2:Hp)=>[.o 9 1 (.eq (iV 1)),.br false,.br false])])] (fun W hW=>(fun(HA:RdK W A 1 4 (fun _=>Q7 QW))=>Kr (show(decide (0<((1:Nat):Int)))=true from by decide) (Yq (c:=c) (i:=0) HA (by decide)) (Jy (i:=0) (o:=0) HA (by decide) (by decide) rfl rfl)<|ai (mf W) fun(y1:Hp)=>Yz (show IntKind.i64.wrap (0+1)=1 from by decide) (show(decide (1<((1:Nat):Int)))=false from by decide) (show(decide (0<((([QW]).length:Nat):Int)))=true from by decide) (Jr (w0:=W) (e:=54) (k:=4) (c:=Q7) (l:=[QW]) (A:=y1.1) (cp:=y1.2) XP GS (fun W' HR=>Yq (w0:=W') (c:=y1.2) (i:=0) HR (show 0<[QW].length from by decide))) (E7 (w0:=W) (A:=y1.1) (i:=0) (k:=4) (o:=0)) (Jr (w0:=W) (e:=54) (k:=4) (c:=Q7) (l:=[QW]) (A:=y1.1) (cp:=y1.2) XP GS (fun W' HR=>Yb (w0:=W') (i:=0) (o:=1) HR (show 0<[QW].length from by decide) (by decide) rfl rfl)) (kX W) (Jr (w0:=W) (e:=54) (k:=4) (c:=Q7) (l:=[QW]) (A:=y1.1) (cp:=y1.2) XP GS (fun W' HR=>Yq (w0:=W') (c:=y1.2) (i:=0) HR (show 0<[QW].length from by decide)))<|ai (Jr (w0:=W) (e:=54) (k:=4) (c:=Q7) (l:=[QW]) (A:=y1.1) (cp:=y1.2) XP GS (fun W' HR=>Jy (w0:=W') (i:=0) (o:=0) HR (show 0<[QW].length from by decide) (by decide) rfl rfl))<|ai (Jv (w0:=W) (ty:=46) (c:=Q7) (l:=([]:List Tm)) (l2:=[QW]) (l':=[QW]) (A:=none) (cp:=0) (bt:=54) (m:=1) (cp2:=1) (cs:=[.string ⟨#[1]⟩,.bool false,.string ⟨#[1]⟩,.int .i64 0]) Zd XP D7 rfl (show([QW]).length*48≤140737488355328 from by decide) rfl rfl) fun(y2:Hp)=>Kr (show IntKind.i64.wrap (0+1)=1 from by decide) (show(decide (1<((([QW]).length:Nat):Int)))=false from by decide) (show(decide (((([QW]).length:Nat):Int)>4096))=false from by decide)<|(show ∃y:Hp,(SV.tup [.agg [iV 1,lV y2.1 [QW].length y2.2],iV 0])=SV.tup [.agg [iV 1,lV y.1 [QW].length y.2],iV 0]∧some (Qd 54 4 Q7 [QW] y2.1 y2.2)=some (Qd 54 4 Q7 [QW] y.1 y.2)from⟨y2,rfl,rfl⟩)) (ha.below (fun _=>rfl) hW)) (fun W=>by kernel_rfl) (fun W s σ hh r a w' hS=>by
  obtain⟨y,rfl,e⟩:=hh
  have f0:=hS.see.rs 1 _ e
  exact⟨y,_,_,rfl,f0.1,fun b hb=>⟨hS.sep.ownS 1 _ e b hb,f0.2 b hb⟩⟩)
theorem mI  (w:World):NewIn prog w [] 50 #[.int .i64 1,.int .i64 0] (fun(y:Hp)=>Value.tuple #[.agg #[.int .i64 1,.slice y.1 [QW].length y.2],.int .i64 0]) (fun(y:Hp)=>Qd 54 4 Q7 [QW] y.1 y.2) :=
 IL (β:=Hp) Qk mixed (fun a w=>call50 a w) func50 ntmps50 results50 _ rfl _ _ (fun s σ=>∃y:Hp,s=SV.tup [.agg [iV 1,lV y.1 [QW].length y.2],iV 0]∧Xk σ.rs 7=some (Qd 54 4 Q7 [QW] y.1 y.2)) [.mk 3 1 [] (fun(y1:Nat)=>.slice (some ⟨y1,0,none⟩) 1 1) (fun(y1:Nat)=>QN 5 1 1 (LP.known fun _=>[.int .u8 0]) (some ⟨y1,0,none⟩) 1) (fun(y1:Nat)=>[.o 4 2 (.rd [0] (.pointer (some (QJ (some ⟨y1,0,none⟩) (0*1+0))))),.eff 4 3 0 (fun(y2:Unit)=>undef) (fun(y2:Unit)=>QN 5 1 1 (LP.known fun _=>[.int .u8 1]) (some ⟨y1,0,none⟩) 1) (fun(y2:Unit)=>[.reg 9 [],.o 5 2 (.rd [0] (.string ⟨#[1]⟩)),.o 5 3 (.ret (.agg [bV false,sV ⟨#[1]⟩,iV 0])),.o 5 6 (.nwc [] (.tup [.agg [iV 1,.han 7],iV 0]) (fun(y:Hp)=>.slice y.1 [QW].length y.2) (fun(y:Hp)=>Qd 54 4 Q7 [QW] y.1 y.2)),.opn 5 9 7 (fun(y3:Hp)=>.slice y3.1 [QW].length y3.2) (fun(y3:Hp)=>Qd 54 4 Q7 [QW] y3.1 y3.2) (fun(y3:Hp)=>[])])])] (fun W hW=>ai (nK W) fun(y1:Nat)=>ai (Ho (w0:=W) (e:=5) (m:=1) (n:=1) (L:=LP.known fun _=>[.int .u8 0]) (A:=(some ⟨y1,0,none⟩)) (cp:=1) (fun W' f S2 HR HL=>EW (w0:=W') (c:=1) (i:=0) HR (show 0<1 from by decide)))<|ai (fun(W':World) (_:Below W.heap.size W W')=>Ii (P:=prog) (e:=5) (m:=1) (n:=1) (t:=5) (i:=0) (o:=0) (L:=LP.known fun _=>[.int .u8 0]) (L':=LP.known fun _=>[.int .u8 1]) (A:=some ⟨y1,0,none⟩) (cp:=1) (v:=.int .u8 1) (vs:=[.int .u8 1]) (Qk 5 _ rfl) rfl rfl (by decide) (by decide) (by intro u hu;simp only[Lp,Lv,or_false]at hu;subst hu;rfl) (fun j hj hne=>absurd (show j=0 by omega) hne) (fun S w cs hl h=>by rw[show cs=[.int .u8 0]from h];rfl) W') fun(y2:Unit)=>Jj (gc (P:=prog) (w0:=W) (src:=104) (dst:=9) (e:=5) (e2:=5) (A:=some ⟨y1,0,none⟩) (cp:=1) (b:=1) (s:=⟨#[1]⟩) (by kernel_rfl) (by kernel_rfl) (by kernel_rfl) rfl) (oL W) (And.intro (fun a w=>call81 a w) (fun(W':World) (_:Below W.heap.size W W') (g:Nat) (hg:Bx W' g 54 #[.string ⟨#[1]⟩,.bool false,.string ⟨#[1]⟩,.int .i64 0])=>(al (A:=some ⟨g,0,none⟩) (c:=1) W' (nM hg)).2 W' (Below.refl _ _))) (show ∀y:Hp,(.slice y.1 [QW].length y.2:Value).oneCell'=true from fun _=>rfl)<|ai (show EJ (KT (fun(y:Hp)=>.slice y.1 [QW].length y.2) (fun(y:Hp)=>Qd 54 4 Q7 [QW] y.1 y.2)) (fun(y:Hp)=>.slice y.1 [QW].length y.2) (fun(y:Hp)=>Qd 54 4 Q7 [QW] y.1 y.2)from Zn fun y x x' S w hx h=>Ov hx h) fun(y3:Hp)=>(show ∃y:Hp,(SV.tup [.agg [iV 1,lV y3.1 [QW].length y3.2],iV 0])=SV.tup [.agg [iV 1,lV y.1 [QW].length y.2],iV 0]∧some (Qd 54 4 Q7 [QW] y3.1 y3.2)=some (Qd 54 4 Q7 [QW] y.1 y.2)from⟨y3,rfl,rfl⟩)) (fun W=>by kernel_rfl) (fun W s σ hh r a w' hS=>by
  obtain⟨y,rfl,e⟩:=hh
  have f0:=hS.see.rs 7 _ e
  exact⟨y,_,_,rfl,f0.1,fun b hb=>⟨hS.sep.ownS 7 _ e b hb,f0.2 b hb⟩⟩)
structure Sm (W:World) (b1 b2:Nat) (y:Hp) (S:Nat→Prop) (w':World):Prop where
 h1:Bx w' b1 58 #[.bool false,.string ⟨#[]⟩,.int .i64 0,.bool false,.string ⟨#[1]⟩,.int .i64 0]
 h2:Bx w' b2 48 #[.int .i64 1,.slice y.1 [QW].length y.2]
 h3:(Qd 54 4 Q7 [QW] y.1 y.2).φ (.bool false) S w'
 g1:W.heap.size≤b1
 g2:W.heap.size≤b2
 gS:∀b,S b→W.heap.size≤b∧b<w'.heap.size
 ne:b1≠b2
 n1:¬ S b1
 n2:¬ S b2
def pp(b1 b2:Nat): Value:=Value.agg #[.int .i64 1,.int .i64 1,.slice (some ⟨b1,0,none⟩) 1 1,.slice none 0 0,.slice (some ⟨b2,0,none⟩) 1 1,.slice none 0 0,.bool false,.string ⟨#[1]⟩,.int .i64 0,.bool false,.string ⟨#[]⟩,.int .i64 0,.int .i64 9,.slice none 0 0]
theorem O5(W:World): Calls prog 18 #[] W fun e w'=>∃v,e=.returned v∧(∃b1 b2 y S,v=pp b1 b2∧Sm W b1 b2 y S w')∧Below W.heap.size W w' :=
 IB (w0:=W) (Z:=fun v w'=>∃b1 b2 y S,v=pp b1 b2∧Sm W b1 b2 y S w') (E:=fun s σ=>∃y:Hp,s=.agg [iV 1,iV 1,.sli 5 0 1 1,lV none 0 0,.sli 8 0 1 1,lV none 0 0,bV false,sV ⟨#[1]⟩,iV 0,bV false,sV ⟨#[]⟩,iV 0,iV 9,lV none 0 0]∧Xk σ.bs 5=some (58,[bV false,sV ⟨#[]⟩,iV 0,bV false,sV ⟨#[1]⟩,iV 0])∧Xk σ.bs 8=some (48,[iV 1,lV y.1 [QW].length y.2])∧Xk σ.rs 0=some (Qd 54 4 Q7 [QW] y.1 y.2)) Qk mixed func18 ntmps18 results18 [] rfl [.mk 1 0 [] (fun(y1:Hp)=>.tuple #[.agg #[.int .i64 1,.slice y1.1 [QW].length y1.2],.int .i64 0]) (fun(y1:Hp)=>Qd 54 4 Q7 [QW] y1.1 y1.2) (fun(y1:Hp)=>[.reg 9 [],.o 2 0 (.ret (.agg [bV false,sV ⟨#[]⟩,iV 0])),.o 2 1 (.ret (.agg [bV false,sV ⟨#[1]⟩,iV 0])),.o 2 7 (.ret (.agg [bV false,sV ⟨#[1]⟩,iV 0]))])] (ai (mI W) fun(y1:Hp)=>Kr (dV W) (Fl W) (Fl W)<|(show ∃y:Hp,(.agg [iV 1,iV 1,.sli 5 0 1 1,lV none 0 0,.sli 8 0 1 1,lV none 0 0,bV false,sV ⟨#[1]⟩,iV 0,bV false,sV ⟨#[]⟩,iV 0,iV 9,lV none 0 0]:SV)=.agg [iV 1,iV 1,.sli 5 0 1 1,lV none 0 0,.sli 8 0 1 1,lV none 0 0,bV false,sV ⟨#[1]⟩,iV 0,bV false,sV ⟨#[]⟩,iV 0,iV 9,lV none 0 0]∧(some (58,[bV false,sV ⟨#[]⟩,iV 0,bV false,sV ⟨#[1]⟩,iV 0]):Option (TypeId×List SV))=some (58,[bV false,sV ⟨#[]⟩,iV 0,bV false,sV ⟨#[1]⟩,iV 0])∧(some (48,[iV 1,lV y1.1 [QW].length y1.2]):Option (TypeId×List SV))=some (48,[iV 1,lV y.1 [QW].length y.2])∧some (Qd 54 4 Q7 [QW] y1.1 y1.2)=some (Qd 54 4 Q7 [QW] y.1 y.2)from⟨y1,rfl,rfl,rfl,rfl⟩)) (by kernel_rfl) (fun s σ hh r a w' hS=>by
  obtain⟨y,rfl,e1,e2,e3⟩:=hh
  have k1:=hS.see.bs 5 _ _ e1
  have k2:=hS.see.bs 8 _ _ e2
  have k3:=hS.see.rs 0 _ e3
  exact⟨r.b 5,r.b 8,y,r.S 0,rfl,k1.1,k2.1,Ov rfl k3.1,hS.sep.own 5 _ e1,hS.sep.own 8 _ e2,fun b hb=>⟨hS.sep.ownS 0 _ e3 b hb,k3.2 b hb⟩,hS.sep.inj 5 8 _ _ e1 e2 (by decide),fun hb=>hS.sep.apart 5 0 _ _ e1 e3 hb,fun hb=>hS.sep.apart 8 0 _ _ e2 e3 hb⟩)
theorem D1:okN nm0:=⟨by decide,by decide,by decide⟩
theorem G0:okN n1:=⟨by decide,by decide,by decide⟩
def VS:Py:=⟨1,[QW]⟩
theorem Vz:okP VS:=⟨by decide,fun t ht=>by
 simp only[VS,Lp,Lv,or_false]at ht
 subst ht
 exact⟨by decide,G0⟩⟩
theorem PO(h:Bx w b t (YH s).toArray): SlV 0 6 WS w [s] (.slice (some ⟨b,0,none⟩) 1 1) :=
 ⟨_,1,rfl,L3 _,(fun h=>nomatch h),fun _=>⟨b,0,rfl,L9 _,fun i hi=>by
  obtain rfl:i=0:=by simpa using hi
  refine⟨YH s,rfl,rfl,fun j hj=>?_⟩
  rw[Th,Ld,h.cel]
  simp⟩⟩
theorem lL(h:(QN t 6 1 (LP.known fun _=>YH s) A cp).φ x S w): SlV 0 6 WS w [s] (.slice A 1 cp) :=
 AR (l:=[s]) rfl h (fun _ _=>L9 _) fun i hi S2 cs _ hp=>by
  obtain rfl:i=0:=by simpa using hi
  exact hp
theorem bw{l:List Nm}(h:(Qd t 3 QF l A cp).φ x S w): SlV 0 3 Jm w l (.slice A l.length cp):=Hq QE nm0 h fun _ _=>L9 _
theorem W5{B:Option Addr}{cq:Nat}{t2:TypeId}{lq:List Py}(hl:lp.map (fun x=>x.1)=lq)(hlp:∀x,x∈lp→x=(VS,B,cq))(h:(QD (Qd t 2 QO lp A cp) (Qd t2 4 Q7 ([QW]:List Tm) B cq)).φ x S w): SlV 0 2 (UJ 0) w lq (.slice A lq.length cp):=by
 subst hl
 obtain⟨S1,S2,x2,h1,h2,_⟩:=(show ∃S1 S2 x2,_ from h)
 have ht:=Hq (lo:=0) XP GS h2 fun _ _=>L9 _
 rw[Ri]
 refine AR (L:=LP.known fun j=>QO (lp.getD j Qo)) (Ri _).symm (Di QH Qo (fun i hi S w=>rfl) h1) (fun _ _=>L9 _) fun i hi S2 cs _ hp=>?_
 have hi':i<lp.length:=by simpa using hi
 have e1:lp.getD i Qo=(VS,B,cq):=hlp _ (by rw[Xg hi'];exact Sa hi')
 have e2:(lp.map (fun x=>x.1))[i]=VS:=by
  rw[Su,← Xg (d:=Qo) hi',e1]
 rw[show cs=QO (lp.getD i Qo)from hp,e1,e2]
 exact⟨.slice B ([QW]:List Tm).length cq,rfl,ht⟩
theorem lN(h:Bx w b t (YH s).toArray): (QN t 6 1 (LP.known fun _=>YH s) (some ⟨b,0,none⟩) 1).φ (.bool false) (fun k=>k=b) w :=
 (show _∧_ from⟨rfl,fun _=>YH s,fun _=>False,fun _=>rfl,⟨rfl,.inr ⟨b,1,_,rfl,L9 _,h,L3 _,by decide,rfl,rfl⟩⟩,fun _ _=>rfl,fun _ h=>h.elim,fun k=>⟨fun h=>.inl (by rw[h];rfl),fun h=>h.elim (fun h=>(by injection h with h;exact h.symm)) False.elim⟩⟩)
theorem kU{α:Type}{k:Nat}{c:α→List Value}{x:α}(hc:(c x).length=k)(h:Bx w b t (c x).toArray): (Qd t k c [x] (some ⟨b,0,none⟩) 1).φ (.bool false) (fun k=>k=b) w :=
 (show _∧_∧_ from⟨rfl,⟨by simp[hc],.inr ⟨b,1,_,rfl,L9 _,h,L3 _,by decide,by simp[hc],by simp[← hc]⟩⟩,fun k=>⟨fun h=>by rw[h];rfl,fun h=>(by injection h with h;exact h.symm)⟩⟩)
theorem js{w':World}{b1 b2:Nat}{y:Hp}(h:Sm W b1 b2 y S w'): (QD (Qd 48 2 QO [((⟨1,[QW]⟩,y.1,y.2):Xl)] (some ⟨b2,0,none⟩) 1) (Qd 54 4 Q7 [QW] y.1 y.2)).φ (.bool false) (fun b=>b=b2∨S b) w' :=
 (show ∃S1 S2 x2,_ from⟨fun b=>b=b2,S,.bool false,kU (c:=QO) (x:=((⟨1,[QW]⟩,y.1,y.2):Xl)) rfl h.h2,h.h3,fun b hb hS=>h.n2 (hb▸hS),fun b=>Iff.rfl⟩)
theorem KB(W:World): NewIn prog W [] 18 #[] (fun(y:Nat×Nat×Hp)=>.agg #[.int .i64 1,.int .i64 1,.slice (some ⟨y.1,0,none⟩) 1 1,.slice none 0 0,.slice (some ⟨y.2.1,0,none⟩) 1 1,.slice none 0 0,.bool false,.string ⟨#[1]⟩,.int .i64 0,.bool false,.string ⟨#[]⟩,.int .i64 0,.int .i64 9,.slice none 0 0]) (fun(y:Nat×Nat×Hp)=>QD (QN 58 6 1 (LP.known fun _=>YH (nm0,n1)) (some ⟨y.1,0,none⟩) 1) (QD (Qd 48 2 QO [((⟨1,[QW]⟩,y.2.2.1,y.2.2.2):Xl)] (some ⟨y.2.1,0,none⟩) 1) (Qd 54 4 Q7 [QW] y.2.2.1 y.2.2.2))) :=
 ⟨fun a w=>call18 a w,fun W' _=>(O5 W').mono fun e w' hh=>by
  obtain⟨v,rfl,⟨b1,b2,y,S,rfl,hs⟩,hb⟩:=hh
  refine⟨(b1,b2,y),.bool false,fun b=>b=b1∨(b=b2∨S b),rfl,(show ∃S1 S2 x2,_ from⟨fun b=>b=b1,fun b=>b=b2∨S b,.bool false,lN hs.h1,js hs,fun b hb1 hb2=>?_,fun b=>Iff.rfl⟩),fun b hb'=>?_,hb⟩
  ·subst hb1
   exact hb2.elim hs.ne hs.n1
  ·rcases hb' with rfl|rfl|hb'
   ·exact⟨hs.g1,hs.h1.lt⟩
   ·exact⟨hs.g2,hs.h2.lt⟩
   ·exact hs.gS b hb'⟩
theorem AZ(W:World): el prog W 18 #[] (fun(y:Nat×Nat×Hp)=>.agg #[.int .i64 1,.int .i64 1,.slice (some ⟨y.1,0,none⟩) 1 1,.slice none 0 0,.slice (some ⟨y.2.1,0,none⟩) 1 1,.slice none 0 0,.bool false,.string ⟨#[1]⟩,.int .i64 0,.bool false,.string ⟨#[]⟩,.int .i64 0,.int .i64 9,.slice none 0 0]) (fun(y:Nat×Nat×Hp)=>y.1) 58 (YH (nm0,n1)).toArray (fun(y:Nat×Nat×Hp)=>QD (Qd 48 2 QO [((⟨1,[QW]⟩,y.2.2.1,y.2.2.2):Xl)] (some ⟨y.2.1,0,none⟩) 1) (Qd 54 4 Q7 [QW] y.2.2.1 y.2.2.2)) :=
 ⟨fun a w=>call18 a w,fun W' _=>(O5 W').mono fun e w' hh=>by
  obtain⟨v,rfl,⟨b1,b2,y,S,rfl,hs⟩,hb⟩:=hh
  refine⟨(b1,b2,y),.bool false,fun b=>b=b2∨S b,rfl,hs.h1,hs.g1,js hs,fun b hb'=>?_,fun h=>h.elim hs.ne hs.n1,hb⟩
  rcases hb' with rfl|hb'
  ·exact⟨hs.g2,hs.h2.lt⟩
  ·exact hs.gS b hb'⟩
def px_s:PV:=⟨1,1,[(nm0,n1)],[],[VS],[],n1,nm0,9,[]⟩
theorem oD:okX px_s:=⟨⟨⟨by decide,by decide,fun p hp=>(by cases hp),by decide⟩,by decide,by decide,by decide,fun p hp=>by
 simp only[px_s,Lp,Lv,or_false]at hp
 rcases hp with rfl<;>exact Vz,fun p hp=>(by cases hp),fun p hp=>(by cases hp),fun x hx=>by
 simp only[px_s,Qg,Rm,Sy,Sc,Ry,Rj,Lp,Lv,or_false,false_or,Sz]at hx
 rcases hx with rfl|rfl|rfl|rfl<;>first|exact D1|exact G0⟩⟩
theorem ox:ZO (Xr px_s) (Q5 px_s) px_s.box.length 0 (XD px_s.box)=0:=by kernel_rfl
theorem pj:(Xr px_s&&Q5 px_s&&px_s.box.length==0)=false:=by kernel_rfl
def px_a:PV:=⟨1,1,[(nm0,n1)],[],[VS,VS],[],n1,nm0,9,[]⟩
theorem oH:okX px_a:=⟨⟨⟨by decide,by decide,fun p hp=>(by cases hp),by decide⟩,by decide,by decide,by decide,fun p hp=>by
 simp only[px_a,Lp,Lv,or_false]at hp
 rcases hp with rfl|rfl<;>exact Vz,fun p hp=>(by cases hp),fun p hp=>(by cases hp),fun x hx=>by
 simp only[px_a,Qg,Rm,Sy,Sc,Ry,Rj,Lp,Lv,or_false,false_or,Sz]at hx
 rcases hx with rfl|rfl|rfl|rfl<;>first|exact D1|exact G0⟩⟩
theorem pm:ZO (Xr px_a) (Q5 px_a) px_a.box.length 0 (XD px_a.box)=1:=by kernel_rfl
theorem oE:(Xr px_a&&Q5 px_a&&px_a.box.length==0)=false:=by kernel_rfl
def px_b:PV:=⟨1,1,[(nm0,n1)],[],[VS],[],n1,n1,9,[]⟩
theorem oU:okX px_b:=⟨⟨⟨by decide,by decide,fun p hp=>(by cases hp),by decide⟩,by decide,by decide,by decide,fun p hp=>by
 simp only[px_b,Lp,Lv,or_false]at hp
 rcases hp with rfl<;>exact Vz,fun p hp=>(by cases hp),fun p hp=>(by cases hp),fun x hx=>by
 simp only[px_b,Qg,Rm,Sy,Sc,Ry,Rj,Lp,Lv,or_false,false_or,Sz]at hx
 rcases hx with rfl|rfl|rfl|rfl<;>first|exact D1|exact G0⟩⟩
theorem oS:ZO (Xr px_b) (Q5 px_b) px_b.box.length 0 (XD px_b.box)=1:=by kernel_rfl
theorem oI:(Xr px_b&&Q5 px_b&&px_b.box.length==0)=false:=by kernel_rfl
def px_c:PV:=⟨1,1,[(nm0,n1)],[],[VS],[],nm0,nm0,9,[]⟩
theorem oX:okX px_c:=⟨⟨⟨by decide,by decide,fun p hp=>(by cases hp),by decide⟩,by decide,by decide,by decide,fun p hp=>by
 simp only[px_c,Lp,Lv,or_false]at hp
 rcases hp with rfl<;>exact Vz,fun p hp=>(by cases hp),fun p hp=>(by cases hp),fun x hx=>by
 simp only[px_c,Qg,Rm,Sy,Sc,Ry,Rj,Lp,Lv,or_false,false_or,Sz]at hx
 rcases hx with rfl|rfl|rfl|rfl<;>first|exact D1|exact G0⟩⟩
theorem ou:ZO (Xr px_c) (Q5 px_c) px_c.box.length 0 (XD px_c.box)=1:=by kernel_rfl
theorem oq:(Xr px_c&&Q5 px_c&&px_c.box.length==0)=false:=by kernel_rfl
def px_d:PV:=⟨1,1,[(nm0,n1)],[],[VS],[],n1,nm0,0,[]⟩
theorem oV:okX px_d:=⟨⟨⟨by decide,by decide,fun p hp=>(by cases hp),by decide⟩,by decide,by decide,by decide,fun p hp=>by
 simp only[px_d,Lp,Lv,or_false]at hp
 rcases hp with rfl<;>exact Vz,fun p hp=>(by cases hp),fun p hp=>(by cases hp),fun x hx=>by
 simp only[px_d,Qg,Rm,Sy,Sc,Ry,Rj,Lp,Lv,or_false,false_or,Sz]at hx
 rcases hx with rfl|rfl|rfl|rfl<;>first|exact D1|exact G0⟩⟩
theorem oQ:ZO (Xr px_d) (Q5 px_d) px_d.box.length 0 (XD px_d.box)=1:=by kernel_rfl
theorem o5:(Xr px_d&&Q5 px_d&&px_d.box.length==0)=false:=by kernel_rfl
def px_e:PV:=⟨1,1,[(n1,n1)],[],[VS],[],n1,nm0,9,[]⟩
theorem o7:okX px_e:=⟨⟨⟨by decide,by decide,fun p hp=>(by cases hp),by decide⟩,by decide,by decide,by decide,fun p hp=>by
 simp only[px_e,Lp,Lv,or_false]at hp
 rcases hp with rfl<;>exact Vz,fun p hp=>(by cases hp),fun p hp=>(by cases hp),fun x hx=>by
 simp only[px_e,Qg,Rm,Sy,Sc,Ry,Rj,Lp,Lv,or_false,false_or,Sz]at hx
 rcases hx with rfl|rfl|rfl|rfl<;>first|exact D1|exact G0⟩⟩
theorem pe:ZO (Xr px_e) (Q5 px_e) px_e.box.length 0 (XD px_e.box)=5:=by kernel_rfl
theorem pc:(Xr px_e&&Q5 px_e&&px_e.box.length==0)=false:=by kernel_rfl
def px_f:PV:=⟨1,1,[(nm0,n1)],[],[VS],[],n1,nm0,513,[]⟩
theorem od:okX px_f:=⟨⟨⟨by decide,by decide,fun p hp=>(by cases hp),by decide⟩,by decide,by decide,by decide,fun p hp=>by
 simp only[px_f,Lp,Lv,or_false]at hp
 rcases hp with rfl<;>exact Vz,fun p hp=>(by cases hp),fun p hp=>(by cases hp),fun x hx=>by
 simp only[px_f,Qg,Rm,Sy,Sc,Ry,Rj,Lp,Lv,or_false,false_or,Sz]at hx
 rcases hx with rfl|rfl|rfl|rfl<;>first|exact D1|exact G0⟩⟩
theorem oh:ZO (Xr px_f) (Q5 px_f) px_f.box.length 0 (XD px_f.box)=3:=by kernel_rfl
theorem o8:(Xr px_f&&Q5 px_f&&px_f.box.length==0)=false:=by kernel_rfl
def px_g:PV:=⟨2,1,[],[[nm0],[n1]],[VS,VS],[],n1,nm0,9,[]⟩
theorem oA:okX px_g:=⟨⟨⟨by decide,by decide,fun p hp=>(by
 simp only[px_g,Lp,Lv,or_false]at hp
 rcases hp with rfl|rfl<;>decide),by decide⟩,by decide,by decide,by decide,fun p hp=>by
 simp only[px_g,Lp,Lv,or_false]at hp
 rcases hp with rfl|rfl<;>exact Vz,fun p hp=>(by cases hp),fun p hp=>(by cases hp),fun x hx=>by
 simp only[px_g,Qg,Rm,Sy,Sc,Ry,Rj,Lp,Lv,or_false,false_or,Sz]at hx
 rcases hx with rfl|rfl|rfl|rfl<;>first|exact D1|exact G0⟩⟩
theorem pf:ZO (Xr px_g) (Q5 px_g) px_g.box.length 0 (XD px_g.box)=1:=by kernel_rfl
theorem of:(Xr px_g&&Q5 px_g&&px_g.box.length==0)=false:=by kernel_rfl
def px_h:PV:=⟨1,1,[(n1,n1)],[],[VS],[],n1,nm0,513,[]⟩
theorem oP:okX px_h:=⟨⟨⟨by decide,by decide,fun p hp=>(by cases hp),by decide⟩,by decide,by decide,by decide,fun p hp=>by
 simp only[px_h,Lp,Lv,or_false]at hp
 rcases hp with rfl<;>exact Vz,fun p hp=>(by cases hp),fun p hp=>(by cases hp),fun x hx=>by
 simp only[px_h,Qg,Rm,Sy,Sc,Ry,Rj,Lp,Lv,or_false,false_or,Sz]at hx
 rcases hx with rfl|rfl|rfl|rfl<;>first|exact D1|exact G0⟩⟩
theorem oG:ZO (Xr px_h) (Q5 px_h) px_h.box.length 0 (XD px_h.box)=3:=by kernel_rfl
theorem o9:(Xr px_h&&Q5 px_h&&px_h.box.length==0)=false:=by kernel_rfl
theorem Dq{x:PV}{k:Int}(hk:ZO (Xr x) (Q5 x) x.box.length 0 (XD x.box)=k)(hn:(Xr x&&Q5 x&&x.box.length==0)=false)(hx:okX x)(hT:Yk W)(hF:Five 0 W x vb vs vp vr vc): Calls prog 10 #[yA x vb vs vp vr vc] W fun e w'=>e=.returned (.int .i64 k)∧Below W.heap.size W w':=by
 have c:=(RL (t:=0) x hx W hT hF (fun W' _ h1 h2 h3=>by rw[h1,h2,h3]at hn;cases hn)).at
 rw[hk]at c
 exact c
theorem dj(x:PV)(h1:x.box.length≤2)(h2:x.pts=[])(h3:∀p,p∈x.ps→p=VS)(h4:x.ps.length≤2)(h5:x.rules=[])(h6:x.cert=[]): shortP x:=by
 obtain⟨kind,vars,box,pts,ps,rules,eps,delta,budget,cert⟩:=x
 simp only at h1 h2 h3 h4 h5 h6
 subst h2 h5 h6
 exact⟨L8 h1 (by decide),L9 _,L8 h4 (by decide),L9 _,L9 _,fun p hp=>(by cases hp),fun p hp=>by rw[h3 p hp];decide,fun p hp=>(by cases hp),fun p hp=>(by cases hp)⟩
theorem If(x0:PV)(h1:x0.box=[s])(h2:x0.pts=[])(h3:x0.ps=[VS])(h4:x0.rules=[])(h5:x0.cert=[])(h:SlV 0 6 WS w [s] (.slice A 1 cp))(hφ:(KT (fun(y:Nat×Nat×Hp)=>.slice (some ⟨y.2.1,0,none⟩) 1 1) (fun(y:Nat×Nat×Hp)=>QD (Qd 48 2 QO [((⟨1,[QW]⟩,y.2.2.1,y.2.2.2):Xl)] (some ⟨y.2.1,0,none⟩) 1) (Qd 54 4 Q7 [QW] y.2.2.1 y.2.2.2))).φ x S w): Five 0 w x0 (.slice A 1 cp) (.slice none 0 0) x (.slice none 0 0) (.slice none 0 0):=by
 obtain⟨kind,vars,box,pts,ps,rules,eps,delta,budget,cert⟩:=x0
 simp only at h1 h2 h3 h4 h5
 subst h1 h2 h3 h4 h5
 obtain⟨_,y,x1,rfl,hp⟩:=(show _∧_ from hφ)
 exact⟨h,SlV.nil_ _ _ _ _,W5 rfl (fun x hx=>by simpa [VS]using hx) hp,SlV.nil_ _ _ _ _,SlV.nil_ _ _ _ _⟩
abbrev B3:Type:=Nat×Nat×Hp
theorem V3{y:B3}(x0:PV)(h1:x0.box=[s])(h2:x0.pts=[])(h3:x0.ps=lp.map (fun x=>x.1))(h4:x0.rules=[])(h5:x0.cert=[])(hlp:∀x,x∈lp→x=(VS,y.2.2.1,y.2.2.2))(hφ:(QD (QN 58 6 1 (LP.known fun _=>YH s) (some ⟨y.1,0,none⟩) 1) (QD (Qd 48 2 QO lp A cp) (Qd 54 4 Q7 [QW] y.2.2.1 y.2.2.2))).φ x S w): Five 0 w x0 (.slice (some ⟨y.1,0,none⟩) 1 1) (.slice none 0 0) (.slice A lp.length cp) (.slice none 0 0) (.slice none 0 0):=by
 obtain⟨kind,vars,box,pts,ps,rules,eps,delta,budget,cert⟩:=x0
 simp only at h1 h2 h3 h4 h5
 subst h1 h2 h3 h4 h5
 obtain⟨S1,S2,x2,k1,k2,_⟩:=(show ∃S1 S2 x2,_ from hφ)
 have h6:=W5 rfl hlp k2
 rw[Ri]at h6
 exact⟨lL k1,SlV.nil_ _ _ _ _,h6,SlV.nil_ _ _ _ _,SlV.nil_ _ _ _ _⟩
theorem kI{y:B3}{x3 x4:Value}{S3 S4:Nat→Prop}{g:Nat}{y3 y4:Hp}{R1:Res}{t3 t4 t5:TypeId}(hlp:∀x,x∈lp→x=(VS,y.2.2.1,y.2.2.2))(hl:lp.map (fun x=>x.1)=[VS,VS])(hφ:(QD R1 (QD (Qd 48 2 QO lp A cp) (Qd 54 4 Q7 [QW] y.2.2.1 y.2.2.2))).φ x S w)(h3:(Qd t3 3 QF [nm0] y3.1 y3.2).φ x3 S3 w)(h4:(Qd t4 3 QF [n1] y4.1 y4.2).φ x4 S4 w)(hg:Bx w g t5 #[.slice y3.1 ([nm0]:List Nm).length y3.2,.slice y4.1 ([n1]:List Nm).length y4.2]): Five 0 w px_g (.slice none 0 0) (.slice (some ⟨g,0,none⟩) 2 2) (.slice A lp.length cp) (.slice none 0 0) (.slice none 0 0):=by
 obtain⟨S1,S2,x2,k1,k2,_⟩:=(show ∃S1 S2 x2,_ from hφ)
 have h6:=W5 hl hlp k2
 have h7:([VS,VS]:List Py).length=lp.length:=by rw[← hl,Ri]
 rw[h7]at h6
 refine⟨SlV.nil_ _ _ _ _,⟨_,2,rfl,L3 _,(fun h=>nomatch h),fun _=>⟨g,0,rfl,L9 _,fun i hi=>?_⟩⟩,h6,SlV.nil_ _ _ _ _,SlV.nil_ _ _ _ _⟩
 rcases i with _|_|i
 ·exact⟨[.slice y3.1 ([nm0]:List Nm).length y3.2],rfl,⟨_,rfl,bw h3⟩,fun j hj=>by
   obtain rfl:j=0:=by omega
   rw[hg.cel];rfl⟩
 ·exact⟨[.slice y4.1 ([n1]:List Nm).length y4.2],rfl,⟨_,rfl,bw h4⟩,fun j hj=>by
   obtain rfl:j=0:=by omega
   rw[hg.cel];rfl⟩
 ·exact absurd hi (by show ¬ i+1+1<2;omega)
theorem PB{x y:PV}{b:Bool}{vb' vs' vp' vr' vc':Value}(hk:XM x y=b)(hx:shortP x)(hF:Five 0 W x vb vs vp vr vc)(hF':Five 0 W y vb' vs' vp' vr' vc'): Calls prog 16 #[yA x vb vs vp vr vc,yA y vb' vs' vp' vr' vc'] W fun e w'=>e=.returned (.bool b)∧Below W.heap.size W w':=by
 have c:=(lH x y hx W hF hF').at
 rw[hk]at c
 exact c
theorem Ck:shortP px_s:=dj px_s (by decide) rfl (fun p hp=>by simpa [px_s]using hp) (by decide) rfl rfl
theorem m8:XM px_s px_s=true:=by kernel_rfl
theorem my:XM px_s px_f=false:=by kernel_rfl
theorem eR(W:World): RetAt prog W 12 #[.int .i64 5,.int .i64 3] (.int .i64 3):=by
 have h:=IH 5 3 W
 rwa [show QT 5 3=3 from by decide]at h
theorem RJ  (w:World) (hT:Yk w):RetAt prog w 8 #[] (.bool true) :=
 Qi Qk mixed (fun a w=>call8 a w) func8 ntmps8 results8 _ rfl _ [.mk 1 0 [] (fun(y1:Nat×Nat×Hp)=>.agg #[.int .i64 1,.int .i64 1,.slice (some ⟨y1.1,0,none⟩) 1 1,.slice none 0 0,.slice (some ⟨y1.2.1,0,none⟩) 1 1,.slice none 0 0,.bool false,.string ⟨#[1]⟩,.int .i64 0,.bool false,.string ⟨#[]⟩,.int .i64 0,.int .i64 9,.slice none 0 0]) (fun(y1:Nat×Nat×Hp)=>QD (QN 58 6 1 (LP.known fun _=>YH (nm0,n1)) (some ⟨y1.1,0,none⟩) 1) (QD (Qd 48 2 QO [((⟨1,[QW]⟩,y1.2.2.1,y1.2.2.2):Xl)] (some ⟨y1.2.1,0,none⟩) 1) (Qd 54 4 Q7 [QW] y1.2.2.1 y1.2.2.2))) (fun(y1:Nat×Nat×Hp)=>[.mk 1 1 [] (fun(y2:Nat×Nat×Hp)=>.agg #[.int .i64 1,.int .i64 1,.slice (some ⟨y2.1,0,none⟩) 1 1,.slice none 0 0,.slice (some ⟨y2.2.1,0,none⟩) 1 1,.slice none 0 0,.bool false,.string ⟨#[1]⟩,.int .i64 0,.bool false,.string ⟨#[]⟩,.int .i64 0,.int .i64 9,.slice none 0 0]) (fun(y2:Nat×Nat×Hp)=>QD (QN 58 6 1 (LP.known fun _=>YH (nm0,n1)) (some ⟨y2.1,0,none⟩) 1) (QD (Qd 48 2 QO [((⟨1,[QW]⟩,y2.2.2.1,y2.2.2.2):Xl)] (some ⟨y2.2.1,0,none⟩) 1) (Qd 54 4 Q7 [QW] y2.2.2.1 y2.2.2.2))) (fun(y2:Nat×Nat×Hp)=>[.mk 1 2 [] (fun(y3:Nat×Nat×Hp)=>.agg #[.int .i64 1,.int .i64 1,.slice (some ⟨y3.1,0,none⟩) 1 1,.slice none 0 0,.slice (some ⟨y3.2.1,0,none⟩) 1 1,.slice none 0 0,.bool false,.string ⟨#[1]⟩,.int .i64 0,.bool false,.string ⟨#[]⟩,.int .i64 0,.int .i64 9,.slice none 0 0]) (fun(y3:Nat×Nat×Hp)=>QD (QN 58 6 1 (LP.known fun _=>YH (nm0,n1)) (some ⟨y3.1,0,none⟩) 1) (QD (Qd 48 2 QO [((⟨1,[QW]⟩,y3.2.2.1,y3.2.2.2):Xl)] (some ⟨y3.2.1,0,none⟩) 1) (Qd 54 4 Q7 [QW] y3.2.2.1 y3.2.2.2))) (fun(y3:Nat×Nat×Hp)=>[.mk 1 3 [] (fun(y4:Nat×Nat×Hp)=>.agg #[.int .i64 1,.int .i64 1,.slice (some ⟨y4.1,0,none⟩) 1 1,.slice none 0 0,.slice (some ⟨y4.2.1,0,none⟩) 1 1,.slice none 0 0,.bool false,.string ⟨#[1]⟩,.int .i64 0,.bool false,.string ⟨#[]⟩,.int .i64 0,.int .i64 9,.slice none 0 0]) (fun(y4:Nat×Nat×Hp)=>QD (QN 58 6 1 (LP.known fun _=>YH (nm0,n1)) (some ⟨y4.1,0,none⟩) 1) (QD (Qd 48 2 QO [((⟨1,[QW]⟩,y4.2.2.1,y4.2.2.2):Xl)] (some ⟨y4.2.1,0,none⟩) 1) (Qd 54 4 Q7 [QW] y4.2.2.1 y4.2.2.2))) (fun(y4:Nat×Nat×Hp)=>[.mk 1 4 [] (fun(y5:Nat×Nat×Hp)=>.agg #[.int .i64 1,.int .i64 1,.slice (some ⟨y5.1,0,none⟩) 1 1,.slice none 0 0,.slice (some ⟨y5.2.1,0,none⟩) 1 1,.slice none 0 0,.bool false,.string ⟨#[1]⟩,.int .i64 0,.bool false,.string ⟨#[]⟩,.int .i64 0,.int .i64 9,.slice none 0 0]) (fun(y5:Nat×Nat×Hp)=>QD (QN 58 6 1 (LP.known fun _=>YH (nm0,n1)) (some ⟨y5.1,0,none⟩) 1) (QD (Qd 48 2 QO [((⟨1,[QW]⟩,y5.2.2.1,y5.2.2.2):Xl)] (some ⟨y5.2.1,0,none⟩) 1) (Qd 54 4 Q7 [QW] y5.2.2.1 y5.2.2.2))) (fun(y5:Nat×Nat×Hp)=>[.mk 1 5 [] (fun(y6:Nat×Nat×Hp)=>.agg #[.int .i64 1,.int .i64 1,.slice (some ⟨y6.1,0,none⟩) 1 1,.slice none 0 0,.slice (some ⟨y6.2.1,0,none⟩) 1 1,.slice none 0 0,.bool false,.string ⟨#[1]⟩,.int .i64 0,.bool false,.string ⟨#[]⟩,.int .i64 0,.int .i64 9,.slice none 0 0]) (fun(y6:Nat×Nat×Hp)=>QD (QN 58 6 1 (LP.known fun _=>YH (nm0,n1)) (some ⟨y6.1,0,none⟩) 1) (QD (Qd 48 2 QO [((⟨1,[QW]⟩,y6.2.2.1,y6.2.2.2):Xl)] (some ⟨y6.2.1,0,none⟩) 1) (Qd 54 4 Q7 [QW] y6.2.2.1 y6.2.2.2))) (fun(y6:Nat×Nat×Hp)=>[.mk 1 6 [] (fun(y7:Nat×Nat×Hp)=>.agg #[.int .i64 1,.int .i64 1,.slice (some ⟨y7.1,0,none⟩) 1 1,.slice none 0 0,.slice (some ⟨y7.2.1,0,none⟩) 1 1,.slice none 0 0,.bool false,.string ⟨#[1]⟩,.int .i64 0,.bool false,.string ⟨#[]⟩,.int .i64 0,.int .i64 9,.slice none 0 0]) (fun(y7:Nat×Nat×Hp)=>QD (QN 58 6 1 (LP.known fun _=>YH (nm0,n1)) (some ⟨y7.1,0,none⟩) 1) (QD (Qd 48 2 QO [((⟨1,[QW]⟩,y7.2.2.1,y7.2.2.2):Xl)] (some ⟨y7.2.1,0,none⟩) 1) (Qd 54 4 Q7 [QW] y7.2.2.1 y7.2.2.2))) (fun(y7:Nat×Nat×Hp)=>[.mk 1 7 [] (fun(y8:Nat×Nat×Hp)=>.agg #[.int .i64 1,.int .i64 1,.slice (some ⟨y8.1,0,none⟩) 1 1,.slice none 0 0,.slice (some ⟨y8.2.1,0,none⟩) 1 1,.slice none 0 0,.bool false,.string ⟨#[1]⟩,.int .i64 0,.bool false,.string ⟨#[]⟩,.int .i64 0,.int .i64 9,.slice none 0 0]) (fun(y8:Nat×Nat×Hp)=>QD (QN 58 6 1 (LP.known fun _=>YH (nm0,n1)) (some ⟨y8.1,0,none⟩) 1) (QD (Qd 48 2 QO [((⟨1,[QW]⟩,y8.2.2.1,y8.2.2.2):Xl)] (some ⟨y8.2.1,0,none⟩) 1) (Qd 54 4 Q7 [QW] y8.2.2.1 y8.2.2.2))) (fun(y8:Nat×Nat×Hp)=>[.eff 2 4 0 (fun(y9:Hp)=>Value.slice y9.1 [((⟨1,[QW]⟩,y1.2.2.1,y1.2.2.2):Xl),((⟨1,[QW]⟩,y1.2.2.1,y1.2.2.2):Xl)].length y9.2) (fun(y9:Hp)=>QD (QN 58 6 1 (LP.known fun _=>YH (nm0,n1)) (some ⟨y1.1,0,none⟩) 1) (QD (Qd 48 2 QO [((⟨1,[QW]⟩,y1.2.2.1,y1.2.2.2):Xl),((⟨1,[QW]⟩,y1.2.2.1,y1.2.2.2):Xl)] y9.1 y9.2) (Qd 54 4 Q7 [QW] y1.2.2.1 y1.2.2.2))) (fun(y9:Hp)=>[.o 3 0 (.ret (.agg [bV false,sV ⟨#[1]⟩,iV 0])),.o 4 0 (.ret (.agg [bV false,sV ⟨#[]⟩,iV 0])),.reg 6 [],.o 6 3 (.ret (.agg [bV false,sV ⟨#[1]⟩,iV 0])),.o 6 4 (.rd [4] (.pointer (some (QJ (some ⟨y5.1,0,none⟩) (0*6+0))))),.o 6 5 (.set (.pointer (some (QJ (some ⟨y5.1,0,none⟩) (0*6+(0+0)))))),.eff 6 6 4 (fun(y10:Unit)=>undef) (fun(y10:Unit)=>QD (QN 58 6 1 (LP.known fun _=>YH (n1,n1)) (some ⟨y5.1,0,none⟩) 1) (QD (Qd 48 2 QO [((⟨1,[QW]⟩,y5.2.2.1,y5.2.2.2):Xl)] (some ⟨y5.2.1,0,none⟩) 1) (Qd 54 4 Q7 [QW] y5.2.2.1 y5.2.2.2))) (fun(y10:Unit)=>[.reg 6 [],.o 8 3 (.ret (.agg [bV false,sV ⟨#[1]⟩,iV 0])),.o 8 4 (.rd [7] (.pointer (some (QJ (some ⟨y8.1,0,none⟩) (0*6+0))))),.o 8 5 (.set (.pointer (some (QJ (some ⟨y8.1,0,none⟩) (0*6+(0+0)))))),.eff 8 6 7 (fun(y11:Unit)=>undef) (fun(y11:Unit)=>QD (QN 58 6 1 (LP.known fun _=>YH (n1,n1)) (some ⟨y8.1,0,none⟩) 1) (QD (Qd 48 2 QO [((⟨1,[QW]⟩,y8.2.2.1,y8.2.2.2):Xl)] (some ⟨y8.2.1,0,none⟩) 1) (Qd 54 4 Q7 [QW] y8.2.2.1 y8.2.2.2))) (fun(y11:Unit)=>[.eff 11 4 6 (fun(y12:Hp)=>Value.slice y12.1 [((⟨1,[QW]⟩,y7.2.2.1,y7.2.2.2):Xl),((⟨1,[QW]⟩,y7.2.2.1,y7.2.2.2):Xl)].length y12.2) (fun(y12:Hp)=>QD (QN 58 6 1 (LP.known fun _=>YH (nm0,n1)) (some ⟨y7.1,0,none⟩) 1) (QD (Qd 48 2 QO [((⟨1,[QW]⟩,y7.2.2.1,y7.2.2.2):Xl),((⟨1,[QW]⟩,y7.2.2.1,y7.2.2.2):Xl)] y12.1 y12.2) (Qd 54 4 Q7 [QW] y7.2.2.1 y7.2.2.2))) (fun(y12:Hp)=>[.o 12 0 (.ret (.agg [bV false,sV ⟨#[]⟩,iV 0])),.o 12 2 (.ret (.agg [bV false,sV ⟨#[1]⟩,iV 0])),.row 12 4 20 [50] 32 3 QF ([nm0]) (fun(y13:Hp)=>[.row 12 4 21 [52] 32 3 QF ([n1]) (fun(y14:Hp)=>[.reg 59 [],.o 13 0 (.nwb (.agg [iV 1,iV 1,.sli 23 0 1 1,lV none 0 0,.han 22,lV none 0 0,bV false,sV ⟨#[1]⟩,iV 0,bV false,sV ⟨#[]⟩,iV 0,iV 9,lV none 0 0]) 58 [bV false,sV ⟨#[]⟩,iV 0,bV false,sV ⟨#[1]⟩,iV 0] (fun(y:B3)=>Value.slice (some ⟨y.2.1,0,none⟩) 1 1) (fun(y:B3)=>y.1) (fun(y:B3)=>QD (Qd 48 2 QO [((⟨1,[QW]⟩,y.2.2.1,y.2.2.2):Xl)] (some ⟨y.2.1,0,none⟩) 1) (Qd 54 4 Q7 [QW] y.2.2.1 y.2.2.2))),.o 13 1 (.rth [22] (.int .i64 0)),.o 13 5 (.rth [0] (.int .i64 1)),.o 13 10 (.rth [1] (.int .i64 1)),.o 13 15 (.rth [2] (.int .i64 1)),.o 13 20 (.rth [3] (.int .i64 1)),.o 13 25 (.rth [4] (.int .i64 5)),.o 13 30 (.rth [5] (.int .i64 3)),.o 13 35 (.rth [6,20,21] (.int .i64 1)),.o 13 40 (.rth [7] (.int .i64 3)),.o 13 44 (.ret (iV 3)),.o 13 48 (.nwb (.agg [iV 1,iV 1,.sli 71 0 1 1,lV none 0 0,.han 70,lV none 0 0,bV false,sV ⟨#[1]⟩,iV 0,bV false,sV ⟨#[]⟩,iV 0,iV 9,lV none 0 0]) 58 [bV false,sV ⟨#[]⟩,iV 0,bV false,sV ⟨#[1]⟩,iV 0] (fun(y:B3)=>Value.slice (some ⟨y.2.1,0,none⟩) 1 1) (fun(y:B3)=>y.1) (fun(y:B3)=>QD (Qd 48 2 QO [((⟨1,[QW]⟩,y.2.2.1,y.2.2.2):Xl)] (some ⟨y.2.1,0,none⟩) 1) (Qd 54 4 Q7 [QW] y.2.2.1 y.2.2.2))),.o 13 49 (.nwb (.agg [iV 1,iV 1,.sli 72 0 1 1,lV none 0 0,.han 71,lV none 0 0,bV false,sV ⟨#[1]⟩,iV 0,bV false,sV ⟨#[]⟩,iV 0,iV 9,lV none 0 0]) 58 [bV false,sV ⟨#[]⟩,iV 0,bV false,sV ⟨#[1]⟩,iV 0] (fun(y:B3)=>Value.slice (some ⟨y.2.1,0,none⟩) 1 1) (fun(y:B3)=>y.1) (fun(y:B3)=>QD (Qd 48 2 QO [((⟨1,[QW]⟩,y.2.2.1,y.2.2.2):Xl)] (some ⟨y.2.1,0,none⟩) 1) (Qd 54 4 Q7 [QW] y.2.2.1 y.2.2.2))),.o 13 50 (.rth [70,71] (.bool true)),.o 13 53 (.nwb (.agg [iV 1,iV 1,.sli 76 0 1 1,lV none 0 0,.han 75,lV none 0 0,bV false,sV ⟨#[1]⟩,iV 0,bV false,sV ⟨#[]⟩,iV 0,iV 9,lV none 0 0]) 58 [bV false,sV ⟨#[]⟩,iV 0,bV false,sV ⟨#[1]⟩,iV 0] (fun(y:B3)=>Value.slice (some ⟨y.2.1,0,none⟩) 1 1) (fun(y:B3)=>y.1) (fun(y:B3)=>QD (Qd 48 2 QO [((⟨1,[QW]⟩,y.2.2.1,y.2.2.2):Xl)] (some ⟨y.2.1,0,none⟩) 1) (Qd 54 4 Q7 [QW] y.2.2.1 y.2.2.2))),.o 13 55 (.rth [75,5] (.bool false))])])])])])])])])])])])])])])] (fun W hW hR=>(fun(hT:Yk W)=>ai (KB W) fun(y1:Nat×Nat×Hp)=>ai (KB W) fun(y2:Nat×Nat×Hp)=>ai (KB W) fun(y3:Nat×Nat×Hp)=>ai (KB W) fun(y4:Nat×Nat×Hp)=>ai (KB W) fun(y5:Nat×Nat×Hp)=>ai (KB W) fun(y6:Nat×Nat×Hp)=>ai (KB W) fun(y7:Nat×Nat×Hp)=>ai (KB W) fun(y8:Nat×Nat×Hp)=>ai (PE (w0:=W) (R1:=QN 58 6 1 (LP.known fun _=>YH (nm0,n1)) (some ⟨y1.1,0,none⟩) 1) H4 (AQ (R2:=Qd 54 4 Q7 [QW] y1.2.2.1 y1.2.2.2) VF (No (w0:=W) (ty:=28) (c:=QO) (l:=[((⟨1,[QW]⟩,y1.2.2.1,y1.2.2.2):Xl)]) (l':=[((⟨1,[QW]⟩,y1.2.2.1,y1.2.2.2):Xl),((⟨1,[QW]⟩,y1.2.2.1,y1.2.2.2):Xl)]) (A:=(some ⟨y1.2.1,0,none⟩)) (cp:=1) QS QH Zv Qo (Lr rfl) rfl (Lr rfl)))) fun(y9:Hp)=>ZP (Fl W) (dV W) (Fl W) (bf (w0:=W) (R2:=QD (Qd 48 2 QO [((⟨1,[QW]⟩,y5.2.2.1,y5.2.2.2):Xl)] (some ⟨y5.2.1,0,none⟩) 1) (Qd 54 4 Q7 [QW] y5.2.2.1 y5.2.2.2)) (Ho (w0:=W) (e:=58) (m:=6) (n:=1) (L:=LP.known fun _=>YH (nm0,n1)) (A:=some ⟨y5.1,0,none⟩) (cp:=1) (fun W' f S2 HR HL=>JQ (w0:=W') (c:=1) (i:=0) HR (by decide)))) (GC (w0:=W) (A:=some ⟨y5.1,0,none⟩) (i:=0) (k:=6) (o:=0))<|ai (AQ (w0:=W) (R2:=QD (Qd 48 2 QO [((⟨1,[QW]⟩,y5.2.2.1,y5.2.2.2):Xl)] (some ⟨y5.2.1,0,none⟩) 1) (Qd 54 4 Q7 [QW] y5.2.2.1 y5.2.2.2)) (MA VF VF) (fun(W':World) (_:Below W.heap.size W W')=>Ii (P:=prog) (e:=58) (m:=6) (n:=1) (t:=32) (i:=0) (o:=0) (L:=LP.known fun _=>YH (nm0,n1)) (L':=LP.known fun _=>YH (n1,n1)) (A:=some ⟨y5.1,0,none⟩) (cp:=1) (v:=.agg #[.bool false,.string ⟨#[1]⟩,.int .i64 0]) (vs:=[.bool false,.string ⟨#[1]⟩,.int .i64 0]) (Qk 32 _ rfl) rfl rfl (by decide) (by decide) (by intro u hu;simp only[Lp,Lv,or_false]at hu;rcases hu with rfl|rfl|rfl<;>rfl) (fun j hj hne=>absurd (show j=0 by omega) hne) (fun S w cs hl h=>by rw[show cs=YH (nm0,n1)from h];rfl) W')) fun(y10:Unit)=>Kr (Fl W) (bf (w0:=W) (R2:=QD (Qd 48 2 QO [((⟨1,[QW]⟩,y8.2.2.1,y8.2.2.2):Xl)] (some ⟨y8.2.1,0,none⟩) 1) (Qd 54 4 Q7 [QW] y8.2.2.1 y8.2.2.2)) (Ho (w0:=W) (e:=58) (m:=6) (n:=1) (L:=LP.known fun _=>YH (nm0,n1)) (A:=some ⟨y8.1,0,none⟩) (cp:=1) (fun W' f S2 HR HL=>JQ (w0:=W') (c:=1) (i:=0) HR (by decide)))) (GC (w0:=W) (A:=some ⟨y8.1,0,none⟩) (i:=0) (k:=6) (o:=0))<|ai (AQ (w0:=W) (R2:=QD (Qd 48 2 QO [((⟨1,[QW]⟩,y8.2.2.1,y8.2.2.2):Xl)] (some ⟨y8.2.1,0,none⟩) 1) (Qd 54 4 Q7 [QW] y8.2.2.1 y8.2.2.2)) (MA VF VF) (fun(W':World) (_:Below W.heap.size W W')=>Ii (P:=prog) (e:=58) (m:=6) (n:=1) (t:=32) (i:=0) (o:=0) (L:=LP.known fun _=>YH (nm0,n1)) (L':=LP.known fun _=>YH (n1,n1)) (A:=some ⟨y8.1,0,none⟩) (cp:=1) (v:=.agg #[.bool false,.string ⟨#[1]⟩,.int .i64 0]) (vs:=[.bool false,.string ⟨#[1]⟩,.int .i64 0]) (Qk 32 _ rfl) rfl rfl (by decide) (by decide) (by intro u hu;simp only[Lp,Lv,or_false]at hu;rcases hu with rfl|rfl|rfl<;>rfl) (fun j hj hne=>absurd (show j=0 by omega) hne) (fun S w cs hl h=>by rw[show cs=YH (nm0,n1)from h];rfl) W')) fun(y11:Unit)=>ai (PE (w0:=W) (R1:=QN 58 6 1 (LP.known fun _=>YH (nm0,n1)) (some ⟨y7.1,0,none⟩) 1) H4 (AQ (R2:=Qd 54 4 Q7 [QW] y7.2.2.1 y7.2.2.2) VF (No (w0:=W) (ty:=28) (c:=QO) (l:=[((⟨1,[QW]⟩,y7.2.2.1,y7.2.2.2):Xl)]) (l':=[((⟨1,[QW]⟩,y7.2.2.1,y7.2.2.2):Xl),((⟨1,[QW]⟩,y7.2.2.1,y7.2.2.2):Xl)]) (A:=(some ⟨y7.2.1,0,none⟩)) (cp:=1) QS QH Zv Qo (Lr rfl) rfl (Lr rfl)))) fun(y12:Hp)=>Kr (dV W) (Fl W) (show([.bool false,.string ⟨#[]⟩,.int .i64 0]:List Value)=List.flatMap QF ([nm0])from rfl)<|ai (And.intro QE (show([nm0]).length≤maxLen from(by decide))) fun(y13:Hp)=>ai (show([.bool false,.string ⟨#[1]⟩,.int .i64 0]:List Value)=List.flatMap QF ([n1])from rfl)<|ai (And.intro QE (show([n1]).length≤maxLen from(by decide))) fun(y14:Hp)=>Yz (AZ W) (show ∀y:B3,(.slice (some ⟨y.2.1,0,none⟩) 1 1:Value).oneCell'=true from fun _=>rfl) (And.intro (fun a w=>call10 a w) (fun(W':World) (hW':Below W.heap.size W W') (g:Nat) (hg:Bx W' g 58 #[.bool false,.string ⟨#[]⟩,.int .i64 0,.bool false,.string ⟨#[1]⟩,.int .i64 0]) (x:Value) (S:Nat→Prop) (hφ:(KT (fun(y:B3)=>Value.slice (some ⟨y.2.1,0,none⟩) 1 1) (fun(y:B3)=>QD (Qd 48 2 QO [((⟨1,[QW]⟩,y.2.2.1,y.2.2.2):Xl)] (some ⟨y.2.1,0,none⟩) 1) (Qd 54 4 Q7 [QW] y.2.2.1 y.2.2.2))).φ x S W')=>Dq ox pj oD (Qn hT hW') (If px_s rfl rfl rfl rfl rfl (PO hg) hφ))) (And.intro (fun a w=>call10 a w) (fun(W':World) (hW':Below W.heap.size W W') (x:Value) (S:Nat→Prop) (hφ:(QD (QN 58 6 1 (LP.known fun _=>YH (nm0,n1)) (some ⟨y1.1,0,none⟩) 1) (QD (Qd 48 2 QO [((⟨1,[QW]⟩,y1.2.2.1,y1.2.2.2):Xl),((⟨1,[QW]⟩,y1.2.2.1,y1.2.2.2):Xl)] y9.1 y9.2) (Qd 54 4 Q7 [QW] y1.2.2.1 y1.2.2.2))).φ x S W')=>Dq pm oE oH (Qn hT hW') (V3 (y:=y1) (lp:=[((⟨1,[QW]⟩,y1.2.2.1,y1.2.2.2):Xl),((⟨1,[QW]⟩,y1.2.2.1,y1.2.2.2):Xl)]) px_a rfl rfl rfl rfl rfl (fun x hx=>by simpa [VS]using hx) hφ))) (And.intro (fun a w=>call10 a w) (fun(W':World) (hW':Below W.heap.size W W') (x:Value) (S:Nat→Prop) (hφ:(QD (QN 58 6 1 (LP.known fun _=>YH (nm0,n1)) (some ⟨y2.1,0,none⟩) 1) (QD (Qd 48 2 QO [((⟨1,[QW]⟩,y2.2.2.1,y2.2.2.2):Xl)] (some ⟨y2.2.1,0,none⟩) 1) (Qd 54 4 Q7 [QW] y2.2.2.1 y2.2.2.2))).φ x S W')=>Dq oS oI oU (Qn hT hW') (V3 (y:=y2) (lp:=[((⟨1,[QW]⟩,y2.2.2.1,y2.2.2.2):Xl)]) px_b rfl rfl rfl rfl rfl (fun x hx=>by simpa [VS]using hx) hφ))) (And.intro (fun a w=>call10 a w) (fun(W':World) (hW':Below W.heap.size W W') (x:Value) (S:Nat→Prop) (hφ:(QD (QN 58 6 1 (LP.known fun _=>YH (nm0,n1)) (some ⟨y3.1,0,none⟩) 1) (QD (Qd 48 2 QO [((⟨1,[QW]⟩,y3.2.2.1,y3.2.2.2):Xl)] (some ⟨y3.2.1,0,none⟩) 1) (Qd 54 4 Q7 [QW] y3.2.2.1 y3.2.2.2))).φ x S W')=>Dq ou oq oX (Qn hT hW') (V3 (y:=y3) (lp:=[((⟨1,[QW]⟩,y3.2.2.1,y3.2.2.2):Xl)]) px_c rfl rfl rfl rfl rfl (fun x hx=>by simpa [VS]using hx) hφ))) (And.intro (fun a w=>call10 a w) (fun(W':World) (hW':Below W.heap.size W W') (x:Value) (S:Nat→Prop) (hφ:(QD (QN 58 6 1 (LP.known fun _=>YH (nm0,n1)) (some ⟨y4.1,0,none⟩) 1) (QD (Qd 48 2 QO [((⟨1,[QW]⟩,y4.2.2.1,y4.2.2.2):Xl)] (some ⟨y4.2.1,0,none⟩) 1) (Qd 54 4 Q7 [QW] y4.2.2.1 y4.2.2.2))).φ x S W')=>Dq oQ o5 oV (Qn hT hW') (V3 (y:=y4) (lp:=[((⟨1,[QW]⟩,y4.2.2.1,y4.2.2.2):Xl)]) px_d rfl rfl rfl rfl rfl (fun x hx=>by simpa [VS]using hx) hφ))) (And.intro (fun a w=>call10 a w) (fun(W':World) (hW':Below W.heap.size W W') (x:Value) (S:Nat→Prop) (hφ:(QD (QN 58 6 1 (LP.known fun _=>YH (n1,n1)) (some ⟨y5.1,0,none⟩) 1) (QD (Qd 48 2 QO [((⟨1,[QW]⟩,y5.2.2.1,y5.2.2.2):Xl)] (some ⟨y5.2.1,0,none⟩) 1) (Qd 54 4 Q7 [QW] y5.2.2.1 y5.2.2.2))).φ x S W')=>Dq pe pc o7 (Qn hT hW') (V3 (y:=y5) (lp:=[((⟨1,[QW]⟩,y5.2.2.1,y5.2.2.2):Xl)]) px_e rfl rfl rfl rfl rfl (fun x hx=>by simpa [VS]using hx) hφ)))<|Yz (And.intro (fun a w=>call10 a w) (fun(W':World) (hW':Below W.heap.size W W') (x:Value) (S:Nat→Prop) (hφ:(QD (QN 58 6 1 (LP.known fun _=>YH (nm0,n1)) (some ⟨y6.1,0,none⟩) 1) (QD (Qd 48 2 QO [((⟨1,[QW]⟩,y6.2.2.1,y6.2.2.2):Xl)] (some ⟨y6.2.1,0,none⟩) 1) (Qd 54 4 Q7 [QW] y6.2.2.1 y6.2.2.2))).φ x S W')=>Dq oh o8 od (Qn hT hW') (V3 (y:=y6) (lp:=[((⟨1,[QW]⟩,y6.2.2.1,y6.2.2.2):Xl)]) px_f rfl rfl rfl rfl rfl (fun x hx=>by simpa [VS]using hx) hφ))) (And.intro (fun a w=>call10 a w) (fun(W':World) (hW':Below W.heap.size W W') (g:Nat) (hg:Bx W' g 45 #[.slice y13.1 ([nm0]).length y13.2,.slice y14.1 ([n1]).length y14.2]) (x:Value) (S:Nat→Prop) (hφ:(QD (QN 58 6 1 (LP.known fun _=>YH (nm0,n1)) (some ⟨y7.1,0,none⟩) 1) (QD (Qd 48 2 QO [((⟨1,[QW]⟩,y7.2.2.1,y7.2.2.2):Xl),((⟨1,[QW]⟩,y7.2.2.1,y7.2.2.2):Xl)] y12.1 y12.2) (Qd 54 4 Q7 [QW] y7.2.2.1 y7.2.2.2))).φ x S W') (x3:Value) (S3:Nat→Prop) (h3:(Qd 32 3 QF ([nm0]) y13.1 y13.2).φ x3 S3 W') (x4:Value) (S4:Nat→Prop) (h4:(Qd 32 3 QF ([n1]) y14.1 y14.2).φ x4 S4 W')=>Dq pf of oA (Qn hT hW') (kI (y:=y7) (lp:=[((⟨1,[QW]⟩,y7.2.2.1,y7.2.2.2):Xl),((⟨1,[QW]⟩,y7.2.2.1,y7.2.2.2):Xl)]) (y3:=y13) (y4:=y14) (fun x hx=>by simpa [VS]using hx) rfl hφ h3 h4 hg))) (And.intro (fun a w=>call10 a w) (fun(W':World) (hW':Below W.heap.size W W') (x:Value) (S:Nat→Prop) (hφ:(QD (QN 58 6 1 (LP.known fun _=>YH (n1,n1)) (some ⟨y8.1,0,none⟩) 1) (QD (Qd 48 2 QO [((⟨1,[QW]⟩,y8.2.2.1,y8.2.2.2):Xl)] (some ⟨y8.2.1,0,none⟩) 1) (Qd 54 4 Q7 [QW] y8.2.2.1 y8.2.2.2))).φ x S W')=>Dq oG o9 oP (Qn hT hW') (V3 (y:=y8) (lp:=[((⟨1,[QW]⟩,y8.2.2.1,y8.2.2.2):Xl)]) px_h rfl rfl rfl rfl rfl (fun x hx=>by simpa [VS]using hx) hφ))) (eR W) (AZ W) (show ∀y:B3,(.slice (some ⟨y.2.1,0,none⟩) 1 1:Value).oneCell'=true from fun _=>rfl) (AZ W) (show ∀y:B3,(.slice (some ⟨y.2.1,0,none⟩) 1 1:Value).oneCell'=true from fun _=>rfl)<|Jj (And.intro (fun a w=>call16 a w) (fun(W':World) (hW':Below W.heap.size W W') (g:Nat) (hg:Bx W' g 58 #[.bool false,.string ⟨#[]⟩,.int .i64 0,.bool false,.string ⟨#[1]⟩,.int .i64 0]) (g2:Nat) (hg2:Bx W' g2 58 #[.bool false,.string ⟨#[]⟩,.int .i64 0,.bool false,.string ⟨#[1]⟩,.int .i64 0]) (x:Value) (S:Nat→Prop) (hφ:(KT (fun(y:B3)=>Value.slice (some ⟨y.2.1,0,none⟩) 1 1) (fun(y:B3)=>QD (Qd 48 2 QO [((⟨1,[QW]⟩,y.2.2.1,y.2.2.2):Xl)] (some ⟨y.2.1,0,none⟩) 1) (Qd 54 4 Q7 [QW] y.2.2.1 y.2.2.2))).φ x S W') (x2:Value) (S2:Nat→Prop) (hφ2:(KT (fun(y:B3)=>Value.slice (some ⟨y.2.1,0,none⟩) 1 1) (fun(y:B3)=>QD (Qd 48 2 QO [((⟨1,[QW]⟩,y.2.2.1,y.2.2.2):Xl)] (some ⟨y.2.1,0,none⟩) 1) (Qd 54 4 Q7 [QW] y.2.2.1 y.2.2.2))).φ x2 S2 W')=>PB m8 Ck (If px_s rfl rfl rfl rfl rfl (PO hg2) hφ) (If px_s rfl rfl rfl rfl rfl (PO hg) hφ2))) (AZ W) (show ∀y:B3,(.slice (some ⟨y.2.1,0,none⟩) 1 1:Value).oneCell'=true from fun _=>rfl) (And.intro (fun a w=>call16 a w) (fun(W':World) (hW':Below W.heap.size W W') (g:Nat) (hg:Bx W' g 58 #[.bool false,.string ⟨#[]⟩,.int .i64 0,.bool false,.string ⟨#[1]⟩,.int .i64 0]) (x:Value) (S:Nat→Prop) (hφ:(KT (fun(y:B3)=>Value.slice (some ⟨y.2.1,0,none⟩) 1 1) (fun(y:B3)=>QD (Qd 48 2 QO [((⟨1,[QW]⟩,y.2.2.1,y.2.2.2):Xl)] (some ⟨y.2.1,0,none⟩) 1) (Qd 54 4 Q7 [QW] y.2.2.1 y.2.2.2))).φ x S W') (x2:Value) (S2:Nat→Prop) (hφ2:(QD (QN 58 6 1 (LP.known fun _=>YH (nm0,n1)) (some ⟨y6.1,0,none⟩) 1) (QD (Qd 48 2 QO [((⟨1,[QW]⟩,y6.2.2.1,y6.2.2.2):Xl)] (some ⟨y6.2.1,0,none⟩) 1) (Qd 54 4 Q7 [QW] y6.2.2.1 y6.2.2.2))).φ x2 S2 W')=>PB my Ck (If px_s rfl rfl rfl rfl rfl (PO hg) hφ) (V3 (y:=y6) (lp:=[((⟨1,[QW]⟩,y6.2.2.1,y6.2.2.2):Xl)]) px_f rfl rfl rfl rfl rfl (fun x hx=>by simpa [VS]using hx) hφ2)))<|(eB true true rfl)) (Qn hT hW)) fun W=>by kernel_rfl
