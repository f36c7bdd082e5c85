/- The walks and plain laws beneath the statements. -/
import Derived.Test.YtaelfkdjlioegaaGreatDoorQG30
import Derived.Below
import Derived.ChangeSame
import Derived.Carry
import Derived.SliceStrings
namespace Go.Proofs.YtaelfkdjlioegaaGreatDoor
open Tryz
set_option maxRecDepth 100000
open Go Go.RowKit
variable{ct l:List Nd}{k c:Nat}{m:Int}{A Ab:Option Addr}{s:ChangeSpec}{As:Nat→Option Addr}{apart fresh handsOn again:Bool}{before pa pv:List MemPlace}
def GR(z:Int): List Value:=[.int .i64 z]
theorem Gb(z:Int): (GR z).length=1:=rfl
theorem am(z:Int)(u:Value)(h:u∈GR z): u.oneCell'=true:=by
 obtain rfl:=Rx.1 h
 rfl
def EH(S:List Int): Int:=S.getD (S.length-1) 0
def Ee(n:Nd)(S:List Int): List Int:=bif n.split==0 then S.take (S.length-1)else S.take (S.length-1)++[IntKind.i64.wrap (EH S+1),IntKind.i64.wrap (EH S+1)]
def XA(ct:List Nd): Nat→List Int
 | 0=>[0]
 | k+1=>Ee (Qc ct k) (XA ct k)
def FD(ct:List Nd): Nat→Int
 | 0=>0
 | k+1=>bif (Qc ct k).split==0 then IntKind.i64.wrap (FD ct k+1)else FD ct k
def IP(ct:List Nd): Nat→Int
 | 0=>0
 | k+1=>max (IP ct k) (EH (XA ct k))
theorem AH(ct:List Nd): ∀k,(XA ct k).length≤k+1
 | 0=>L3 _
 | k+1=>by
  have:=AH ct k
  show(Ee (Qc ct k) (XA ct k)).length≤_
  unfold Ee
  cases (Qc ct k).split==0 with
  | true=>simp;omega
  | false=>simp;omega
def EF(ct:List Nd): Bool:=bif decide ((ct.length:Int)>4096)then false else bif Q3 ct.length (fun j=>(((XA ct j).length:Nat):Int)==0)then false else(((XA ct ct.length).length:Nat):Int)==0
def dC(ct:List Nd): Value:=.tuple #[.int .i64 (bif EF ct then FD ct ct.length else 0),.int .i64 (bif EF ct then IP ct ct.length else 0),.bool (EF ct)]
def Zw(many:Int)(ct:List Nd): Bool:=bif (ct.length:Int)==0 then true else bif EF ct then !Q3 ct.length (fun j=>Yc many (Qc ct j))else false
theorem P3(h:((Qc ct k).split==0)=true): XA ct (k+1)=(XA ct k).take ((XA ct k).length-1):=by
 show Ee _ _=_
 unfold Ee
 rw[h];rfl
theorem Pk(h:((Qc ct k).split==0)=false): XA ct (k+1)=(XA ct k).take ((XA ct k).length-1)++[IntKind.i64.wrap (EH (XA ct k)+1),IntKind.i64.wrap (EH (XA ct k)+1)]:=by
 show Ee _ _=_
 unfold Ee
 rw[h];rfl
theorem mz(h:((Qc ct k).split==0)=true): FD ct (k+1)=IntKind.i64.wrap (FD ct k+1):=by
 show(bif _ then _ else _)=_
 rw[h];rfl
theorem m6(h:((Qc ct k).split==0)=false): FD ct (k+1)=FD ct k:=by
 show(bif _ then _ else _)=_
 rw[h];rfl
theorem CU{S:List Int}(h:(((S.length:Int))==0)=false): 0<S.length:=by
 have:=R6.1 h
 omega
section
variable {P:Program} {w0:World}
theorem O9{α:Type}{t e m:Nat}{ag:Option Bool}{ti:TI}(hi:XT P t=some ti)(hk:ti.k=.slice e k ag)(hz:k≠0){c:α→List Value}(hc:∀x,(c x).length=k){l:List α}{cp:Nat}(hm:m≤l.length)(h0:0<l.length):
  ∀W,Below w0.heap.size w0 W→∀x S,(Qd e k c l A cp).φ x S W→VP P W (fun y:Hp=>.slice y.1 (l.take m).length y.2) (fun y:Hp=>Qd e k c (l.take m) y.1 y.2) x S (Instr.sliceAt t (.slice A l.length cp) none (some (.int .i64 (m:Int))) none):=fun W _ x S hφ=>by
 obtain⟨h1,h2,h3⟩:=(show _∧_∧_ from hφ)
 rcases h2.2 with⟨e1,e2⟩|⟨g,cap,cur,e1,hb,hg,hn,hx,hs,hcs⟩
 ·omega
 injection e1 with e1 _ e3
 subst e1
 subst e3
 have hlm:(l.take m).length=m:=by rw[Rt];omega
 refine⟨(some ⟨g,0,none⟩,cp),S,W,?_,Trn.refl _ _,(show _∧_∧_ from⟨h1,⟨?_,.inr ⟨g,cp,cur,rfl,hb,hg,by rw[hlm];omega,hx,hs,?_⟩⟩,h3⟩),fun b hb2=>⟨.inl hb2,?_⟩⟩
 ·have h:=KY (P:=P) (w:=W) (g:=g) (o:=0) (n:=l.length) (c:=cp) (l:=0) (h:=m) (lo:=none) (hi:=some (.int .i64 (m:Int))) hi hk hz (.inl ⟨rfl,rfl⟩) (.inr ⟨.i64,rfl⟩) (L9 _) (by omega)
  rw[h,hlm]
  simp
 ·rw[QP hc,hlm]
 ·rw[hlm]
  have h5:m*k≤l.length*k:=Lo _ hm
  have h6:((cur.toList.take (l.length*k)).take (m*k))=(l.flatMap c).take (m*k):=by rw[hcs]
  rw[List.take_take,Ug h5]at h6
  rw[h6]
  have h7:l.flatMap c=(l.take m).flatMap c++(l.drop m).flatMap c:=by rw[← Tv,List.take_append_drop]
  rw[h7,List.take_append_of_le_length (by rw[QP hc,hlm];exact L3 _),Rh (by rw[QP hc,hlm];exact L3 _)]
 ·exact(h2.lt b ((h3 b).1 hb2)).2
end
theorem XV:RowT prog 44 44 32 3 32:=⟨by kernel_rfl,⟨32,by kernel_rfl⟩,by kernel_rfl,by decide,by decide⟩
theorem GW:RowT prog 44 45 32 3 32:=⟨by kernel_rfl,⟨32,by kernel_rfl⟩,by kernel_rfl,by decide,by decide⟩
theorem Cs:RowT prog 45 45 32 3 32:=⟨by kernel_rfl,⟨32,by kernel_rfl⟩,by kernel_rfl,by decide,by decide⟩
theorem Kj:RowT prog 132 132 44 1 24:=⟨by kernel_rfl,⟨44,by kernel_rfl⟩,by kernel_rfl,by decide,by decide⟩
theorem Dc:RowT prog 25 25 45 1 24:=⟨by kernel_rfl,⟨45,by kernel_rfl⟩,by kernel_rfl,by decide,by decide⟩
theorem NR:RowT prog 23 23 58 6 64:=⟨by kernel_rfl,⟨58,by kernel_rfl⟩,by kernel_rfl,by decide,by decide⟩
theorem QS:RowT prog 28 28 48 2 32:=⟨by kernel_rfl,⟨48,by kernel_rfl⟩,by kernel_rfl,by decide,by decide⟩
theorem CK:RowT prog 33 33 50 6 72:=⟨by kernel_rfl,⟨50,by kernel_rfl⟩,by kernel_rfl,by decide,by decide⟩
theorem Zd:RowT prog 46 46 54 4 48:=⟨by kernel_rfl,⟨54,by kernel_rfl⟩,by kernel_rfl,by decide,by decide⟩
theorem F5:RowT prog 171 171 3 1 8:=⟨by kernel_rfl,⟨3,by kernel_rfl⟩,by kernel_rfl,by decide,by decide⟩
abbrev Xl:Type:=Py×Option Addr×Nat
def QO(x:Xl): List Value:=[.int .i64 x.1.vars,.slice x.2.1 x.1.ts.length x.2.2]
theorem QH(x:Xl): (QO x).length=2:=rfl
theorem Zv(x:Xl)(u:Value)(h:u∈QO x): u.oneCell'=true:=by
 simp only[QO,Lp,Lv,or_false]at h
 rcases h with rfl|rfl<;>rfl
def Qo:Xl:=(jk,none,0)
section
variable {P:Program} {w0:World}
theorem EP{α:Type}{c:α→List Value}(hc:∀x,(c x).length=k)(hk:0<k)(z0:α)(n:Nat): (Builtin.zeroCells (c z0).toArray n).toList=(List.replicate n z0).flatMap c:=by
 have hl:((List.replicate n z0).flatMap c).length=n*k:=by rw[QP hc,Sg]
 apply List.ext_getElem?
 intro j
 unfold Builtin.zeroCells
 by_cases hj:j<n*k
 ·have e1:j=j / k*k+j % k:=by rw[Lh];exact(S8 j k).symm
  have hq:j / k<n:=(Li hk).2 hj
  have hr:j % k<k:=Ly _ hk
  have h1:=YZ (c:=c) hc (l:=List.replicate n z0) (j:=j / k) (i:=j % k) (by simpa using hq) hr
  rw[← e1,List.getElem_replicate]at h1
  rw[h1]
  have h2:j<n*(c z0).toArray.size:=by rw[U1,hc];exact hj
  rw[Array.toList_map,List.getElem?_map]
  have h3:(Array.range (n*(c z0).toArray.size)).toList[j]?=some j:=by
   rw[Array.toList_range,List.getElem?_range h2]
  rw[h3]
  simp only[T4,U1,hc]
  have h4:j % k<(c z0).length:=by rw[hc];exact hr
  rw[List.getElem?_eq_getElem h4]
  simp[h4]
 ·rw[List.getElem?_eq_none (by simp[hc];omega),List.getElem?_eq_none (by rw[hl];omega)]
theorem Az{t u ty e:TypeId}{i:TypeInfo}{z:Value}(ht:P.underlying t=some (.slice e))(hu:P.underlying u=some (.int .i64))(hi:P.info? e=some i)(hz:i.zero=some z){n:Nat}(h0:0<n)(hzs:0<i.size)(hb1:n≤4294967296)(hb:n*i.bytes≤140737488355328)(w:World):
  (Builtin.append_ #[t,u] ty #[.slice none 0 0,.int .i64 (n:Int)]).run P w=.ok (.slice (some ⟨w.heap.size,0,none⟩) n (grownCap w n 0 e)) (w.drew.alloc (.cells (Builtin.zeroCells z.cells n++Builtin.zeroCells z.cells (grownCap w n 0 e-n)) e)):=by
 have hn:n≠0:=by omega
 have hw:IntKind.i64.wrap (n:Int)=(n:Int):=Ln _ (by omega)
 have h1:¬((n:Int)<0):=by omega
 have h2:¬(281474976710656<(n:Int)*(i.bytes:Int)):=by
  have h3:(n:Int)*(i.bytes:Int)=((n*i.bytes:Nat):Int):=by simp
  omega
 have h63':¬(9223372036854775807<(n:Int)):=by omega
 have h48':¬(281474976710656<Builtin.nextslicecap n 0*i.bytes):=by rw[nextslicecap_zero h0];omega
 have hs0:i.size≠0:=by omega
 have h1':¬((n:Int)≤0):=by omega
 have hmx:max (n:Int) 0=n:=by omega
 simp[Builtin.append_,run_underlying ht,run_underlying hu,sizeOf,typeInfo,zeroValue,hi,hz,Builtin.lenOf,Builtin.firstCells,hn,h1,h2,h63',h48',hs0,hw,asInt,asIntOf,hmx,h1',Question.forced,newRow,grownCap]
 intro h
 exact absurd ((Nat.mul_eq_zero.1 h).resolve_left hn) hs0
theorem gu{α:Type}{t u ty e bytes:Nat}{c:α→List Value}(hT:RowT P t t e k bytes)(hu:P.underlying u=some (.int .i64))(hc:∀x,(c x).length=k)(z0:α)(hz:∀i z,P.info? e=some i→i.zero=some z→z.cells=(c z0).toArray){n:Nat}(h0:0<n)(hb1:n≤4294967296)(hb:n*bytes≤140737488355328):
  Id P w0 [] (fun y:Hp=>.slice y.1 n y.2) (fun y:Hp=>Qd e k c (List.replicate n z0) y.1 y.2) (Kt .append #[t,u] ty [.slice none 0 0,.int .i64 (n:Int)]):=fun W _=>by
 obtain⟨inf,z,e1,e2,e3,e4,e5⟩:=hT.info
 have hzc:=hz inf z e1 e2
 have hk:=hT.hk
 have hrun:=Az (P:=P) (ty:=ty) hT.ht hu e1 e2 h0 (by rw[e3];exact hk) hb1 (by rw[e4];exact hb) W
 have hge:=grownCap_ge W n 0 e
 have hcm:grownCap W n 0 e≤maxLen:=grownCap_le_maxLen W n 0 e (by simp only[maxLen];omega)
 show NL P W _ _ _
 refine⟨(some ⟨W.heap.size,0,none⟩,grownCap W n 0 e),.bool false,fun b=>b=W.heap.size,_,hrun,((Below.refl _ W).drew).alloc (L3 _) _,(show _∧_∧_ from⟨rfl,⟨by rw[QP hc],.inr ⟨W.heap.size,_,_,by rw[Sg],L9 _,heap_alloc_new W.drew _,by rw[Sg];exact hge,hcm,?_,?_⟩⟩,fun b=>⟨fun h=>by rw[h];rfl,fun h=>(Option.some.inj h).symm⟩⟩),fun b hb=>?_⟩
 ·rw[hzc]
  simp only[Array.size_append,size_zeroCells,U1,hc,← Rv]
  congr 1
  omega
 ·rw[hzc,Array.toList_append,EP hc hk,Sg,List.take_append_of_le_length (by rw[QP hc,Sg];exact L3 _),Rh (by rw[QP hc,Sg];exact L3 _)]
 ·subst hb
  simp
end
theorem et(i:TypeInfo)(z:Value)(h1:prog.info? 48=some i)(h2:i.zero=some z): z.cells=(QO Qo).toArray:=by
 have h3:((prog.info? 48).bind fun i=>i.zero).map (fun z=>z.cells)=some (QO Qo).toArray:=by kernel_rfl
 rw[h1,Sw,h2,T4]at h3
 exact Option.some.inj h3
def iA(s:ByteArray)(A:Option Addr): Res where
 φ x S w:=x=.bool false∧∃g,A=some ⟨g,0,none⟩∧(∀j,j<s.size→w.cell? ⟨g,j,none⟩=some (.int .u8 ((bt s j:Nat):Int)))∧∀b,S b↔b=g
 one _ _ _ h:=by rw[h.1];rfl
 loc x S w w' h hφ:=by
  obtain⟨h1,g,h2,h3,h4⟩:=hφ
  exact⟨h1,g,h2,fun j hj=>(World.cell?_of_block (h g ((h4 g).2 rfl))).trans (h3 j hj),h4⟩
section
variable {P:Program} {w0:World}
theorem jE{s:ByteArray}{x:Value}{S:Nat→Prop}{w:World}(h:(iA s A).φ x S w): RdK w A s.size 1 (fun j=>[.int .u8 ((bt s j:Nat):Int)]):=fun _=>by
 obtain⟨_,g,rfl,h3,_⟩:=(show _∧_ from h)
 refine⟨g,0,rfl,fun j hj i hi=>?_⟩
 obtain rfl:i=0:=by omega
 rw[Si,Ld,U2,h3 j hj]
 rfl
theorem dd{src dst e:TypeId}(hs:P.underlying src=some .string)(hd:P.underlying dst=some (.slice e))(he:P.underlying e=some (.int .u8))(s:ByteArray): Id P w0 [] (fun y:Hp=>.slice y.1 s.size y.2) (fun y:Hp=>iA s y.1) (Go.convert src dst (.string s)):=fun W _=>by
 show NL P W _ _ _
 have hrun:=run_bytes_of_string (P:=P) W src dst e s hs hd he
 refine⟨(some ⟨W.heap.size,0,none⟩,grownCap W s.size 0 e),.bool false,fun b=>b=W.heap.size,_,hrun,((Below.refl _ W).drew).alloc (L3 _) _,(show _∧_ from⟨rfl,W.heap.size,rfl,fun j hj=>?_,fun b=>Iff.rfl⟩),fun b hb=>?_⟩
 ·have hn:(W.drew.alloc (.cells (bytesRow s (grownCap W s.size 0 e)) e ((bytesRow s (grownCap W s.size 0 e)).size,(bytesRow s (grownCap W s.size 0 e)).size+1))).heap[W.heap.size]?=some (.cells (bytesRow s (grownCap W s.size 0 e)) e ((bytesRow s (grownCap W s.size 0 e)).size,(bytesRow s (grownCap W s.size 0 e)).size+1)):=heap_alloc_new W.drew _
  unfold World.cell?
  rw[hn]
  show(bytesRow s (grownCap W s.size 0 e))[j]?=_
  rw[bytesRow_at s _ j hj]
  congr 2
  unfold bt
  have hj':j<s.data.toList.length:=by simpa using hj
  rw[List.getD,List.getElem?_eq_getElem hj']
  simp
 ·subst hb
  simp
end
def EK(l:List Nd): List Bool:=l.map fun x=>!(x.split==0)
def YL(l:List Nd)(m:Int): Int:=if m<0 then -1 else Jn (EK l) m.toNat
def JO(l:List Nd): Bool:=decide ((l.length:Int)≤4096)&&YL l 0==(l.length:Int)
theorem JT(l:List Nd): (EK l).length=l.length:=Ri _
theorem OR(h:k<l.length): (EK l)[k]'(by rw[JT];exact h)=!((Qc l k).split==0):=by
 unfold EK Qc
 rw[Su,Xg h]
theorem TJ(h:(l.length:Int)≤m): YL l m=-1:=by
 unfold YL
 rw[if_neg (by omega),N8 (by rw[JT];omega)]
theorem SY(h:k<l.length)(hx:((Qc l k).split==0)=true): YL l (k:Int)=((k+1:Nat):Int):=by
 unfold YL
 rw[if_neg (by omega),Ro]
 exact OG (by rw[JT];exact h) (by rw[OR h,hx];rfl)
theorem Ep(h:k<l.length)(hx:((Qc l k).split==0)=false): YL l (YL l ((k+1:Nat):Int))=YL l (k:Int)∧(YL l ((k+1:Nat):Int)<0∨((k+1:Nat):Int)<YL l ((k+1:Nat):Int)):=by
 have e1:YL l ((k+1:Nat):Int)=Jn (EK l) (k+1):=by unfold YL;rw[if_neg (by omega),Ro]
 have e2:YL l (k:Int)=Jn (EK l) k:=by unfold YL;rw[if_neg (by omega),Ro]
 rcases MK (l:=EK l) (k:=k) (by rw[JT];exact h) (by rw[OR h,hx];rfl)with⟨a,b⟩|⟨m,a,b,_,d⟩
 ·rw[e1,e2,a,b]
  exact⟨by unfold YL;rw[if_pos (by omega)],.inl (by omega)⟩
 ·rw[e1,e2,a,d]
  exact⟨by unfold YL;rw[if_neg (by omega),Ro],.inr (by omega)⟩
theorem PK{vs:Nat→Value}(hn:l.length≤4294967296)(h1:decide (m<0)=true)(w:World): RetAt prog w 132 #[.slice A l.length c,.int .i64 m] (.int .i64 (YL l m)) :=
 Qi Qk mixed (fun a w=>call132 a w) func132 ntmps132 results132 _ rfl _ [.g 1 3 false] (fun W hW hR=>ai h1<|(show(Value.int .i64 (-1))=.int .i64 (YL l m)from by unfold YL;rw[if_pos (L1 h1)])) fun W=>by kernel_rfl
theorem PX{vs:Nat→Value}(hn:l.length≤4294967296)(h1:decide (m<0)=false)(h2:decide (m≥(l.length:Int))=true)(w:World): RetAt prog w 132 #[.slice A l.length c,.int .i64 m] (.int .i64 (YL l m)) :=
 Qi Qk mixed (fun a w=>call132 a w) func132 ntmps132 results132 _ rfl _ [.g 1 3 true,.br true] (fun W hW hR=>ZG h1 h2<|(show(Value.int .i64 (-1))=.int .i64 (YL l m)from by rw[TJ (L1 h2)])) fun W=>by kernel_rfl
theorem Uq{vs:Nat→Value}(hn:l.length≤4294967296)(hlt:k<l.length)(hx:((Qc l k).split==0)=true)(w:World)(hr:RdK w A l.length 6 (iu l vs)): RetAt prog w 132 #[.slice A l.length c,.int .i64 (k:Int)] (.int .i64 (YL l (k:Int))) :=
 Qi Qk mixed (fun a w=>call132 a w) func132 ntmps132 results132 _ rfl _ [.g 1 3 true,.br false,.o 3 2 (.set (.pointer (some (QJ A (k*6+0))))),.o 3 3 (.set (.pointer (some (QJ A (k*6+0))))),.o 3 4 (.set (.int .i64 ((Qc l k).split))),.br true,.o 4 1 (.eq (iV ((k+1:Nat):Int)))] (fun W hW hR=>have HR:=hr.up hW (fun _=>rfl);G4 (show(decide ((k:Int)<0))=false from Lk (by omega)) (show(decide ((k:Int)≥(l.length:Int)))=false from Lk (by omega)) (Xb (c:=c) (i:=k) HR hlt) (J6 (w0:=W) (A:=A) (i:=k) (k:=6) (o:=0)) (KH (i:=k) (o:=0) HR hlt (by decide) rfl) hx (Qq (n:=k) (by omega))<|(eI (YL l (k:Int)) ((k+1:Nat):Int) (by rw[SY hlt hx]))) fun W=>by kernel_rfl
theorem OV{vs:Nat→Value}(hn:l.length≤4294967296)(hlt:k<l.length)(hx:((Qc l k).split==0)=false)(w:World)(hr:RdK w A l.length 6 (iu l vs))(hA:∀W,Below w.heap.size w W→RetAt prog W 132 #[.slice A l.length c,.int .i64 ((k+1:Nat):Int)] (.int .i64 (YL l ((k+1:Nat):Int))))(hB:∀W,Below w.heap.size w W→RetAt prog W 132 #[.slice A l.length c,.int .i64 (YL l ((k+1:Nat):Int))] (.int .i64 (YL l (YL l ((k+1:Nat):Int))))): RetAt prog w 132 #[.slice A l.length c,.int .i64 (k:Int)] (.int .i64 (YL l (k:Int))) :=
 Qi Qk mixed (fun a w=>call132 a w) func132 ntmps132 results132 _ rfl _ [.g 1 3 true,.br false,.o 3 2 (.set (.pointer (some (QJ A (k*6+0))))),.o 3 3 (.set (.pointer (some (QJ A (k*6+0))))),.o 3 4 (.set (.int .i64 ((Qc l k).split))),.br false,.o 5 3 (.eq (iV ((k+1:Nat):Int))),.o 5 4 (.ret (iV (YL l ((k+1:Nat):Int)))),.o 5 5 (.ret (iV (YL l (YL l ((k+1:Nat):Int)))))] (fun W hW hR=>have HR:=hr.up hW (fun _=>rfl);Yz (show(decide ((k:Int)<0))=false from Lk (by omega)) (show(decide ((k:Int)≥(l.length:Int)))=false from Lk (by omega)) (Xb (c:=c) (i:=k) HR hlt) (J6 (w0:=W) (A:=A) (i:=k) (k:=6) (o:=0)) (KH (i:=k) (o:=0) HR hlt (by decide) rfl) hx (Qq (n:=k) (by omega)) (hA W hW)<|ai (hB W hW)<|(eI (YL l (k:Int)) (YL l (YL l ((k+1:Nat):Int))) (by rw[(Ep hlt hx).1]))) fun W=>by kernel_rfl
theorem lu{vs:Nat→Value}(hn:l.length≤4294967296)(d:Nat): ∀(m:Int) (w:World),(m<0∨(l.length:Int)-m≤(d:Int))→RdK w A l.length 6 (iu l vs)→RetAt prog w 132 #[.slice A l.length c,.int .i64 m] (.int .i64 (YL l m)):=by
 induction d with
 | zero =>
  intro m w hm hr
  by_cases h1:m<0
  ·exact PK (vs:=vs) hn (Rf h1) w
  ·exact PX (vs:=vs) hn (Lk h1) (Rf (by omega)) w
 | succ d ih =>
  intro m w hm hr
  by_cases h1:m<0
  ·exact PK (vs:=vs) hn (Rf h1) w
  by_cases h2:m≥(l.length:Int)
  ·exact PX (vs:=vs) hn (Lk h1) (Rf h2) w
  obtain⟨k,rfl⟩:∃k:Nat,m=(k:Int):=⟨m.toNat,by omega⟩
  have hlt:k<l.length:=by omega
  cases hx:((Qc l k).split==0)with
  | true=>exact Uq hn hlt hx w hr
  | false =>
   have h3:=(Ep hlt hx).2
   exact OV hn hlt hx w hr (fun W hW=>ih _ W (by omega) (hr.below (fun _=>rfl) hW)) (fun W hW=>ih _ W (by omega) (hr.below (fun _=>rfl) hW))
theorem P0{vs:Nat→Value}(hn:l.length≤4294967296)(w:World)(hr:RdK w A l.length 6 (iu l vs)): RetAt prog w 106 #[.slice A l.length c] (.bool (JO l)) :=
 have E0:=eB (JO l);Qi Qk mixed (fun a w=>call106 a w) func106 ntmps106 results106 _ rfl _ [.gb 1 4 [.o 1 5 (.ret (iV (YL l 0)))] []] (fun W hW hR=>have HR:=hr.up hW (fun _=>rfl);XC (decide ((l.length:Int)≤4096)) true (fun h1=>ai (lu (c:=c) hn l.length 0 W (by omega) HR)<|(E0 ((YL l 0)==(l.length:Int)) (by unfold JO;rw[h1];rfl))) fun h1=>(E0 false (by unfold JO;rw[h1];rfl))) fun W=>by kernel_rfl
def QZ(many:Int)(x:Nd): Bool:=bif (x.split==1)&&((!Mb x.scale||x.sum.vars != 0)||decide ((x.sum.ts.length:Int)>0))then true else((x.split != 0)&&(x.split != 1))||((x.split==0)&&(YV x.sum != 0||x.sum.vars != many))
def Xu(many:Int)(l:List Nd): Bool:=!(Q3 l.length fun j=>QZ many (Qc l j))&&(((l.length:Int)==0)||JO l)
theorem WQ{Ai A4 A5:Option Addr}{nb cb ns ci n4 c4 n5 c5:Nat}{kind vars budget:Int}{eps delta:Nm}{cs:Nat→Nat}(hn:l.length≤4294967296)(hnb:nb≤4294967296)(hok:∀p,p∈l→okP p.sum)(w:World)(hr:RdK w A l.length 6 (IV l As cs))(hs:∀j,j<l.length→RdK w (As j) (Qc l j).sum.ts.length 4 (fun i=>Q7 (Qf (Qc l j).sum.ts i))): RetAt prog w 70 #[tA kind vars Ab nb cb Ai ns ci A4 n4 c4 A5 n5 c5 eps delta budget A l.length c] (.bool (Xu (Qv nb ns) l)) :=
 let Z0:OB:=some (35,(tS kind vars Ab nb cb Ai ns ci A4 n4 c4 A5 n5 c5 eps delta budget A l.length c));have E0:=eB (Xu (Qv nb ns) l);Qi Qk mixed (fun a w=>call70 a w) func70 ntmps70 results70 _ rfl _ [.both [.o 3 4 (.eq (iV (2*(nb:Int)))),Gc (fun(k:Nat)=>(⟨89,[(1,.ptr 0 0),(2,bV false),(3,iV (2*(nb:Int))),(4,iV (k:Int))],[none],[]⟩:St)) l.length (fun j=>QZ (Qv nb ns) (Qc l j)) (fun(k:Nat)=>[.both [.o 7 3 (.set (.pointer (some (QJ A (k*6+0))))),.o 7 4 (.set (.agg #[.int .i64 ((Qc l k).split),.bool ((Qc l k).scale.b),.string ((Qc l k).scale.s),.int .i64 ((Qc l k).scale.e),.int .i64 ((Qc l k).sum.vars),.slice (As k) (Qc l k).sum.ts.length (cs k)])),.gb 8 4 [.o 8 7 (.set (.bool (!(Mb (Qc l k).scale)))),.gb 8 9 [.gb 8 15 [.both [] [.g 10 4 true,.g 10 9 true,.g 10 13 false,.o 6 1 (.eq (iV ((k+1:Nat):Int))),.next 0]] []] []] [.gb 10 4 [.g 10 9 false] [.g 10 13 true,.o 10 15 (.ret (iV (YV (Qc l k).sum))),.gb 10 18 [.both [] [.o 6 1 (.eq (iV ((k+1:Nat):Int))),.next 0]] []]]] [.gb 12 5 [.o 12 7 (.ret (bV (JO l)))] []]])] [Gc (fun(k:Nat)=>(⟨89,[(1,.ptr 0 0),(2,bV false),(3,iV (ns:Int)),(4,iV (k:Int))],[none],[]⟩:St)) l.length (fun j=>QZ (Qv nb ns) (Qc l j)) (fun(k:Nat)=>[.both [.o 7 3 (.set (.pointer (some (QJ A (k*6+0))))),.o 7 4 (.set (.agg #[.int .i64 ((Qc l k).split),.bool ((Qc l k).scale.b),.string ((Qc l k).scale.s),.int .i64 ((Qc l k).scale.e),.int .i64 ((Qc l k).sum.vars),.slice (As k) (Qc l k).sum.ts.length (cs k)])),.gb 8 4 [.o 8 7 (.set (.bool (!(Mb (Qc l k).scale)))),.gb 8 9 [.gb 8 15 [.both [] [.g 10 4 true,.g 10 9 true,.g 10 13 false,.o 6 1 (.eq (iV ((k+1:Nat):Int))),.next 0]] []] []] [.gb 10 4 [.g 10 9 false] [.g 10 13 true,.o 10 15 (.ret (iV (YV (Qc l k).sum))),.gb 10 18 [.both [] [.o 6 1 (.eq (iV ((k+1:Nat):Int))),.next 0]] []]]] [.gb 12 5 [.o 12 7 (.ret (bV (JO l)))] []]])]] (fun W hW hR=>have HR:=hr.up hW (fun _=>rfl);(fun(HS:∀j,j<l.length→RdK W (As j) (Qc l j).sum.ts.length 4 (fun i=>Q7 (Qf (Qc l j).sum.ts i)))=>Q4 (decide ((nb:Int)>0)) (fun h0=>ZP (show IntKind.i64.wrap (2*(nb:Int))=2*(nb:Int)from Ln _ (by omega)) (qB false) (qI (2*(nb:Int))) (qI ((0:Nat):Int)) (qk Z0)<|ai (c0 l.length (fun j=>QZ (Qv nb ns) (Qc l j))) fun(k:Nat) (hk:cQ l.length (fun j=>QZ (Qv nb ns) (Qc l j)) k)=>Q4 (decide ((k:Int)<(l.length:Int))) (fun hl=>ZG (Xb (c:=c) (i:=k) HR (Qm hl)) (KA (i:=k) (o:=0) HR (by have:=L1 hl;omega) (by decide) rfl rfl)<|XC (((Qc l k).split)==1) true (fun y1=>ai (Z7 W (.tmp 37) (.tmp 38) (Qc l k).scale.b false (Qc l k).scale.s ⟨#[]⟩ (Qc l k).scale.e 0)<|XC (!(Mb (Qc l k).scale)) false (fun y2=>XC (((Qc l k).sum.vars) != 0) false (fun y3=>Q4 (decide ((((Qc l k).sum.ts.length:Nat):Int)>0)) (fun y4=>(E0 false (by unfold Xu;rw[QA (f:=fun j=>QZ (Qv nb ns) (Qc l j)) (Qm hl) (by rw[show Qv nb ns=2*(nb:Int)from by unfold Qv;rw[h0];rfl];unfold QZ;rw[Rg.1 y1,y2,y3,y4];rfl)];rfl))) fun y4=>Yz (show(((Qc l k).split) != 0)=true from(by rw[Rg.1 y1];rfl)) (show(((Qc l k).split) != 1)=false from(by rw[Rg.1 y1];rfl)) (show(((Qc l k).split)==0)=false from(by rw[Rg.1 y1];rfl)) (Qq (n:=k) (by have:=L1 hl;omega)) (qB false) (qI (2*(nb:Int))) (qI (((k+1):Nat):Int)) (qk Z0)<|ai (cS hk (Qm hl) (by rw[show Qv nb ns=2*(nb:Int)from by unfold Qv;rw[h0];rfl];unfold QZ;rw[Rg.1 y1,y2,y3,y4];rfl)) (VK (Qm hl))) fun y3=>(E0 false (by unfold Xu;rw[QA (f:=fun j=>QZ (Qv nb ns) (Qc l j)) (Qm hl) (by rw[show Qv nb ns=2*(nb:Int)from by unfold Qv;rw[h0];rfl];unfold QZ;rw[Rg.1 y1,y2,y3];rfl)];rfl))) fun y2=>(E0 false (by unfold Xu;rw[QA (f:=fun j=>QZ (Qv nb ns) (Qc l j)) (Qm hl) (by rw[show Qv nb ns=2*(nb:Int)from by unfold Qv;rw[h0];rfl];unfold QZ;rw[Rg.1 y1,y2];rfl)];rfl))) fun y1=>XC (((Qc l k).split) != 0) true (fun y5=>ai (show(((Qc l k).split) != 1)=true from(by unfold bne;rw[y1];rfl))<|(E0 false (by unfold Xu;rw[QA (f:=fun j=>QZ (Qv nb ns) (Qc l j)) (Qm hl) (by rw[show Qv nb ns=2*(nb:Int)from by unfold Qv;rw[h0];rfl];unfold QZ;rw[y1,y5,show((Qc l k).split != 1)=true from by unfold bne;rw[y1];rfl];rfl)];rfl))) fun y5=>ZG (show(((Qc l k).split)==0)=true from(by revert y5;unfold bne;cases (Qc l k).split==0<;>simp)) (F8 (vars:=(Qc l k).sum.vars) (c:=cs k) (hok _ (JC (Qm hl))).len (hok _ (JC (Qm hl))).tms W (HS k (Qm hl)))<|XC ((YV (Qc l k).sum) != 0) false (fun y8=>Q4 (((Qc l k).sum.vars) != (2*(nb:Int))) (fun y9=>(E0 false (by unfold Xu;rw[QA (f:=fun j=>QZ (Qv nb ns) (Qc l j)) (Qm hl) (by rw[show Qv nb ns=2*(nb:Int)from by unfold Qv;rw[h0];rfl];unfold QZ;rw[show(Qc l k).split=0 from by simpa [bne]using y5,y8,y9];rfl)];rfl))) fun y9=>ZP (Qq (n:=k) (by have:=L1 hl;omega)) (qB false) (qI (2*(nb:Int))) (qI (((k+1):Nat):Int)) (qk Z0)<|ai (cS hk (Qm hl) (by rw[show Qv nb ns=2*(nb:Int)from by unfold Qv;rw[h0];rfl];unfold QZ;rw[show(Qc l k).split=0 from by simpa [bne]using y5,y8,y9];rfl)) (VK (Qm hl))) fun y8=>(E0 false (by unfold Xu;rw[QA (f:=fun j=>QZ (Qv nb ns) (Qc l j)) (Qm hl) (by rw[show Qv nb ns=2*(nb:Int)from by unfold Qv;rw[h0];rfl];unfold QZ;rw[show(Qc l k).split=0 from by simpa [bne]using y5,y8];rfl)];rfl))) fun hl=>XC ((l.length:Int)==0) false (fun hz=>ai (P0 (c:=c) hn W HR)<|(E0 (JO l) (by unfold Xu;rw[QG (f:=fun j=>QZ (Qv nb ns) (Qc l j)) hl hk.2,hz];rfl))) fun hz=>(E0 true (by unfold Xu;rw[QG (f:=fun j=>QZ (Qv nb ns) (Qc l j)) hl hk.2,hz];rfl))) fun h0=>Jj (qB false) (qI (ns:Int)) (qI ((0:Nat):Int)) (qk Z0)<|ai (c0 l.length (fun j=>QZ (Qv nb ns) (Qc l j))) fun(k:Nat) (hk:cQ l.length (fun j=>QZ (Qv nb ns) (Qc l j)) k)=>Q4 (decide ((k:Int)<(l.length:Int))) (fun hl=>ZG (Xb (c:=c) (i:=k) HR (Qm hl)) (KA (i:=k) (o:=0) HR (by have:=L1 hl;omega) (by decide) rfl rfl)<|XC (((Qc l k).split)==1) true (fun y1=>ai (Z7 W (.tmp 37) (.tmp 38) (Qc l k).scale.b false (Qc l k).scale.s ⟨#[]⟩ (Qc l k).scale.e 0)<|XC (!(Mb (Qc l k).scale)) false (fun y2=>XC (((Qc l k).sum.vars) != 0) false (fun y3=>Q4 (decide ((((Qc l k).sum.ts.length:Nat):Int)>0)) (fun y4=>(E0 false (by unfold Xu;rw[QA (f:=fun j=>QZ (Qv nb ns) (Qc l j)) (Qm hl) (by rw[show Qv nb ns=(ns:Int)from by unfold Qv;rw[h0];rfl];unfold QZ;rw[Rg.1 y1,y2,y3,y4];rfl)];rfl))) fun y4=>Yz (show(((Qc l k).split) != 0)=true from(by rw[Rg.1 y1];rfl)) (show(((Qc l k).split) != 1)=false from(by rw[Rg.1 y1];rfl)) (show(((Qc l k).split)==0)=false from(by rw[Rg.1 y1];rfl)) (Qq (n:=k) (by have:=L1 hl;omega)) (qB false) (qI (ns:Int)) (qI (((k+1):Nat):Int)) (qk Z0)<|ai (cS hk (Qm hl) (by rw[show Qv nb ns=(ns:Int)from by unfold Qv;rw[h0];rfl];unfold QZ;rw[Rg.1 y1,y2,y3,y4];rfl)) (VK (Qm hl))) fun y3=>(E0 false (by unfold Xu;rw[QA (f:=fun j=>QZ (Qv nb ns) (Qc l j)) (Qm hl) (by rw[show Qv nb ns=(ns:Int)from by unfold Qv;rw[h0];rfl];unfold QZ;rw[Rg.1 y1,y2,y3];rfl)];rfl))) fun y2=>(E0 false (by unfold Xu;rw[QA (f:=fun j=>QZ (Qv nb ns) (Qc l j)) (Qm hl) (by rw[show Qv nb ns=(ns:Int)from by unfold Qv;rw[h0];rfl];unfold QZ;rw[Rg.1 y1,y2];rfl)];rfl))) fun y1=>XC (((Qc l k).split) != 0) true (fun y5=>ai (show(((Qc l k).split) != 1)=true from(by unfold bne;rw[y1];rfl))<|(E0 false (by unfold Xu;rw[QA (f:=fun j=>QZ (Qv nb ns) (Qc l j)) (Qm hl) (by rw[show Qv nb ns=(ns:Int)from by unfold Qv;rw[h0];rfl];unfold QZ;rw[y1,y5,show((Qc l k).split != 1)=true from by unfold bne;rw[y1];rfl];rfl)];rfl))) fun y5=>ZG (show(((Qc l k).split)==0)=true from(by revert y5;unfold bne;cases (Qc l k).split==0<;>simp)) (F8 (vars:=(Qc l k).sum.vars) (c:=cs k) (hok _ (JC (Qm hl))).len (hok _ (JC (Qm hl))).tms W (HS k (Qm hl)))<|XC ((YV (Qc l k).sum) != 0) false (fun y8=>Q4 (((Qc l k).sum.vars) != (ns:Int)) (fun y9=>(E0 false (by unfold Xu;rw[QA (f:=fun j=>QZ (Qv nb ns) (Qc l j)) (Qm hl) (by rw[show Qv nb ns=(ns:Int)from by unfold Qv;rw[h0];rfl];unfold QZ;rw[show(Qc l k).split=0 from by simpa [bne]using y5,y8,y9];rfl)];rfl))) fun y9=>ZP (Qq (n:=k) (by have:=L1 hl;omega)) (qB false) (qI (ns:Int)) (qI (((k+1):Nat):Int)) (qk Z0)<|ai (cS hk (Qm hl) (by rw[show Qv nb ns=(ns:Int)from by unfold Qv;rw[h0];rfl];unfold QZ;rw[show(Qc l k).split=0 from by simpa [bne]using y5,y8,y9];rfl)) (VK (Qm hl))) fun y8=>(E0 false (by unfold Xu;rw[QA (f:=fun j=>QZ (Qv nb ns) (Qc l j)) (Qm hl) (by rw[show Qv nb ns=(ns:Int)from by unfold Qv;rw[h0];rfl];unfold QZ;rw[show(Qc l k).split=0 from by simpa [bne]using y5,y8];rfl)];rfl))) fun hl=>XC ((l.length:Int)==0) false (fun hz=>ai (P0 (c:=c) hn W HR)<|(E0 (JO l) (by unfold Xu;rw[QG (f:=fun j=>QZ (Qv nb ns) (Qc l j)) hl hk.2,hz];rfl))) fun hz=>(E0 true (by unfold Xu;rw[QG (f:=fun j=>QZ (Qv nb ns) (Qc l j)) hl hk.2,hz];rfl))) (fun j hj=>(hs j hj).below (fun _=>rfl) hW)) fun W=>by kernel_rfl
theorem W9{nb:Nat}{l:List (List Nm)}{kind vars:Int}(hn:l.length≤4294967296)(h1:1≤vars)(h2:vars≤9223372036854775807): Z6 nb l kind vars=Jp nb l vars (kind==2||kind==5):=by
 have e:=Er (n:=l.length) (vars:=vars) hn ⟨by omega,h2⟩
 unfold Z6 Jp
 cases hb:decide ((nb:Int)>0)with
 | true=>simp only[cond_true,Bool.true_or,Bool.and_comm]
 | false =>
  have h0:(nb:Int)=0:=by have:=La hb;omega
  cases hw:(kind==2||kind==5)with
  | true =>
   have h3:((nb:Int)==vars)=false:=R6.2 (by omega)
   simp only[cond_false,cond_true,Bool.true_or,Bool.or_true,h3,Bool.false_and]
  | false =>
   simp only[cond_false,Bool.false_or,bne,e]
   cases ((l.length:Int)==vars+1)<;>rfl
def ZO(o i:Bool)(nb:Nat)(t b:Int): Int:=bif !o then 1 else bif !i then 3 else bif (nb:Int)==0 then t else b
theorem iF{cb:Nat}{vs vp vr vc:Value}{o i:Bool}{t:Int}(x:PV)(hn:x.box.length≤4294967296)(hok:∀s,s∈x.box→okN s.1∧okN s.2)(w:World)(hT:Yk w)(hb:RdK w Ab x.box.length 6 (fun j=>YH (Qw x.box j)))(hO:∀W,Below w.heap.size w W→RetAt prog W 23 #[yA x (.slice Ab x.box.length cb) vs vp vr vc] (.bool o))(hI:∀W,Below w.heap.size w W→(!o)=false→RetAt prog W 24 #[yA x (.slice Ab x.box.length cb) vs vp vr vc] (.bool i))(hS:∀W,Below w.heap.size w W→(!o)=false→(!i)=false→((x.box.length:Int)==0)=true→RetAt prog W 25 #[vs] (.int .i64 t)): RetAt prog w 10 #[yA x (.slice Ab x.box.length cb) vs vp vr vc] (.int .i64 (ZO o i x.box.length t (XD x.box))) :=
 Qi Qk mixed (fun a w=>call10 a w) func10 ntmps10 results10 _ rfl _ [.o 1 1 (.ret (bV o)),.both [] [.o 3 1 (.ret (bV i)),.both [] [.both [.o 6 3 (.ret (iV t))] [.o 7 3 (.ret (iV (XD x.box)))]]]] (fun W hW hR=>have HB:=hb.up hW (fun _=>rfl);(fun(hT:Yk W)=>ai (hO W hW)<|Q4 (!o) (fun h1=>(show(.int .i64 1:Value)=.int .i64 (ZO o i x.box.length t (XD x.box))from by unfold ZO;rw[h1];rfl)) fun h1=>ai (hI W hW h1)<|Q4 (!i) (fun h2=>(show(.int .i64 3:Value)=.int .i64 (ZO o i x.box.length t (XD x.box))from by unfold ZO;rw[h1,h2];rfl)) fun h2=>Q4 ((x.box.length:Int)==0) (fun he=>ai (hS W hW h1 h2 he)<|(show(.int .i64 t:Value)=.int .i64 (ZO o i x.box.length t (XD x.box))from by unfold ZO;rw[h1,h2,he];rfl)) fun he=>ai (kL (c:=cb) hn hok W hT HB)<|(show(.int .i64 (XD x.box):Value)=.int .i64 (ZO o i x.box.length t (XD x.box))from by unfold ZO;rw[h1,h2,he];rfl)) (Qn hT hW)) fun W=>by kernel_rfl
open Go.WideShapes Go.ChangeShapes
section
variable {H:Type} {enc:TypeId×Value→H} {P:Program}
theorem ER{f:Func}{W W':World}{args:Array Value}{v:Value}{ds gs:List (DataW H)}(hW:DataW.Whole enc P f.params.toList s.vars apart W args.toList ds gs before)(hres:∀(b:Nat) (sp:Nat→Bool) (hd:Bool),DataW.TrodAll enc P W' b sp hd f.resultTypes.toList (v.resultList f.resultTypes.size) (s.fn H (ds++gs)).results [])(hargs:∀sp:Nat→Bool,(∀p∈before,sp p.block=true)→DataW.TrodAll enc P W' 0 sp true f.params.toList args.toList (s.fn H (ds++gs)).args pa)(hvars:∀sp:Nat→Bool,(∀p∈before,sp p.block=true)→DataW.TrodVars enc P W' sp s.vars (s.fn H (ds++gs)).vars pv)(hps:before=pa++pv)(hb:Below W.heap.size W W')(hok:∀(j:Nat) (t:TypeId) (r:Value),f.resultTypes[j]?=some t→(v.resultList f.resultTypes.size)[j]?=some r→Value.okWide P W' .any 0 t r):
  s.post enc P f apart fresh handsOn again W args v W':=by
 have hlt:∀p∈before,p.block<W.heap.size:=fun p hp=>hW.lt p hp
 have hold:∀p∈before,(fun b=>decide (b<W.heap.size)) p.block=true:=fun p hp=>by simpa using hlt p hp
 refine⟨ds,gs,before,[],pa,pv,hW,hres _ _ _,hargs _ hold,hvars _ hold,World.keptBut_mono (fun p hp=>⟨hp,?_⟩) (hb.frame (·∈before)),fun _=>?_⟩
 ·rw[hps,Rj]at hp
  exact Or.inr hp
 ·obtain⟨_,_,_,_,_,hz,hn⟩:=hW
  refine⟨hok,_,_,([]++pa)++pv,⟨[]++pa,pv,trodAll_append (hargs _ (fun _ _=>rfl)) (hres _ _ _),hvars _ (fun _ _=>rfl),rfl,?_,?_⟩,?_⟩
  ·intro b off hp
   have hin:MemPlace.cell b off∈before:=by rw[hps];simpa using hp
   rw[hb.frozen (hlt _ hin)]
   exact hz b off hin
  ·intro ha
   have:=hn ha
   rw[hps]at this
   simpa using this
  ·intro p hp _
   rw[hps]
   simpa using hp
end
section
variable {H:Type} {enc:TypeId×Value→H} {P:Program}
theorem GX(hl:laidOutB P=true){W W':World}(hb:Below W.heap.size W W'){sp:Nat→Bool}: ∀ {ts:List TypeId} {vs:List Value} {ds:List (DataW H)} {ps:List MemPlace},(∀t∈ts,P.readableRec t=true∧t<P.types.size) →
  DataW.TrodAll enc P W 0 (fun _=>true) true ts vs ds ps→(∀x∈ps,x.block<W.heap.size)→(∀x∈ps,sp x.block=true)→DataW.TrodAll enc P W' 0 sp true ts vs ds ps
 | [],[],[],_,_,h,_,_=>h
 | t::ts,v::vs,d::ds,ps,ht,⟨p,q,h1,h2,he⟩,hlt,hsp=>by
  subst he
  exact⟨p,q,WideElems.Trod_stays hl (ht t (by simp)).1 (ht t (by simp)).2 h1 (fun x hx=>hb.same (hlt x (by simp[hx]))) (fun x hx=>hsp x (by simp[hx])),
   GX hl hb (fun u hu=>ht u (by simp[hu])) h2 (fun x hx=>hlt x (by simp[hx])) (fun x hx=>hsp x (by simp[hx])),rfl⟩
 | [],_::_,_,_,_,h,_,_=>by simp[DataW.TrodAll]at h
 | _::_,[],_,_,_,h,_,_=>by simp[DataW.TrodAll]at h
 | [],[],_::_,_,_,h,_,_=>by simp[DataW.TrodAll]at h
 | _::_,_::_,[],_,_,h,_,_=>by simp[DataW.TrodAll]at h
theorem lU{f:Func}{W W':World}{args:Array Value}{ds:List (DataW H)}{tb:TypeId}(hl:laidOutB P=true)(hp:(f.params.toList.all fun t=>P.readableRec t&&decide (t<P.types.size))=true)(hr:f.resultTypes=#[tb])(htb:P.underlying tb=some .bool)(hvs:s.vars=[])(hW:DataW.Whole enc P f.params.toList s.vars apart W args.toList ds [] before)(h1:(s.fn H (ds++[])).results=[.lit (.bool true)])(h2:(s.fn H (ds++[])).args=ds)(h3:(s.fn H (ds++[])).vars=[])(hb:Below W.heap.size W W'):
  s.post enc P f apart fresh handsOn again W args (.bool true) W':=by
 have hlt:∀p∈before,p.block<W.heap.size:=fun p hp=>hW.lt p hp
 obtain⟨p,q,hA,hV,hpq,_,_⟩:=id hW
 have hq:q=[]:=by rw[hvs]at hV;exact hV
 subst hq
 rw[Sc]at hpq
 subst hpq
 have ht:∀t∈f.params.toList,P.readableRec t=true∧t<P.types.size:=fun t ht=>by simpa using Ls.1 hp t ht
 refine ER (pa:=before) (pv:=[]) hW (fun b sp hd=>?_) (fun sp hsp=>?_) (fun sp _=>?_) (by simp) hb (ok_one hr rfl (okWide_bool_mk htb true))
 ·rw[hr,h1];exact trodAll_mk1 (shut_bool htb _)
 ·rw[h2];exact GX hl hb ht hA hlt hsp
 ·rw[hvs,h3];rfl
end
