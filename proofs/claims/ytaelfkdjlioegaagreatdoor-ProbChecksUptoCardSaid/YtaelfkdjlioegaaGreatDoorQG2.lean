/- The walks and plain laws beneath the statements. -/
import Derived.Test.YtaelfkdjlioegaaGreatDoorQG1
namespace Go.Proofs.YtaelfkdjlioegaaGreatDoor
open Go Go.RowKit
inductive Rch (ops:Array Oper):Nat→Nat→Prop
 | one {a i:Nat}:i∈X6 ops a→Rch ops a i
 | more {a j i:Nat}:j∈X6 ops a→Rch ops j i→Rch ops a i
theorem Ce{ops:Array Oper}{n:Nat}{listed:Array Bool}(inv:HeadInv .any ops n listed){a i:Nat}(h:Rch ops a i): (∀j,j∈X6 ops a→listed.getD j false=true)→listed.getD i false=true:=by
 induction h with
 | one h=>exact fun k=>k _ h
 | more h _ ih=>exact fun k=>ih fun j hj=>Vv inv (k _ h) hj
def JH{α:Type}(f:Nat→α)(i:Nat)(x:α)(k:Nat): α:=if k=i then x else f k
theorem Xw{α:Type}(f:Nat→α)(i:Nat)(x:α): JH f i x i=x:=if_pos rfl
theorem Yl{α:Type}(f:Nat→α){i k:Nat}(x:α)(h:k≠i): JH f i x k=f k:=if_neg h
section
variable {Γ:Type}
def mJ(P:Program)(ops:Array Oper)(F:(Nat→Value)→Act)(G:World→Prop)(Φ:Nat→(Nat→Value)→(Nat→Γ)→World→Prop)(Fr:Nat→Γ→Nat→Prop)(i:Nat): Prop :=
 ∀(o:Oper),ops[i]?=some o→∀(u:Nat→Value) (γ:Nat→Γ) (w:World),G w→(∀j,Rch ops i j→Φ j u γ w)→∀(Q:Exit→Act→World→Prop) (K:Act→World→Prop),
  (∀v g w',Below w.heap.size w w'→G w'→Φ i (JH u i v) (JH γ i g) w'→(∀b,Fr i g b→w.heap.size≤b∧b<w'.heap.size)→K ((F u).put o.dst v) w')→if Region.wanted o (yielded ops (F u).tmps)=true then Oper.wp P o (F u) w K Q else K ((F u).put o.dst undef) w
def cX(P:Program)(ops:Array Oper)(F:(Nat→Value)→Act)(G:World→Prop)(Φ:Nat→(Nat→Value)→(Nat→Γ)→World→Prop)(i:Nat): Prop :=
 ∀(o:Oper),ops[i]?=some o→∀(u:Nat→Value) (γ:Nat→Γ) (w:World),G w→(∀j,Rch ops i j→Φ j u γ w)→∃v,Yields P ops o v (F u)∧Φ i (JH u i v) γ w
theorem eD{P:Program}{ops:Array Oper}{n:Nat}{Q:Exit→Act→World→Prop}{l:List Oper}(hl:l.toArray=ops)(F:(Nat→Value)→Act)(G:World→Prop)(Φ:Nat→(Nat→Value)→(Nat→Γ)→World→Prop)(Fr:Nat→Γ→Nat→Prop)(B:Nat)(st:Nat→Bool)(hB:VO ops n st=true)(hQ:∀(d:Tmp) (v:Value) c a w,Q (.panic c) (a.put (some d) v) w→Q (.panic c) a w)(hdd:∀i o,i<n→ops[i]?=some o→∃d:Tmp,o.dst=some d)(hput:∀(u:Nat→Value) (i:Nat) (v:Value) (o:Oper),i<n→ops[i]?=some o→(F u).put o.dst v=F (JH u i v))(hst:∀i u γ w w',i<n→Below w.heap.size w w'→Φ i u γ w→Φ i u γ w')(hcg:∀i u u' γ γ' w,i<n→(∀j,j=i∨Rch ops i j→u j=u' j∧γ j=γ' j)→Φ i u γ w→Φ i u' γ' w)(hop:∀i,i<n→mJ P ops F G Φ Fr i)(hlate:∀i,i<n→st i=false→(∀g b,¬ Fr i g b)∧cX P ops F G Φ i)(u0:Nat→Value)(htail:∀u γ w,(∀k,n≤k→u k=u0 k)→G w→(∀i,i<n→Φ i u γ w)→(∀i,i<n→∀b,Fr i (γ i) b→B≤b∧b<w.heap.size)→(∀i j,i<n→j<n→i≠j→∀b,Fr i (γ i) b→¬ Fr j (γ j) b)→wpList P ops Q (l.drop n) (F u) w):
  ∀(f:Nat) (listed:Array Bool) (u:Nat→Value) (γ:Nat→Γ) (w:World),left n listed=f→HeadInv .any ops n listed→(∀k,n≤k→u k=u0 k)→G w→B≤w.heap.size→(∀i,i<n→listed.getD i true=true→Φ i u γ w) →
   (∀i,i<n→listed.getD i true=true→∀b,Fr i (γ i) b→B≤b∧b<w.heap.size) →
   (∀i j,i<n→j<n→listed.getD i true=true→listed.getD j true=true→i≠j→∀b,Fr i (γ i) b→¬ Fr j (γ j) b) →
   wpAny P .any ops Q (f+(ops.size-n)) listed (F u) w:=by
 simp only[VO,R8,decide_eq_true_eq]at hB
 obtain⟨⟨⟨⟨⟨⟨hn,hsel⟩,hc⟩,hs⟩,hfree⟩,hback⟩,hseq⟩:=hB
 have hwlt:∀a j,a<n→j∈X6 ops a→j<a:=fun a j ha hj=>by
  have h1:=Ls.1 hback a (Lm.2 ha)
  simpa using Ls.1 h1 _ hj
 have hrlt:∀a j,Rch ops a j→a<n→j<a:=by
  intro a j h
  induction h with
  | one h=>exact fun ha=>hwlt _ _ ha h
  | more h _ ih =>
   intro ha
   have h1:=hwlt _ _ ha h
   have:=ih (by omega)
   omega
 intro f
 induction f with
 | zero =>
  intro listed u γ w hf inv hu0 hG hBw hΦ hF hD
  have hall:=E8 hf
  have he:listed=Array.replicate n true++Array.replicate (ops.size-n) false:=by
   apply Array.ext
   ·simp[inv.size];omega
   ·intro i h1 h2
    by_cases hi:i<n
    ·have:=hall i hi
     rw[Array.getElem_append_left (by simpa using hi)]
     simpa [h1]using this
    ·have:=inv.tail i (by omega) (by rw[← inv.size];exact h1)
     rw[Array.getElem_append_right (by simp;omega)]
     simpa [h1]using this
  rw[Ld]
  have hlen:(l.drop n).length=ops.size-n:=by rw[← hl];simp
  rw[← hlen]at hseq ⊢
  exact wpAny_of_seq (l.drop n) n listed (F u) w (fun j=>by rw[← hl];simp[List.getElem?_drop]) (by rw[he,← hlen];exact hseq) (htail u γ w hu0 hG (fun i hi=>hΦ i hi (hall i hi)) (fun i hi=>hF i hi (hall i hi)) (fun i j hi hj=>hD i j hi hj (hall i hi) (hall j hj)))
 | succ f ih =>
  intro listed u γ w hf inv hu0 hG hBw hΦ hF hD
  obtain⟨i0,hi0,hl0,hmin⟩:=Fi (n:=n) (listed:=listed) (by omega)
  have hready:i0∈Region.ready .any ops listed:=by
   have hlt:i0<ops.size:=by omega
   obtain⟨o,ho⟩:∃o,ops[i0]?=some o:=⟨ops[i0],by simp[hlt]⟩
   refine mem_ready.2 ⟨hl0,o,ho,fun e he hb=>?_⟩
   have hw:e.on∈X6 ops i0:=by
    unfold X6;rw[ho]
    exact R5.2 ⟨e,Tk.2 ⟨T1.2 he,hb⟩,rfl⟩
   have hlt2:e.on<i0:=hwlt _ _ hi0 hw
   have h3:=hmin _ hlt2
   have h4:e.on<listed.size:=by rw[inv.size];omega
   simpa [h4]using h3
  rw[show f+1+(ops.size-n)=(f+(ops.size-n))+1 by omega]
  have hall2:∀i,i∈Region.ready .any ops listed→∀j,Rch ops i j→listed.getD j false=true:=fun i hi j hj=>by
   obtain⟨_,o,ho,hdeps⟩:=mem_ready.1 hi
   refine Ce inv hj fun k hk=>?_
   unfold X6 at hk;rw[ho]at hk
   obtain⟨e,he,rfl⟩:=R5.1 hk
   obtain⟨he1,he2⟩:=Tk.1 he
   exact hdeps e (T1.1 he1) he2
  have hin2:∀j,j<n→listed.getD j false=true→listed.getD j true=true:=fun j hj h=>by
   have h4:j<listed.size:=by rw[inv.size];omega
   simpa [h4]using h
  have hfacts:∀i,i<n→i∈Region.ready .any ops listed→∀j,Rch ops i j→Φ j u γ w:=fun i hin hi j hj=>by
   have hlt2:=hrlt _ _ hj hin
   exact hΦ _ (by omega) (hin2 j (by omega) (hall2 i hi j hj))
  have hkeep:∀i,i<n→listed.getD i true=false→∀v g w',Below w.heap.size w w'→∀j,j<n→listed.getD j true=true→Φ j (JH u i v) (JH γ i g) w':=fun i hi hil v g w' hb j hj hjl=>by
   refine hcg j u _ γ _ w' hj (fun k hk=>?_) (hst j u γ w w' hj hb (hΦ j hj hjl))
   have hne:k≠i:=by
    rintro rfl
    rcases hk with rfl|hk
    ·rw[hil]at hjl;cases hjl
    ·have hjs:j<ops.size:=by omega
     have h1:listed.getD k false=true:=Ce inv hk fun m hm=>by
      refine Vv inv ?_ hm
      have h4:j<listed.size:=by rw[inv.size];omega
      simpa [h4]using hjl
     rw[getD_both hil]at h1
     cases h1
   rw[Yl u v hne,Yl γ g hne]
   exact⟨rfl,rfl⟩
  by_cases hall:∃i,i<n∧st i=true∧listed.getD i true=false
  case neg =>
   have hst0:st i0=false:=by
    cases h:st i0 with
    | false=>rfl
    | true=>exact absurd ⟨i0,hi0,h,hl0⟩ hall
   obtain⟨hfr0,hlt0⟩:=hlate i0 hi0 hst0
   obtain⟨_,o,ho,hdeps⟩:=mem_ready.1 hready
   obtain⟨v,hy,hv⟩:=hlt0 o ho u γ w hG (hfacts i0 hi0 hready)
   have hQ2:∀c a w,Q (.panic c) (a.put o.dst v) w→Q (.panic c) a w:=by
    obtain⟨d,hd⟩:=hdd i0 o hi0 ho
    rw[hd];exact hQ d v
   have eγ:JH γ i0 (γ i0)=γ:=by funext k;unfold JH;split<;>simp_all
   refine wpAny_first ho (Region.noSelect_spec hsel) hQ2 _ listed (F u) w (fun j oj hoj hji hjun hnot=>?_) hready hy ?_
   ·have hjs:j<ops.size:=(Array.getElem?_eq_some_iff.1 hoj).1
    have h1:=Ls.1 hfree i0 (Lm.2 hi0)
    rw[hst0,Bool.false_or]at h1
    have h2:=Ls.1 h1 j (Lm.2 hjs)
    simp only[Bool.or_eq_true,R8,decide_eq_true_eq,Rg,ho,hoj]at h2
    rcases h2 with((h2|h2)|h2)|h2
    ·exact absurd h2 hji
    ·exact absurd ⟨j,h2.1,h2.2,hjun⟩ hall
    ·obtain⟨o',ho',e,he,hb,hon⟩:=Region.waitsFor_spec h2
     have:o'=oj:=Option.some.inj (ho'.symm.trans hoj)
     subst this
     exact absurd hon (hnot e he hb)
    ·exact h2
   ·rw[hput u i0 v o hi0 ho]
    refine ih _ _ γ w (by have:=DJ hi0 hl0;omega) (inv.set hready hi0) (fun k hk=>by rw[Yl u v (by omega)];exact hu0 k hk) hG hBw (fun j hj hjl=>?_) (fun j hj hjl b hb=>?_) (fun j k hj hk hjl hkl hne b hb hb2=>?_)
    ·by_cases e:j=i0
     ·subst e;exact hv
     ·rw[getD_set_ne true (Ne.symm e)]at hjl
      have h5:=hkeep i0 hi0 hl0 v (γ i0) w (Below.refl _ _) j hj hjl
      rwa [eγ]at h5
    ·have ej:j≠i0:=fun e=>hfr0 _ _ (e▸hb)
     rw[getD_set_ne true (Ne.symm ej)]at hjl
     exact hF j hj hjl b hb
    ·have ej:j≠i0:=fun e=>hfr0 _ _ (e▸hb)
     have ek:k≠i0:=fun e=>hfr0 _ _ (e▸hb2)
     rw[getD_set_ne true (Ne.symm ej)]at hjl
     rw[getD_set_ne true (Ne.symm ek)]at hkl
     exact hD j k hj hk hjl hkl hne b hb hb2
  obtain⟨is,his,hss,hsl⟩:=hall
  refine⟨fun h0=>(by rw[h0]at hready;cases hready),fun i hi=>?_⟩
  have hin:i<n:=by
   rcases Ra i n with h|h
   ·exact h
   ·exact absurd hi (V6 hs hc inv his hss hsl i h)
  obtain⟨hil,o,ho,hdeps⟩:=mem_ready.1 hi
  have hgo:∀v g w',Below w.heap.size w w'→G w'→Φ i (JH u i v) (JH γ i g) w'→(∀b,Fr i g b→w.heap.size≤b∧b<w'.heap.size)→wpAny P .any ops Q (f+(ops.size-n)) (listed.setIfInBounds i true) ((F u).put o.dst v) w':=fun v g w' hb hG' hv hnew=>by
   rw[hput u i v o hin ho]
   refine ih _ _ (JH γ i g) w' (by have:=DJ hin hil;omega) (inv.set hi hin) (fun k hk=>by rw[Yl u v (by omega)];exact hu0 k hk) hG' (L8 hBw hb.size) (fun j hj hjl=>?_) (fun j hj hjl b hbb=>?_) (fun j k hj hk hjl hkl hne b hb1 hb2=>?_)
   ·by_cases e:j=i
    ·subst e;exact hv
    ·rw[getD_set_ne true (Ne.symm e)]at hjl
     exact hkeep i hin hil v g w' hb j hj hjl
   ·by_cases e:j=i
    ·subst e
     rw[Xw]at hbb
     have:=hnew b hbb
     omega
    ·rw[getD_set_ne true (Ne.symm e)]at hjl
     rw[Yl γ g e]at hbb
     have h1:=hF j hj hjl b hbb
     have h2:=hb.size
     omega
   ·by_cases ej:j=i
    ·subst ej
     have ek:k≠j:=Ne.symm hne
     rw[Xw]at hb1
     rw[Yl γ g ek]at hb2
     rw[getD_set_ne true (Ne.symm ek)]at hkl
     have h1:=hnew b hb1
     have h2:=hF k hk hkl b hb2
     omega
    ·rw[getD_set_ne true (Ne.symm ej)]at hjl
     rw[Yl γ g ej]at hb1
     by_cases ek:k=i
     ·subst ek
      rw[Xw]at hb2
      have h1:=hnew b hb2
      have h2:=hF j hj hjl b hb1
      omega
     ·rw[getD_set_ne true (Ne.symm ek)]at hkl
      rw[Yl γ g ek]at hb2
      exact hD j k hj hk hjl hkl hne b hb1 hb2
  have hrun:=hop i hin o ho u γ w hG (hfacts i hin hi) Q _ hgo
  unfold wpOp
  simp only[ho]
  split
  ·rename_i hw;rw[if_pos hw]at hrun;exact .inl hrun
  ·rename_i hw;rw[if_neg hw]at hrun;exact hrun
theorem Ax{P:Program}{Q:Exit→Act→World→Prop}{a:Act}{w:World}{l:List Oper}(ds:List Nat)(G:World→Prop)(Φ:Nat→(Nat→Value)→(Nat→Γ)→World→Prop)(Fr:Nat→Γ→Nat→Prop)(γ0:Nat→Γ)(st:Nat→Bool)(hB:VO l.toArray ds.length st=true)(hQ:∀(d:Tmp) (v:Value) c a w,Q (.panic c) (a.put (some d) v) w→Q (.panic c) a w)(hds:((List.range ds.length).all fun i=>((l.toArray[i]?).bind (·.dst))==ds[i]?)=true)(hnb:Bv ds=true)(_hlt:ds.all (·<a.tmps.size)=true)(hG:G w.drew)(hst:∀i u γ w w',i<ds.length→Below w.heap.size w w'→Φ i u γ w→Φ i u γ w')(hcg:∀i u u' γ γ' w,i<ds.length→(∀j,j=i∨Rch l.toArray i j→u j=u' j∧γ j=γ' j)→Φ i u γ w→Φ i u' γ' w)(hop:∀i,i<ds.length→mJ P l.toArray (Gl a ds) G Φ Fr i)(hlate:∀i,i<ds.length→st i=false→(∀g b,¬ Fr i g b)∧cX P l.toArray (Gl a ds) G Φ i)(htail:∀u γ w',G w'→(∀i,i<ds.length→Φ i u γ w')→(∀i,i<ds.length→∀b,Fr i (γ i) b→w.heap.size≤b∧b<w'.heap.size)→(∀i j,i<ds.length→j<ds.length→i≠j→∀b,Fr i (γ i) b→¬ Fr j (γ j) b)→wpList P l.toArray Q (l.drop ds.length) (Gl a ds u) w'): wpAny P .any l.toArray Q l.toArray.size (Array.replicate l.toArray.size false) a { w with drawn:=w.drawn+1 }:=by
 have hnd:=DK hnb
 have hn:ds.length≤l.toArray.size:=by
  simp only[VO,R8,decide_eq_true_eq]at hB
  exact hB.1.1.1.1.1.1
 have inv0:HeadInv .any l.toArray ds.length (Array.replicate l.toArray.size false) :=
  ⟨by simp,fun j oj _ hl=>(by rw[getD_replicate_false]at hl;cases hl),fun t _ ht=>getD_in (by simpa using ht) (getD_replicate_false _ _)⟩
 have hnone:∀i,i<ds.length→(Array.replicate l.toArray.size false).getD i true=false:=fun i hi=>getD_in (by simpa using(by omega:i<l.toArray.size)) (getD_replicate_false _ _)
 have hleft:left ds.length (Array.replicate l.toArray.size false)=ds.length:=by
  unfold left
  rw[List.filter_eq_self.2 (fun i hi=>by rw[hnone i (Lm.1 hi)];rfl),S7]
 have hdst:∀i,i<ds.length→∃d,ds[i]?=some d∧∀o,l.toArray[i]?=some o→o.dst=some d:=fun i hi=>by
  have h1:=Ls.1 hds i (Lm.2 hi)
  have h2:((l.toArray[i]?).bind (·.dst))=ds[i]?:=by simpa using h1
  refine⟨ds[i],by simp[hi],fun o ho=>?_⟩
  rw[ho]at h2
  have h3:ds[i]?=some ds[i]:=by simp[hi]
  rw[h3]at h2
  exact h2
 have h:=eD (Q:=Q) (l:=l) rfl (Gl a ds) G Φ Fr w.heap.size st hB hQ (fun i o hi ho=>by obtain⟨d,_,hd2⟩:=hdst i hi;exact⟨d,hd2 o ho⟩) (fun u i v o hi ho=>by
   obtain⟨d,hd,hd2⟩:=hdst i hi
   rw[hd2 o ho]
   exact Pw hnd u hd v) hst hcg hop hlate (fun i=>a.tmps.getD (ds.getD i 0) undef) (fun u γ w' _ hG' hΦ hF hD=>htail u γ w' hG' hΦ hF hD) ds.length _ (fun i=>a.tmps.getD (ds.getD i 0) undef) γ0 w.drew hleft inv0 (fun _ _=>rfl) hG (L3 _)
   (fun i hi hl=>(by rw[hnone i hi]at hl;cases hl)) (fun i hi hl=>(by rw[hnone i hi]at hl;cases hl)) (fun i j hi hj hl=>(by rw[hnone i hi]at hl;cases hl))
 rw[show ds.length+(l.toArray.size-ds.length)=l.toArray.size by omega]at h
 rw[← M1 a ds]at h
 exact h
end
inductive SV where
 | val (y:Value)
 | ptr (b o:Nat)
 | sli (b o n c:Nat)
 | clo (fn:Fn) (l m:List SV)
 | agg (l:List SV)
 | tup (l:List SV)
 | han (i:Nat)
structure Env where
 b:Nat→Nat
 x:Nat→Value
 S:Nat→Nat→Prop
mutual
def SV.den(r:Env): SV→Value
 | .val y=>y
 | .ptr b o=>.pointer (some ⟨r.b b,o,none⟩)
 | .sli b o n c=>.slice (some ⟨r.b b,o,none⟩) n c
 | .clo fn l m=>.func fn (QI r l).toArray (QI r m).toArray
 | .agg l=>.agg (QI r l).toArray
 | .tup l=>.tuple (QI r l).toArray
 | .han i=>r.x i
def QI(r:Env): List SV→List Value
 | []=>[]
 | s::l=>s.den r::QI r l
end
mutual
def SV.ok(β ξ:Nat→Bool): SV→Bool
 | .val _=>true
 | .ptr b _=>β b
 | .sli b _ _ _=>β b
 | .clo _ l m=>VL β ξ l&&VL β ξ m
 | .agg l=>VL β ξ l
 | .tup l=>VL β ξ l
 | .han i=>ξ i
def VL(β ξ:Nat→Bool): List SV→Bool
 | []=>true
 | s::l=>s.ok β ξ&&VL β ξ l
end
mutual
theorem Yn{r r':Env}{β ξ:Nat→Bool}(hb:∀i,β i=true→r.b i=r'.b i)(hx:∀i,ξ i=true→r.x i=r'.x i): ∀s:SV,s.ok β ξ=true→s.den r=s.den r'
 | .val _,_=>rfl
 | .ptr b _,h=>by simp only[SV.den,hb b h]
 | .sli b _ _ _,h=>by simp only[SV.den,hb b h]
 | .clo _ l m,h=>by
  have h1:=L6.1 h
  simp only[SV.den,Xm hb hx l h1.1,Xm hb hx m h1.2]
 | .agg l,h=>by simp only[SV.den,Xm hb hx l h]
 | .tup l,h=>by simp only[SV.den,Xm hb hx l h]
 | .han i,h=>hx i h
theorem Xm{r r':Env}{β ξ:Nat→Bool}(hb:∀i,β i=true→r.b i=r'.b i)(hx:∀i,ξ i=true→r.x i=r'.x i): ∀l:List SV,VL β ξ l=true→QI r l=QI r' l
 | [],_=>rfl
 | s::l,h=>by
  have h1:=L6.1 h
  simp only[QI,Yn hb hx s h1.1,Xm hb hx l h1.2]
end
mutual
theorem Jz{β ξ β' ξ':Nat→Bool}(hb:∀i,β i=true→β' i=true)(hx:∀i,ξ i=true→ξ' i=true): ∀s:SV,s.ok β ξ=true→s.ok β' ξ'=true
 | .val _,_=>rfl
 | .ptr b _,h=>hb b h
 | .sli b _ _ _,h=>hb b h
 | .clo _ l m,h=>by
  have h1:=L6.1 h
  exact L6.2 ⟨Y0 hb hx l h1.1,Y0 hb hx m h1.2⟩
 | .agg l,h=>Y0 hb hx l h
 | .tup l,h=>Y0 hb hx l h
 | .han i,h=>hx i h
theorem Y0{β ξ β' ξ':Nat→Bool}(hb:∀i,β i=true→β' i=true)(hx:∀i,ξ i=true→ξ' i=true): ∀l:List SV,VL β ξ l=true→VL β' ξ' l=true
 | [],_=>rfl
 | s::l,h=>by
  have h1:=L6.1 h
  exact L6.2 ⟨Jz hb hx s h1.1,Y0 hb hx l h1.2⟩
end
theorem QX{a b:Nat}(h:Nat.blt a b=true): a<b:=Lr h
theorem XW{a b:Nat}(h:a<b): Nat.blt a b=true:=Nat.ble_eq_true_of_le h
theorem Xi(r:Env): ∀l:List SV,QI r l=l.map (·.den r)
 | []=>rfl
 | s::l=>by simp[QI,Xi r l]
theorem Z9(r:Env)(l:List SV): (QI r l).length=l.length:=by simp[Xi]
theorem Ge(r:Env)(l:List Value): QI r (l.map SV.val)=l:=by induction l<;>simp_all [QI,SV.den]
theorem I2(β ξ:Nat→Bool)(l:List Value): VL β ξ (l.map SV.val)=true:=by induction l<;>simp_all [VL,SV.ok]
theorem okL_all{β ξ:Nat→Bool}: ∀ {l:List SV},VL β ξ l=true↔∀s,s∈l→s.ok β ξ=true
 | []=>by simp[VL]
 | s::l=>by simp[VL,@okL_all β ξ l]
def Yv{α:Type}(k:Nat): List (Nat×α)→Option α
 | []=>none
 | (j,s)::l=>bif Nat.beq j k then some s else Yv k l
def Xk{α:Type}: List (Option α)→Nat→Option α
 | [],_=>none
 | x::_,0=>x
 | _::l,n+1=>Xk l n
def KL{α:Type}: List (Option α)→Nat→α→List (Option α)
 | [],_,_=>[]
 | _::l,0,y=>some y::l
 | x::l,n+1,y=>x::KL l n y
theorem X0{α:Type}: ∀ {l:List (Option α)} {i:Nat} {y:α},Xk l i=some y→i<l.length
 | [],_,_,h=>by cases h
 | _::_,0,_,_=>S9 _
 | _::l,_+1,_,h=>Sx (X0 (l:=l) h)
theorem XQ{α:Type}: ∀(l:List (Option α)) (i:Nat) (y:α),(KL l i y).length=l.length
 | [],_,_=>rfl
 | _::_,0,_=>rfl
 | _::l,n+1,y=>R7 Nat.succ (XQ l n y)
theorem qA{α:Type}: ∀ {l:List (Option α)} {i j:Nat} {y z:α},Xk (KL l i y) j=some z→(j=i∧z=y)∨(j≠i∧Xk l j=some z)
 | [],_,_,_,_,h=>by cases h
 | _::_,0,0,_,_,h=>.inl ⟨rfl,(Option.some.inj h).symm⟩
 | _::_,0,_+1,_,_,h=>.inr ⟨by simp,h⟩
 | _::_,_+1,0,_,_,h=>.inr ⟨by simp,h⟩
 | _::l,i+1,j+1,_,_,h=>by
  rcases qA (l:=l) (i:=i) (j:=j) h with⟨e,e2⟩|⟨e,e2⟩
  ·exact .inl ⟨by rw[e],e2⟩
  ·exact .inr ⟨by simpa using e,e2⟩
theorem AU{α:Type}: ∀ {l:List (Option α)} {x:Option α} {i:Nat} {y:α},Xk (l++[x]) i=some y→Xk l i=some y∨(i=l.length∧x=some y)
 | [],_,0,_,h=>.inr ⟨rfl,h⟩
 | [],_,_+1,_,h=>by cases h
 | _::_,_,0,_,h=>.inl h
 | _::l,_,i+1,_,h=>(AU (l:=l) (i:=i) h).imp id fun⟨e,e2⟩=>⟨R7 Nat.succ e,e2⟩
structure Res where
 φ:Value→(Nat→Prop)→World→Prop
 one:∀v S w,φ v S w→v.oneCell'=true
 loc:∀v S w w',(∀b,S b→w'.heap[b]?=w.heap[b]?)→φ v S w→φ v S w'
structure St where
 n:Nat
 ts:List (Nat×SV)
 bs:List (Option (TypeId×List SV))
 rs:List (Option Res)
def St.lt(σ:St)(s:SV): Bool:=s.ok (fun i=>Nat.blt i σ.bs.length) (fun i=>Nat.blt i σ.rs.length)
def St.ltL(σ:St)(l:List SV): Bool:=VL (fun i=>Nat.blt i σ.bs.length) (fun i=>Nat.blt i σ.rs.length) l
structure See (w0:World) (σ:St) (r:Env) (a:Act) (w:World):Prop where
 low:Below w0.heap.size w0 w
 size:a.tmps.size=σ.n
 ts:∀k s,Yv k σ.ts=some s→a.tmps.getD k undef=s.den r∧σ.lt s=true
 bs:∀i t cs,Xk σ.bs i=some (t,cs)→Bx w (r.b i) t (QI r cs).toArray∧σ.ltL cs=true
 rs:∀i R,Xk σ.rs i=some R→R.φ (r.x i) (r.S i) w∧∀b,r.S i b→b<w.heap.size
 one:∀i,i<σ.rs.length→(r.x i).oneCell'=true
structure Sep (w0:World) (σ:St) (r:Env):Prop where
 own:∀i p,Xk σ.bs i=some p→w0.heap.size≤r.b i
 inj:∀i j p q,Xk σ.bs i=some p→Xk σ.bs j=some q→i≠j→r.b i≠r.b j
 ownS:∀i R,Xk σ.rs i=some R→∀b,r.S i b→w0.heap.size≤b
 disj:∀i j R R',Xk σ.rs i=some R→Xk σ.rs j=some R'→i≠j→∀b,r.S i b→¬ r.S j b
 apart:∀i j p R,Xk σ.bs i=some p→Xk σ.rs j=some R→¬ r.S j (r.b i)
structure Sat (w0:World) (σ:St) (r:Env) (a:Act) (w:World):Prop where
 see:See w0 σ r a w
 sep:Sep w0 σ r
 defers:a.defers=[]
theorem See.later{w0:World}{σ:St}{r:Env}{a:Act}{w w':World}(h:See w0 σ r a w)(hb:Below w.heap.size w w'): See w0 σ r a w' :=
 ⟨nxt h.low hb,h.size,h.ts,fun i t cs hi=>⟨(h.bs i t cs hi).1.later hb,(h.bs i t cs hi).2⟩,fun i R hi=>⟨R.loc _ _ _ _ (fun b hS=>hb.block b ((h.rs i R hi).2 b hS)) (h.rs i R hi).1,fun b hS=>Lb ((h.rs i R hi).2 b hS) hb.size⟩,h.one⟩
structure Out where
 s:SV
 b:Option (TypeId×List SV):=none
 r:Option Res:=none
structure Gh where
 b:Nat
 x:Value
 S:Nat→Prop
def Gh.no:Gh:=⟨0,.bool false,fun _=>False⟩
def Env.add(r:Env)(nb nx:Nat)(γ:Gh): Env:=⟨JH r.b nb γ.b,JH r.x nx γ.x,JH r.S nx γ.S⟩
def Env.add'(r:Env)(σ:St)(γ:Gh): Env:=r.add σ.bs.length σ.rs.length γ
theorem IT{σ:St}{s:SV}(h:σ.lt s=true)(r:Env)(γ:Gh): s.den (r.add' σ γ)=s.den r :=
 Yn (fun _ hi=>Yl _ _ (Sk (QX hi))) (fun _ hi=>Yl _ _ (Sk (QX hi))) s h
theorem MZ{σ:St}{l:List SV}(h:σ.ltL l=true)(r:Env)(γ:Gh): QI (r.add' σ γ) l=QI r l :=
 Xm (fun _ hi=>Yl _ _ (Sk (QX hi))) (fun _ hi=>Yl _ _ (Sk (QX hi))) l h
structure Made (r':Env) (o:Out) (γ:Gh) (w w':World):Prop where
 one:γ.x.oneCell'=true
 b:∀t cs,o.b=some (t,cs)→Bx w' γ.b t (QI r' cs).toArray∧w.heap.size≤γ.b
 r:∀R,o.r=some R→R.φ γ.x γ.S w'∧∀b,γ.S b→w.heap.size≤b∧b<w'.heap.size
 apart:∀p R,o.b=some p→o.r=some R→¬ γ.S γ.b
def Vd{α:Type}: List α→α→List α
 | [],y=>[y]
 | x::l,y=>x::Vd l y
theorem YN{α:Type}: ∀(l:List α) (y:α),Vd l y=l++[y]
 | [],_=>rfl
 | x::l,y=>R7 (x::·) (YN l y)
def St.fits(σ:St)(o:Out): Bool :=
 (o.s.ok (fun i=>Nat.blt i (match o.b with|some _=>σ.bs.length+1|none=>σ.bs.length)) (fun i=>Nat.blt i (match o.r with|some _=>σ.rs.length+1|none=>σ.rs.length))) &&
 (match o.b with|some (_,cs)=>σ.ltL cs|none=>true)
def St.grow(σ:St)(o:Out): St:={ σ with bs:=match o.b with|some x=>Vd σ.bs (some x)|none=>σ.bs,rs:=match o.r with|some R=>Vd σ.rs (some R)|none=>σ.rs }
def St.push(σ:St)(d:Option Tmp)(s:SV): St:=match d with|some d=>{ σ with ts:=(d,s)::σ.ts } | none=>σ
theorem Ha{σ:St}{o:Out}: σ.bs.length≤(σ.grow o).bs.length:=by
 unfold St.grow;cases o.b<;>simp[YN]
theorem IF{σ:St}{o:Out}: σ.rs.length≤(σ.grow o).rs.length:=by
 unfold St.grow;cases o.r<;>simp[YN]
theorem gJ{σ:St}{o:Out}{s:SV}(h:σ.lt s=true): (σ.grow o).lt s=true :=
 Jz (fun _ hi=>XW (Lb (QX hi) Ha)) (fun _ hi=>XW (Lb (QX hi) IF)) s h
theorem Mg{σ:St}{o:Out}{l:List SV}(h:σ.ltL l=true): (σ.grow o).ltL l=true :=
 Y0 (fun _ hi=>XW (Lb (QX hi) Ha)) (fun _ hi=>XW (Lb (QX hi) IF)) l h
theorem Be{σ:St}{o:Out}{i:Nat}{p:TypeId×List SV}(h:Xk (σ.grow o).bs i=some p): Xk σ.bs i=some p∨(i=σ.bs.length∧o.b=some p):=by
 unfold St.grow at h
 cases e:o.b with
 | none=>rw[e]at h;exact .inl h
 | some x =>
  rw[e]at h
  simp only[YN]at h
  exact(AU h).imp id fun⟨h1,h2⟩=>⟨h1,h2⟩
theorem D3{σ:St}{o:Out}{i:Nat}{R:Res}(h:Xk (σ.grow o).rs i=some R): Xk σ.rs i=some R∨(i=σ.rs.length∧o.r=some R):=by
 unfold St.grow at h
 cases e:o.r with
 | none=>rw[e]at h;exact .inl h
 | some x =>
  rw[e]at h
  simp only[YN]at h
  exact(AU h).imp id fun⟨h1,h2⟩=>⟨h1,h2⟩
theorem gA{σ:St}{o:Out}(h:σ.fits o=true): (σ.grow o).lt o.s=true:=by
 unfold St.fits at h
 have h1:=(L6.1 h).1
 refine Jz (fun i hi=>?_) (fun i hi=>?_) o.s h1
 ·unfold St.grow
  cases e:o.b<;>simp only[e,YN,Lg,Rb,Rs]at hi ⊢<;>exact hi
 ·unfold St.grow
  cases e:o.r<;>simp only[e,YN,Lg,Rb,Rs]at hi ⊢<;>exact hi
theorem aB{σ:St}{o:Out}(h:σ.fits o=true){t:TypeId}{cs:List SV}(e:o.b=some (t,cs)): σ.ltL cs=true:=by
 unfold St.fits at h
 have h1:=(L6.1 h).2
 rw[e]at h1
 exact h1
section
variable {w0:World} {σ:St} {r:Env} {a:Act} {w w':World} {o:Out} {γ:Gh}
theorem ZN{i:Nat}{p:TypeId×List SV}(h:Xk σ.bs i=some p): (r.add' σ γ).b i=r.b i:=Yl _ _ (Sk (X0 h))
theorem Fq{i:Nat}(h:i<σ.rs.length): (r.add' σ γ).x i=r.x i:=Yl _ _ (Sk h)
theorem ZI{i:Nat}{R:Res}(h:Xk σ.rs i=some R): (r.add' σ γ).S i=r.S i:=Yl _ _ (Sk (X0 h))
theorem See.grow(h:See w0 σ r a w)(hb:Below w.heap.size w w')(hf:σ.fits o=true)(hm:Made (r.add' σ γ) o γ w w'): See w0 (σ.grow o) (r.add' σ γ) a w':=by
 have h':=h.later hb
 refine⟨h'.low,h'.size,fun k s hk=>?_,fun i t cs hi=>?_,fun i R hi=>?_,fun i hi=>?_⟩
 ·have h1:=h'.ts k s hk
  exact⟨by rw[IT h1.2];exact h1.1,gJ h1.2⟩
 ·rcases Be hi with h1|⟨rfl,h1⟩
  ·obtain⟨h2,h3⟩:=h'.bs i t cs h1
   rw[MZ h3,ZN h1]
   exact⟨h2,Mg h3⟩
  ·have h2:=(hm.b t cs h1).1
   refine⟨?_,Mg (aB hf h1)⟩
   rw[show(r.add' σ γ).b σ.bs.length=γ.b from Xw _ _ _]
   exact h2
 ·rcases D3 hi with h1|⟨rfl,h1⟩
  ·rw[Fq (X0 h1),ZI h1]
   exact h'.rs i R h1
  ·rw[show(r.add' σ γ).x σ.rs.length=γ.x from Xw _ _ _,show(r.add' σ γ).S σ.rs.length=γ.S from Xw _ _ _]
   exact⟨(hm.r R h1).1,fun b hS=>((hm.r R h1).2 b hS).2⟩
 ·rcases Ra i σ.rs.length with h1|h1
  ·rw[Fq h1];exact h.one i h1
  ·have h2:i=σ.rs.length:=by
    have:(σ.grow o).rs.length≤σ.rs.length+1:=by
     unfold St.grow;cases o.r<;>simp[YN]
    have hi':i<(σ.grow o).rs.length:=hi
    omega
   subst h2
   rw[show(r.add' σ γ).x σ.rs.length=γ.x from Xw _ _ _]
   exact hm.one
theorem Sep.grow(h:Sep w0 σ r)(hs:See w0 σ r a w)(_hb:Below w.heap.size w w')(hm:Made (r.add' σ γ) o γ w w'): Sep w0 (σ.grow o) (r.add' σ γ):=by
 have eb:(r.add' σ γ).b σ.bs.length=γ.b:=Xw _ _ _
 have eS:(r.add' σ γ).S σ.rs.length=γ.S:=Xw _ _ _
 have hlow:=hs.low.size
 have hbx:∀i p,Xk σ.bs i=some p→r.b i<w.heap.size:=fun i p hi=>(hs.bs i p.1 p.2 hi).1.lt
 refine⟨fun i p hi=>?_,fun i j p q hi hj hne=>?_,fun i R hi b hS=>?_,fun i j R R' hi hj hne b hS hS'=>?_,fun i j p R hi hj hS=>?_⟩
 ·rcases Be hi with h1|⟨rfl,h1⟩
  ·rw[ZN h1];exact h.own i p h1
  ·rw[eb];have:=(hm.b p.1 p.2 h1).2;omega
 ·rcases Be hi with h1|⟨rfl,h1⟩<;>rcases Be hj with h2|⟨rfl,h2⟩
  ·rw[ZN h1,ZN h2];exact h.inj i j p q h1 h2 hne
  ·rw[ZN h1,eb];have:=(hm.b q.1 q.2 h2).2;have:=hbx i p h1;omega
  ·rw[ZN h2,eb];have:=(hm.b p.1 p.2 h1).2;have:=hbx j q h2;omega
  ·exact absurd rfl hne
 ·rcases D3 hi with h1|⟨rfl,h1⟩
  ·rw[ZI h1]at hS;exact h.ownS i R h1 b hS
  ·rw[eS]at hS;have:=((hm.r R h1).2 b hS).1;omega
 ·rcases D3 hi with h1|⟨rfl,h1⟩<;>rcases D3 hj with h2|⟨rfl,h2⟩
  ·rw[ZI h1]at hS;rw[ZI h2]at hS';exact h.disj i j R R' h1 h2 hne b hS hS'
  ·rw[ZI h1]at hS;rw[eS]at hS'
   have:=((hm.r R' h2).2 b hS').1;have:=(hs.rs i R h1).2 b hS;omega
  ·rw[ZI h2]at hS';rw[eS]at hS
   have:=((hm.r R h1).2 b hS).1;have:=(hs.rs j R' h2).2 b hS';omega
  ·exact absurd rfl hne
 ·rcases Be hi with h1|⟨rfl,h1⟩<;>rcases D3 hj with h2|⟨rfl,h2⟩
  ·rw[ZN h1,ZI h2]at hS;exact h.apart i j p R h1 h2 hS
  ·rw[ZN h1,eS]at hS
   have:=((hm.r R h2).2 _ hS).1;have:=hbx i p h1;omega
  ·rw[eb,ZI h2]at hS
   have:=(hm.b p.1 p.2 h1).2;have:=(hs.rs j R h2).2 _ hS;omega
  ·rw[eb,eS]at hS;exact hm.apart p R h1 h2 hS
theorem See.push(h:See w0 σ r a w){d:Option Tmp}{s:SV}(hd:∀k,d=some k→k<σ.n)(hs:σ.lt s=true): See w0 (σ.push d s) r (a.put d (s.den r)) w:=by
 cases d with
 | none=>exact h
 | some d =>
  have hsz:d<a.tmps.size:=by rw[h.size];exact hd d rfl
  refine⟨h.low,by simpa [Act.put,St.push]using h.size,fun k u hk=>?_,h.bs,h.rs,h.one⟩
  simp only[St.push,Yv]at hk
  cases e:Nat.beq d k with
  | true =>
   have:d=k:=Lc e
   subst this
   rw[e]at hk
   obtain rfl:=Option.some.inj hk
   exact⟨by simp[Act.put,hsz],hs⟩
  | false =>
   have hne:d≠k:=Nat.ne_of_beq_eq_false e
   rw[e]at hk
   obtain⟨h1,h2⟩:=h.ts k u hk
   refine⟨?_,h2⟩
   rw[← h1]
   show(a.tmps.setIfInBounds d _).getD k undef=a.tmps.getD k undef
   simp[hne]
end
open Go Go.RowKit
inductive TK where
 | struct (fs:List (Nat×Nat×Option Bool))
 | array (n e sz:Nat) (ag:Option Bool)
 | slice (e sz:Nat) (ag:Option Bool)
 | ptr (e:Nat)
 | str
 | int (k:IntKind)
 | bool
 | other
structure TI where
 size:Nat
 zero:List Value
 k:TK
def IW(P:Program)(t:TypeId): Nat:=match P.info? t with|some i=>i.size|none=>0
def pC:TypeDesc→Bool
 | .struct _=>true
 | .array _ _=>true
 | _=>false
def OK(P:Program)(t:TypeId): Option Bool:=match P.underlying t with|some d=>some (pC d)|none=>none
def TK.agg:TK→Bool
 | .struct _=>true
 | .array ..=>true
 | _=>false
def V2(P:Program): TypeDesc→TK
 | .struct fs=>.struct (fs.toList.map fun f=>(f.offset,IW P f.type,OK P f.type))
 | .array n e=>.array n e (IW P e) (OK P e)
 | .slice e=>.slice e (IW P e) (OK P e)
 | .pointer e=>.ptr e
 | .string=>.str
 | .int k=>.int k
 | .bool=>.bool
 | _=>.other
def XT(P:Program)(t:TypeId): Option TI:=match P.info? t,P.underlying t with
 | some i,some d=>some ⟨i.size,match i.zero with|some z=>z.cells.toList|none=>[],V2 P d⟩
 | _,_=>none
def YF(P:Program)(tt:List (Nat×TI)): Prop:=∀t ti,Yv t tt=some ti→XT P t=some ti
theorem jz{P:Program}: ∀ {tt:List (Nat×TI)},tt.map (fun p=>XT P p.1)=tt.map (fun p=>some p.2)→YF P tt
 | [],_=>fun _ _ h=>by cases h
 | (j,x)::l,h=>fun t ti ht=>by
  simp only[List.map_cons,List.cons.injEq]at h
  unfold Yv at ht
  cases e:Nat.beq j t with
  | true =>
   rw[e]at ht
   obtain rfl:=Option.some.inj ht
   rw[← Lc e]
   exact h.1
  | false=>rw[e]at ht;exact jz h.2 t ti ht
section
variable {P:Program} {t:TypeId} {ti:TI}
theorem Zo(h:XT P t=some ti): ∃i d,P.info? t=some i∧P.underlying t=some d∧ti.size=i.size∧ti.k=V2 P d∧(∀z,i.zero=some z→ti.zero=z.cells.toList)∧(i.zero=none→ti.zero=[]):=by
 unfold XT at h
 split at h
 ·rename_i i d h1 h2
  obtain rfl:=Option.some.inj h
  refine⟨i,d,h1,h2,rfl,rfl,fun z hz=>by simp only[hz],fun hz=>by simp only[hz]⟩
 ·cases h
theorem Jf{n:Nat}(h:IW P t=n)(hn:n≠0)(w:World): (sizeOf t).run P w=.ok n w:=by
 unfold IW at h
 cases e:P.info? t with
 | none=>rw[e]at h;exact absurd h.symm hn
 | some i=>rw[e]at h;simp only at h;subst h;simp[sizeOf,typeInfo,e]
theorem DO(h:XT P t=some ti)(w:World): (sizeOf t).run P w=.ok ti.size w:=by
 obtain⟨i,d,h1,_,h3,_⟩:=Zo h
 simp[sizeOf,typeInfo,h1,h3]
theorem Xq{d:TypeDesc}(h:P.underlying t=some d)(w:World): (underlying t).run P w=.ok d w:=by simp[underlying,h]
theorem OH{b:Bool}(h:OK P t=some b)(w:World): (isAgg t).run P w=.ok b w:=by
 unfold OK at h
 cases e:P.underlying t with
 | none=>rw[e]at h;cases h
 | some d =>
  rw[e]at h
  obtain rfl:=Option.some.inj h
  unfold isAgg
  rw[Sem.run_bind,Xq e]
  cases d<;>rfl
theorem Ig(h:XT P t=some ti)(w:World): (isAgg t).run P w=.ok ti.k.agg w:=by
 obtain⟨i,d,_,h2,_,h4,_⟩:=Zo h
 refine OH ?_ w
 unfold OK;rw[h2,h4]
 cases d<;>rfl
theorem AC(h:XT P t=some ti)(hz:ti.zero≠[])(w:World): ∃z,(zeroValue t).run P w=.ok z w∧z.cells.toList=ti.zero:=by
 obtain⟨i,d,h1,_,_,_,h5,h6⟩:=Zo h
 cases e:i.zero with
 | none=>exact absurd (h6 e) hz
 | some z=>exact⟨z,by simp[zeroValue,typeInfo,h1,e],(h5 z e).symm⟩
theorem Zp{e sz:Nat}{ag:Option Bool}(h:XT P t=some ti)(hk:ti.k=.slice e sz ag): P.underlying t=some (.slice e)∧IW P e=sz∧OK P e=ag:=by
 obtain⟨i,d,_,h2,_,h4,_⟩:=Zo h
 rw[h4]at hk
 cases d<;>simp[V2]at hk
 obtain⟨rfl,rfl,rfl⟩:=hk
 exact⟨h2,rfl,rfl⟩
theorem K0{n e sz:Nat}{ag:Option Bool}(h:XT P t=some ti)(hk:ti.k=.array n e sz ag): P.underlying t=some (.array n e)∧IW P e=sz∧OK P e=ag:=by
 obtain⟨i,d,_,h2,_,h4,_⟩:=Zo h
 rw[h4]at hk
 cases d<;>simp[V2]at hk
 obtain⟨rfl,rfl,rfl,rfl⟩:=hk
 exact⟨h2,rfl,rfl⟩
theorem GI{fs:List (Nat×Nat×Option Bool)}(h:XT P t=some ti)(hk:ti.k=.struct fs): ∃fd:Array Field,P.underlying t=some (.struct fd)∧fs=fd.toList.map fun f=>(f.offset,IW P f.type,OK P f.type):=by
 obtain⟨i,d,_,h2,_,h4,_⟩:=Zo h
 rw[h4]at hk
 cases d<;>simp[V2]at hk
 exact⟨_,h2,hk.symm⟩
theorem ac{k:IntKind}(h:XT P t=some ti)(hk:ti.k=.int k): P.underlying t=some (.int k):=by
 obtain⟨i,d,_,h2,_,h4,_⟩:=Zo h
 rw[h4]at hk
 cases d<;>simp[V2]at hk
 subst hk;exact h2
theorem bN(h:XT P t=some ti)(hk:ti.k=.str): P.underlying t=some .string:=by
 obtain⟨i,d,_,h2,_,h4,_⟩:=Zo h
 rw[h4]at hk
 cases d<;>simp[V2]at hk
 exact h2
theorem dO{e:Nat}(h:XT P t=some ti)(hk:ti.k=.ptr e): P.underlying t=some (.pointer e):=by
 obtain⟨i,d,_,h2,_,h4,_⟩:=Zo h
 rw[h4]at hk
 cases d<;>simp[V2]at hk
 subst hk;exact h2
end
def SV.cells:SV→List SV
 | .val y=>y.cells.toList.map SV.val
 | .agg l=>l
 | z=>[z]
theorem EQ{v:Value}(h:v.oneCell'=true): v.cells=#[v]:=by cases v<;>first|rfl|(simp[Value.oneCell']at h)
def SV.okCell:SV→Bool
 | .val y=>y.oneCell'
 | .agg _=>false
 | .tup _=>false
 | _=>true
section
variable {w0:World} {σ:St} {r:Env} {a:Act} {w:World}
theorem Wt(h:See w0 σ r a w){i:Nat}(hs:σ.lt (.han i)=true): (r.x i).oneCell'=true:=h.one i (QX hs)
theorem Bw(h:See w0 σ r a w){s:SV}(hs:σ.lt s=true): QI r s.cells=(s.den r).cells.toList:=by
 cases s with
 | val y=>simp[SV.cells,SV.den,Ge]
 | agg l=>simp[SV.cells,SV.den,Value.cells]
 | han i=>simp[SV.cells,QI,SV.den,EQ (Wt h hs)]
 | _=>simp[SV.cells,QI,SV.den,Value.cells]
theorem Ct{s:SV}(hs:σ.lt s=true): σ.ltL s.cells=true:=by
 cases s with
 | val y=>exact I2 _ _ _
 | agg l=>exact hs
 | _=>exact L6.2 ⟨hs,rfl⟩
theorem ON(h:See w0 σ r a w){s:SV}(hs:σ.lt s=true)(hc:s.okCell=true): (s.den r).oneCell'=true:=by
 cases s with
 | val y=>exact hc
 | han i=>exact Wt h hs
 | agg l=>cases hc
 | tup l=>cases hc
 | _=>rfl
end
def VR{α:Type}: List α→Nat→List α→List α
 | [],_,_=>[]
 | x::l,_,[]=>x::l
 | _::l,0,v::vs=>v::VR l 0 vs
 | x::l,n+1,v::vs=>x::VR l n (v::vs)
theorem ZW{α:Type}(l:List α)(n:Nat): VR l n []=l:=by cases l<;>rfl
theorem Vp{α:Type}: ∀(l:List α) (n:Nat) (vs:List α),(VR l n vs).length=l.length
 | [],_,_=>rfl
 | _::_,_,[]=>by rw[ZW]
 | _::l,0,v::vs=>R7 Nat.succ (Vp l 0 vs)
 | _::l,n+1,v::vs=>R7 Nat.succ (Vp l n (v::vs))
theorem DA{α:Type}: ∀(l:List α) (n:Nat) (v:α) (vs:List α),VR l n (v::vs)=VR (l.set n v) (n+1) vs
 | [],_,_,_=>rfl
 | x::l,0,v,[]=>by simp[VR,ZW]
 | x::l,0,v,u::vs=>rfl
 | x::l,n+1,v,[]=>by
  rw[ZW]
  show x::VR l n [v]=x::l.set n v
  rw[DA l n v [],ZW]
 | x::l,n+1,v,u::vs=>R7 (x::·) (DA l n v (u::vs))
theorem AM{α β:Type}(f:α→β): ∀(l:List α) (n:Nat) (vs:List α),(VR l n vs).map f=VR (l.map f) n (vs.map f)
 | [],_,_=>rfl
 | _::_,_,[]=>by rw[ZW];exact(ZW _ _).symm
 | _::l,0,v::vs=>R7 (f v::·) (AM f l 0 vs)
 | x::l,n+1,v::vs=>R7 (f x::·) (AM f l n (v::vs))
theorem A7{β ξ:Nat→Bool}: ∀ {l:List SV} {n:Nat} {vs:List SV},VL β ξ l=true→VL β ξ vs=true→VL β ξ (VR l n vs)=true
 | [],_,_,_,_=>rfl
 | _::_,_,[],h,_=>by rw[ZW];exact h
 | _::l,0,v::vs,h,k=>L6.2 ⟨(L6.1 k).1,A7 (l:=l) (n:=0) (L6.1 h).2 (L6.1 k).2⟩
 | x::l,n+1,v::vs,h,k=>L6.2 ⟨(L6.1 h).1,A7 (l:=l) (n:=n) (L6.1 h).2 k⟩
theorem I1:∀(vs:List Value) (k:Nat) (l:List Value),gt l.toArray k vs=(VR l k vs).toArray
 | [],k,l=>by rw[ZW];rfl
 | v::vs,k,l=>by
  show gt (l.toArray.setIfInBounds k v) (k+1) vs=_
  rw[DA,Rp,I1 vs (k+1)]
theorem Mf:∀(vs:List Value) (k o:Nat) (l:List Value),(vs.zipIdx k).foldl (fun cs (x:Value×Nat)=>cs.setIfInBounds (o+x.2) x.1) l.toArray=(VR l (o+k) vs).toArray
 | [],k,o,l=>by rw[ZW];rfl
 | v::vs,k,o,l=>by
  rw[List.zipIdx_cons,List.foldl_cons,DA,Rp,Mf vs (k+1) o]
  rfl
def Fv(place:Nat→Option (Nat×Nat)): List SV→List (Nat×SV)→Option (List SV)
 | cells,[]=>some cells
 | cells,(i,s)::l=>match place i with
  | none=>none
  | some (off,size)=>bif Nat.beq s.cells.length size&&Nat.ble (off+s.cells.length) cells.length then Fv place (VR cells off s.cells) l else none
section
variable {w0:World} {σ:St} {r:Env} {a:Act} {w:World}
theorem Bg(h:See w0 σ r a w)(place:Nat→Option (Nat×Nat)): ∀(ps:List (Nat×SV)) (cells l:List SV),(∀p,p∈ps→σ.lt p.2=true)→σ.ltL cells=true→Fv place cells ps=some l →
  Instr.fill place (QI r cells).toArray (ps.map fun p=>(p.1,p.2.den r))=some (QI r l).toArray
 | [],cells,l,_,_,e=>by
  obtain rfl:=Option.some.inj e
  rfl
 | (i,s)::ps,cells,l,hp,hc,e=>by
  have hs:σ.lt s=true:=hp (i,s) (by simp)
  simp only[Fv]at e
  simp only[List.map_cons,Instr.fill]
  cases e1:place i with
  | none=>rw[e1]at e;cases e
  | some q =>
   obtain⟨off,size⟩:=q
   rw[e1]at e
   dsimp only at e ⊢
   cases e2:Nat.beq s.cells.length size&&Nat.ble (off+s.cells.length) cells.length with
   | false=>rw[e2]at e;cases e
   | true =>
    rw[e2]at e
    obtain⟨e3,e4⟩:=L6.1 e2
    have e5:=Lc e3
    have e6:=Lr e4
    have hcd:=Bw h hs
    have hl:(s.den r).cells.size=s.cells.length:=by rw[← Tc,← hcd,Z9]
    have hn:¬((s.den r).cells.size≠size||off+(s.den r).cells.size>(QI r cells).toArray.size)=true:=by
     simp[hl,e5,Z9];omega
    rw[if_neg hn]
    have hz:(s.den r).cells.zipIdx.foldl (fun cs x=>cs.setIfInBounds (off+x.2) x.1) (QI r cells).toArray=(QI r (VR cells off s.cells)).toArray:=by
     have h1:=Mf (s.den r).cells.toList 0 off (QI r cells)
     rw[U2,← hcd,Xi r s.cells,Xi r cells,← AM]at h1
     simp only[← Xi]at h1
     rw[← h1,hcd,← Array.toList_zipIdx,← Array.foldl_toList]
    have h2:=Bg h place ps (VR cells off s.cells) l (fun p hp'=>hp p (by simp[hp'])) (A7 hc (Ct hs)) e
    rw[← h2]
    congr 1
end
def lY(σ:St): Operand→Option SV
 | .tmp k=>Yv k σ.ts
 | .const v=>some (.val v)
 | .global g=>some (.val (.pointer (some ⟨g,0,none⟩)))
 | .func f=>some (.clo (.func f) [] [])
def JR(σ:St)(x:Operand)(K:SV→Prop): Prop:=match lY σ x with|some s=>K s|none=>False
def Wf(σ:St): List Operand→(List SV→Prop)→Prop
 | [],K=>K []
 | x::l,K=>JR σ x fun s=>Wf σ l fun m=>K (s::m)
def nY(σ:St): List (Nat×Operand)→(List (Nat×SV)→Prop)→Prop
 | [],K=>K []
 | (i,x)::l,K=>JR σ x fun s=>nY σ l fun m=>K ((i,s)::m)
def AB(tt:List (Nat×TI))(t:TypeId)(K:TI→Prop): Prop:=match Yv t tt with|some ti=>K ti|none=>False
def JG{α:Type}(o:Option α)(K:α→Prop): Prop:=match o with|some y=>K y|none=>False
def ib{α:Type}: List α→Bool
 | []=>false
 | _::_=>true
def i7(z:List Value): Nat→List Value
 | 0=>[]
 | n+1=>z++i7 z n
section
variable {w0:World} {σ:St} {r:Env} {a:Act} {w:World}
theorem Qs(h:See w0 σ r a w){x:Operand}{s:SV}(e:lY σ x=some s): a.eval x=s.den r∧σ.lt s=true:=by
 cases x with
 | tmp k=>exact h.ts k s e
 | const v=>obtain rfl:=Option.some.inj e;exact⟨rfl,rfl⟩
 | global g=>obtain rfl:=Option.some.inj e;exact⟨rfl,rfl⟩
 | func f=>obtain rfl:=Option.some.inj e;exact⟨rfl,rfl⟩
theorem Qy{x:Operand}{K:SV→Prop}(e:JR σ x K): ∃s,lY σ x=some s∧K s:=by
 unfold JR at e
 split at e
 ·exact⟨_,by assumption,e⟩
 ·exact e.elim
theorem Za:∀ {l:List Operand} {K:List SV→Prop},Wf σ l K→∃m,K m∧∀r a w,See w0 σ r a w→l.map a.eval=QI r m∧σ.ltL m=true
 | [],K,e=>⟨[],e,fun _ _ _ _=>⟨rfl,rfl⟩⟩
 | x::l,K,e=>by
  obtain⟨s,h1,h2⟩:=Qy e
  obtain⟨m,h3,h4⟩:=Za (l:=l) h2
  refine⟨s::m,h3,fun r a w h=>?_⟩
  obtain⟨h5,h6⟩:=h4 r a w h
  obtain⟨h7,h8⟩:=Qs h h1
  exact⟨by simp[QI,h5,h7],L6.2 ⟨h8,h6⟩⟩
theorem Ew:∀ {l:List (Nat×Operand)} {K:List (Nat×SV)→Prop},nY σ l K→∃m,K m∧∀r a w,See w0 σ r a w→l.map (fun p=>(p.1,a.eval p.2))=m.map (fun p=>(p.1,p.2.den r))∧∀p,p∈m→σ.lt p.2=true
 | [],K,e=>⟨[],e,fun _ _ _ _=>⟨rfl,fun _ h=>by cases h⟩⟩
 | (i,x)::l,K,e=>by
  obtain⟨s,h1,h2⟩:=Qy e
  obtain⟨m,h3,h4⟩:=Ew (l:=l) h2
  refine⟨(i,s)::m,h3,fun r a w h=>?_⟩
  obtain⟨h5,h6⟩:=h4 r a w h
  obtain⟨h7,h8⟩:=Qs h h1
  refine⟨by simp[h5,h7],fun p hp=>?_⟩
  rcases Lp.1 hp with rfl|hp
  ·exact h8
  ·exact h6 p hp
theorem Xa{tt:List (Nat×TI)}{P:Program}(hT:YF P tt){t:TypeId}{K:TI→Prop}(e:AB tt t K): ∃ti,XT P t=some ti∧K ti:=by
 unfold AB at e
 split at e
 ·exact⟨_,hT t _ (by assumption),e⟩
 ·exact e.elim
theorem QY{α:Type}{o:Option α}{K:α→Prop}(e:JG o K): ∃y,o=some y∧K y:=by
 unfold JG at e
 split at e
 ·exact⟨_,rfl,e⟩
 ·exact e.elim
theorem XS{b:Bool}{p:Prop}(e:bif b then p else False): b=true∧p:=by cases b<;>simp_all
end
def aF(P:Program)(w0:World)(o:Oper)(σ:St)(K:Out→Prop): Prop :=
 ∀r a w,See w0 σ r a w→∀(Q:Exit→Act→World→Prop) (next:Act→World→Prop),
  (∀out γ w',K out→Below w.heap.size w w'→Made (r.add' σ γ) out γ w w'→next (a.put o.dst (out.s.den (r.add' σ γ))) w')→o.wp P a w next Q
def N6(P:Program)(w0:World)(o:Oper)(σ:St)(K:Out→Prop): Prop:=∃out,K out∧aF P w0 o σ fun u=>u=out
section
variable {P:Program} {w0:World} {o:Oper} {σ:St} {K:Out→Prop}
theorem gD(r:Env)(s:SV)(w:World): Made r ⟨s,none,none⟩ Gh.no w w :=
 ⟨rfl,(fun _ _ h=>nomatch h),(fun _ h=>nomatch h),(fun _ _ h=>nomatch h)⟩
theorem mo(s:SV)(h:K ⟨s,none,none⟩)(hs:σ.lt s=true)(hr:∀r a w,See w0 σ r a w→(execOp a.eval o).run P w=.ok (.value (s.den r)) w): N6 P w0 o σ K:=⟨_,h,fun r a w hw Q next hn=>by
 have h1:=hn _ Gh.no w rfl (Below.refl _ _) (gD _ _ _)
 rw[IT hs]at h1
 unfold Oper.wp
 rw[hr r a w hw]
 exact h1⟩
theorem eu(s:SV)(t:TypeId)(cs:List SV)(h:K ⟨s,some (t,cs),none⟩)(hc:σ.ltL cs=true)(hr:∀r a w,See w0 σ r a w→(execOp a.eval o).run P w=.ok (.value (s.den (r.add' σ ⟨w.heap.size,.bool false,fun _=>False⟩))) (w.alloc (.cells (QI r cs).toArray t))): N6 P w0 o σ K:=⟨_,h,fun r a w hw Q next hn=>by
 unfold Oper.wp
 rw[hr r a w hw]
 refine hn _ ⟨w.heap.size,.bool false,fun _=>False⟩ _ rfl (b1 w _) ⟨rfl,fun t' cs' e=>?_,(fun _ h=>nomatch h),(fun _ _ _ h=>nomatch h)⟩
 simp only[Option.some.injEq,Prod.mk.injEq]at e
 obtain⟨rfl,rfl⟩:=e
 rw[MZ hc]
 exact⟨Bx.new w _ _,L3 _⟩⟩
end
def Ks{α:Type}: List α→Nat→Option α
 | [],_=>none
 | x::_,0=>some x
 | _::l,n+1=>Ks l n
theorem AS{α:Type}: ∀(l:List α) (n:Nat),Ks l n=l[n]?
 | [],_=>by simp[Ks]
 | x::l,0=>rfl
 | x::l,n+1=>by simpa [Ks]using AS l n
def ET(n:Nat): Bool:=!Nat.beq n 0
theorem Kz{n:Nat}(h:ET n=true): n≠0:=by
 rintro rfl;cases h
theorem AJ{α:Type}{l:List α}(h:ib l=true): l≠[]:=by
 rintro rfl;cases h
theorem VY{r:Env}{l:List SV}{n:Nat}{s:SV}(h:Ks l n=some s): (QI r l)[n]?=some (s.den r):=by
 rw[Xi,List.getElem?_map,← AS,h];rfl
theorem AG(r:Env)(l:List SV)(o n:Nat): QI r ((l.drop o).take n)=((QI r l).drop o).take n:=by simp[Xi,List.map_take,List.map_drop]
section
variable {P:Program} {w:World} {g o:Nat} {t bt:TypeId} {cs:List Value} {ti:TI}
theorem Ch(hi:XT P t=some ti)(ha:ti.k.agg=true)(hb:Bx w g bt cs.toArray)(hn:o+ti.size≤cs.length):
  (Instr.loadAt t (.pointer (some ⟨g,o,none⟩))).run P w=.ok (.agg ((cs.drop o).take ti.size).toArray) w:=by
 have hl:((cs.drop o).take ti.size).length=ti.size:=by rw[Rt,Tt];omega
 have h1:=run_loadCells_list (P:=P) w ⟨g,o,none⟩ ((cs.drop o).take ti.size) (fun j v hj=>by
  rw[Q9,hb.cel]
  have h2:j<ti.size:=by rw[← hl];exact(List.getElem?_eq_some_iff.1 hj).1
  rw[List.getElem?_take_of_lt h2,List.getElem?_drop]at hj
  simpa using hj)
 rw[hl]at h1
 simp[Instr.loadAt,Instr.sureAddr,loadVar,Ig hi,ha,DO hi,h1]
theorem A9{v:Value}(hi:XT P t=some ti)(ha:ti.k.agg=false)(hb:Bx w g bt cs.toArray)(hv:cs[o]?=some v):
  (Instr.loadAt t (.pointer (some ⟨g,o,none⟩))).run P w=.ok v w:=by
 have h1:w.cell? ⟨g,o,none⟩=some v:=by rw[hb.cel];simpa using hv
 simp[Instr.loadAt,Instr.sureAddr,loadVar,Ig hi,ha,h1]
theorem GQ:∀(vs:List Value) (k:Nat) (w:World) (g:Nat),(VQ w g k vs).heap.size=w.heap.size
 | [],_,_,_=>rfl
 | v::vs,k,w,g=>by
  show(VQ (w.setCell ⟨g,k,none⟩ v) g (k+1) vs).heap.size=_
  rw[GQ vs];simp[World.setCell]
theorem B7:∀(vs:List Value) (i:Nat) (w:World) (cs:Array Value),Bx w g bt cs→o+i+vs.length≤cs.size→(∀v,v∈vs→v.oneCell'=true) →
  (storeCells ⟨g,o,none⟩ vs i).run P w=.ok () (VQ w g (o+i) vs)
 | [],i,w,cs,_,_,_=>rfl
 | v::vs,i,w,cs,hb,hn,h1=>by
  have hlt:o+i<cs.size:=by simp at hn;omega
  have hc:w.cell? ⟨g,o+i,none⟩=some cs[o+i]:=by
   rw[hb.cel]
   exact Array.getElem?_eq_getElem hlt
  have h2:=B7 vs (i+1) (w.setCell ⟨g,o+i,none⟩ v) (cs.setIfInBounds (o+i) v) (hb.set (o+i) v) (by simp at hn ⊢;omega) (fun u hu=>h1 u (by simp[hu]))
  unfold storeCells
  rw[Sem.run_bind,Q9,run_store _ _ _ _ _ (h1 v (by simp)),hc]
  simp only[hb.free,Bool.false_eq_true,if_false,Result.andThen_ok]
  rw[h2]
  rfl
theorem BI{v:Value}(hi:XT P t=some ti)(hb:Bx w g bt cs.toArray)(hs:v.cells.size=ti.size)(hn:o+ti.size≤cs.length)(h1:∀u,u∈v.cells.toList→u.oneCell'=true):
  (Instr.storeAt t (.pointer (some ⟨g,o,none⟩)) v).run P w=.ok () (VQ w g o v.cells.toList):=by
 have h2:=B7 (P:=P) (g:=g) (bt:=bt) (o:=o) v.cells.toList 0 w cs.toArray hb (by simp[hs];omega) h1
 simp[Instr.storeAt,Instr.sureAddr,storeVar,DO hi,hs]at h2 ⊢
 exact h2
theorem ei{fd:Array Field}{k off sz:Nat}{ag:Option Bool}(h:Ks (fd.toList.map fun f=>(f.offset,IW P f.type,OK P f.type)) k=some (off,sz,ag)): ∃f,fd[k]?=some f∧f.offset=off∧IW P f.type=sz∧OK P f.type=ag:=by
 rw[AS,List.getElem?_map]at h
 cases e:fd.toList[k]? with
 | none=>rw[e]at h;cases h
 | some f =>
  rw[e]at h
  simp only[T4,Option.some.injEq,Prod.mk.injEq]at h
  exact⟨f,by simpa using e,h.1,h.2.1,h.2.2⟩
theorem Dv{fs:List (Nat×Nat×Option Bool)}{k off sz:Nat}{ag:Option Bool}(hi:XT P t=some ti)(hk:ti.k=.struct fs)(h:Ks fs k=some (off,sz,ag))(hz:sz≠0):
  (Instr.fieldAt t (.pointer (some ⟨g,o,none⟩)) k).run P w=.ok (.pointer (some ⟨g,o+off,none⟩)) w:=by
 obtain⟨fd,h1,rfl⟩:=GI hi hk
 obtain⟨f,h2,rfl,h3,_⟩:=ei h
 simp[Instr.fieldAt,Xq h1,h2,Instr.sureAddr,fieldPlace,Jf h3 hz,hz,Q9]
theorem Mk{e sz:Nat}{l:List Value}(ha:OK P e=some true)(hz:IW P e=sz)(hz0:sz≠0)(off:Nat): (part e l.toArray off).run P w=.ok (.agg ((l.drop off).take sz).toArray) w:=by
 simp[part,OH ha,Jf hz hz0]
theorem Ma{e:Nat}{l:List Value}{v:Value}(ha:OK P e=some false){off:Nat}(hv:l[off]?=some v): (part e l.toArray off).run P w=.ok v w:=by
 simp[part,OH ha,hv]
theorem TA{fs:List (Nat×Nat×Option Bool)}{k off sz:Nat}{l:List Value}(hi:XT P t=some ti)(hk:ti.k=.struct fs)(h:Ks fs k=some (off,sz,some true))(hz:sz≠0):
  (Instr.field t (.agg l.toArray) k).run P w=.ok (.agg ((l.drop off).take sz).toArray) w:=by
 obtain⟨fd,h1,rfl⟩:=GI hi hk
 obtain⟨f,h2,rfl,h3,h4⟩:=ei h
 simp[Instr.field,Xq h1,h2,asAgg,Mk h4 h3 hz]
theorem UX{fs:List (Nat×Nat×Option Bool)}{k off sz:Nat}{l:List Value}{v:Value}(hi:XT P t=some ti)(hk:ti.k=.struct fs)(h:Ks fs k=some (off,sz,some false))(hv:l[off]?=some v):
  (Instr.field t (.agg l.toArray) k).run P w=.ok v w:=by
 obtain⟨fd,h1,rfl⟩:=GI hi hk
 obtain⟨f,h2,rfl,h3,h4⟩:=ei h
 simp[Instr.field,Xq h1,h2,asAgg,Ma h4 hv]
theorem SI{n e sz m:Nat}{ag:Option Bool}{k:IntKind}(hi:XT P t=some ti)(hk:ti.k=.array n e sz ag)(hm:m<n)(hz:sz≠0):
  (Instr.indexAt t (.pointer (some ⟨g,o,none⟩)) (.int k (Int.ofNat m))).run P w=.ok (.pointer (some ⟨g,o+m*sz,none⟩)) w:=by
 obtain⟨h1,h2,_⟩:=K0 hi hk
 simp[Instr.indexAt,asIntOf,Xq h1,Instr.sureAddr,hm,Jf h2 hz,Q9]
theorem FF{n c e sz m:Nat}{ag:Option Bool}{k:IntKind}(hi:XT P t=some ti)(hk:ti.k=.slice e sz ag)(hm:m<n)(hz:sz≠0):
  (Instr.indexAt t (.slice (some ⟨g,o,none⟩) n c) (.int k (Int.ofNat m))).run P w=.ok (.pointer (some ⟨g,o+m*sz,none⟩)) w:=by
 obtain⟨h1,h2,_⟩:=Zp hi hk
 simp[Instr.indexAt,asIntOf,Xq h1,hm,Jf h2 hz,Q9]
theorem SG{n e sz m:Nat}{k:IntKind}{l:List Value}(hi:XT P t=some ti)(hk:ti.k=.array n e sz (some true))(hm:m<n)(hz:sz≠0):
  (Instr.index t (.agg l.toArray) (.int k (Int.ofNat m))).run P w=.ok (.agg ((l.drop (m*sz)).take sz).toArray) w:=by
 obtain⟨h1,h2,h3⟩:=K0 hi hk
 simp[Instr.index,asIntOf,Xq h1,hm,Jf h2 hz,Mk h3 h2 hz]
theorem Uh{n e sz m:Nat}{k:IntKind}{l:List Value}{v:Value}(hi:XT P t=some ti)(hk:ti.k=.array n e sz (some false))(hm:m<n)(hz:sz≠0)(hv:l[m*sz]?=some v):
  (Instr.index t (.agg l.toArray) (.int k (Int.ofNat m))).run P w=.ok v w:=by
 obtain⟨h1,h2,h3⟩:=K0 hi hk
 simp[Instr.index,asIntOf,Xq h1,hm,Jf h2 hz,Ma h3 hv]
theorem FR{m y:Nat}{k:IntKind}{c:BoundsCode}(h:m≤y): (Instr.sliceBound (.int k (m:Int)) y c).run P w=.ok m w:=by
 have h1:(m:Int)≤(y:Int):=by omega
 simp[Instr.sliceBound,asIntOf,h1]
def E3(x:Option Value)(m:Nat): Prop:=(x=none∧m=0)∨∃k,x=some (.int k (Int.ofNat m))
def BS(x:Option Value)(n m:Nat): Prop:=(x=none∧m=n)∨∃k,x=some (.int k (Int.ofNat m))
theorem Js{isS:Bool}{len cap l h:Nat}{lo hi:Option Value}(hl:E3 lo l)(hh:BS hi len h)(h1:l≤h)(h2:h≤cap): (Instr.sliceBounds isS len cap lo hi none).run P w=.ok (l,h,cap) w:=by
 rcases hl with⟨rfl,rfl⟩|⟨k,rfl⟩<;>rcases hh with⟨rfl,rfl⟩|⟨k',rfl⟩ <;>
  simp[Instr.sliceBounds,FR h1,FR h2]
theorem TE{n e sz l h:Nat}{ag:Option Bool}{lo hi:Option Value}(hi0:XT P t=some ti)(hk:ti.k=.array n e sz ag)(hz:sz≠0)(hl:E3 lo l)(hh:BS hi n h)(h1:l≤h)(h2:h≤n):
  (Instr.sliceAt t (.pointer (some ⟨g,o,none⟩)) lo hi none).run P w=.ok (.slice (some ⟨g,if n=l then o else o+l*sz,none⟩) (h-l) (n-l)) w:=by
 obtain⟨h3,h4,_⟩:=K0 hi0 hk
 simp[Instr.sliceAt,Xq h3,Instr.sureAddr,Js hl hh h1 h2,Jf h4 hz]
 split<;>simp_all [Q9]
theorem Ux{n e e' sz l h:Nat}{ag:Option Bool}{te:TI}{lo hi:Option Value}(hi0:XT P t=some ti)(hk:ti.k=.ptr e')(hi1:XT P e'=some te)(hk1:te.k=.array n e sz ag)(hz:sz≠0)(hl:E3 lo l)(hh:BS hi n h)(h1:l≤h)(h2:h≤n):
  (Instr.sliceAt t (.pointer (some ⟨g,o,none⟩)) lo hi none).run P w=.ok (.slice (some ⟨g,if n=l then o else o+l*sz,none⟩) (h-l) (n-l)) w:=by
 have h0:=dO hi0 hk
 obtain⟨h3,h4,_⟩:=K0 hi1 hk1
 simp[Instr.sliceAt,Instr.slice,Xq h0,Xq h3,asAddr,Js hl hh h1 h2,Jf h4 hz]
 split<;>simp_all [Q9]
theorem KY{n c e sz l h:Nat}{ag:Option Bool}{lo hi:Option Value}(hi0:XT P t=some ti)(hk:ti.k=.slice e sz ag)(hz:sz≠0)(hl:E3 lo l)(hh:BS hi n h)(h1:l≤h)(h2:h≤c):
  (Instr.sliceAt t (.slice (some ⟨g,o,none⟩) n c) lo hi none).run P w=.ok (.slice (some ⟨g,if c=l then o else o+l*sz,none⟩) (h-l) (c-l)) w:=by
 obtain⟨h3,h4,_⟩:=Zp hi0 hk
 simp[Instr.sliceAt,Instr.slice,Xq h3,Js hl hh h1 h2,Jf h4 hz]
 split<;>simp_all [Q9]
theorem SB(hi:XT P t=some ti)(hz:ti.zero≠[]): (Instr.alloc t true (.tuple #[])).run P w=.ok (.pointer (some ⟨w.heap.size,0,none⟩)) (w.alloc (.cells ti.zero.toArray t)):=by
 obtain⟨z,h1,h2⟩:=AC hi hz w
 have h3:z.cells=ti.zero.toArray:=by rw[← h2]
 simp[Instr.alloc,h1,newVar,newRow,h3]
theorem gF(v:Value): (Instr.box t v).run P w=.ok (.pointer (some ⟨w.heap.size,0,none⟩)) (w.alloc (.cells v.cells t)):=by
 simp[Instr.box,newVar,newRow]
end
def one(s:SV): Out:=⟨s,none,none⟩
def lit(b:Bool): Out:=⟨.val (.bool b),none,none⟩
def km(op:BinOp)(k:IntKind)(a b:Int)(K:Out→Prop): Prop:=match op with
 | .add=>K (one (.val (.int k (k.wrap (a+b)))))
 | .sub=>K (one (.val (.int k (k.wrap (a-b)))))
 | .mul=>K (one (.val (.int k (k.wrap (a*b)))))
 | .eql=>K (lit (a==b))
 | .neq=>K (lit (a != b))
 | .lss=>K (lit (decide (a<b)))
 | .leq=>K (lit (decide (a≤b)))
 | .gtr=>K (lit (decide (a>b)))
 | .geq=>K (lit (decide (a≥b)))
 | _=>False
def Pn(k k':IntKind): Bool:=match k,k' with
 | .i8,.i8=>true | .i16,.i16=>true | .i32,.i32=>true | .i64,.i64=>true
 | .u8,.u8=>true | .u16,.u16=>true | .u32,.u32=>true | .u64,.u64=>true
 | _,_=>false
theorem CA{k k':IntKind}(h:Pn k k'=true): k=k':=by cases k<;>cases k'<;>first|rfl|(cases h)
def iD(op:BinOp)(K:Out→Prop): Prop:=match op with
 | .eql=>K (lit false)
 | .neq=>K (lit true)
 | _=>False
def k9(tt:List (Nat×TI))(op:BinOp)(t:TypeId)(x y:SV)(K:Out→Prop): Prop:=match x,y with
 | .val (.int k a),.val (.int k' b)=>bif Pn k k' then km op k a b K else False
 | .ptr _ _,.val (.pointer none)=>AB tt t fun ti=>match ti.k with | .ptr _=>iD op K|_=>False
 | .sli _ _ _ _,.val (.slice none _ _)=>AB tt t fun ti=>match ti.k with | .slice _ _ _=>iD op K|_=>False
 | _,_=>False
def po(op:UnOp)(x:SV)(K:Out→Prop): Prop:=match op,x with
 | .not,.val (.bool b)=>K (lit (!b))
 | .neg,.val (.int k n)=>K (one (.val (.int k (k.wrap (0-n)))))
 | _,_=>False
def O8(s:SV)(K:List SV→Prop): Prop:=match s with
 | .agg l=>K l
 | .val (.agg cs)=>K (cs.toList.map SV.val)
 | _=>False
def fo(s:SV)(K:List SV→Prop): Prop:=match s with
 | .tup l=>K l
 | .val (.tuple cs)=>K (cs.toList.map SV.val)
 | _=>False
def Uo(s:SV)(K:Nat→Prop): Prop:=match s with
 | .val (.int _ (.ofNat m))=>K m
 | _=>False
def kx(σ:St)(x:Option Operand)(K:Nat→Prop): Prop:=match x with
 | none=>K 0
 | some x=>JR σ x fun s=>Uo s K
def RM(σ:St)(x:Option Operand)(n:Nat)(K:Nat→Prop): Prop:=match x with
 | none=>K n
 | some x=>JR σ x fun s=>Uo s K
def Ph(l:List SV)(off sz:Nat)(ag:Option Bool)(K:Out→Prop): Prop:=match ag with
 | some true=>bif ET sz then K (one (.agg ((l.drop off).take sz)))else False
 | some false=>JG (Ks l off) fun c=>K (one c)
 | none=>False
def jH(b o _n c l h sz:Nat)(K:Out→Prop): Prop:=bif ET sz&&Nat.ble l h&&Nat.ble h c then K (one (.sli b (bif Nat.beq c l then o else o+l*sz) (h-l) (c-l)))else False
def mL(tt:List (Nat×TI))(t:TypeId)(K:Nat→Nat→Prop): Prop:=AB tt t fun ti=>match ti.k with
 | .array n _ sz _=>K n sz
 | .ptr e=>AB tt e fun te=>match te.k with
  | .array n _ sz _=>K n sz
  | _=>False
 | _=>False
def mE(tt:List (Nat×TI))(t:TypeId)(x:SV)(K:Out→Prop): Prop:=AB tt t fun ti=>match ti.k with
 | .str=>(match x with
  | .val (.string s)=>K (one (.val (.int .i64 s.size)))
  | _=>False)
 | .slice _ _ _=>(match x with
  | .val (.slice _ n _)=>K (one (.val (.int .i64 n)))
  | .sli _ _ n _=>K (one (.val (.int .i64 n)))
  | _=>False)
 | _=>False
def lc:Option (Nat×Nat×Option Bool)→Option (Nat×Nat)
 | some q=>some (q.1,q.2.1)
 | none=>none
def mM(tt:List (Nat×TI))(σ:St)(o:Op)(K:Out→Prop): Prop:=match o with
 | .move x=>JR σ x fun s=>K (one s)
 | .assign x=>JR σ x fun s=>K (one s)
 | .alloc e=>AB tt e fun ti=>bif ib ti.zero then K ⟨.ptr σ.bs.length 0,some (e,ti.zero.map SV.val),none⟩else False
 | .box e x=>JR σ x fun s=>K ⟨.ptr σ.bs.length 0,some (e,s.cells),none⟩
 | .build t ps=>nY σ ps.toList fun ps=>AB tt t fun ti=>bif ib ti.zero then(match ti.k with
  | .struct fs=>bif fs.all (fun q=>ET q.2.1)then JG (Fv (fun i=>lc (Ks fs i)) (ti.zero.map SV.val) ps) fun l=>K (one (.agg l))else False
  | .array _ _ sz _=>bif ET sz then JG (Fv (fun i=>some (i*sz,sz)) (ti.zero.map SV.val) ps) fun l=>K (one (.agg l))else False
  | _=>False)else False
 | .buildSlice t n ps=>nY σ ps.toList fun ps=>AB tt t fun ti=>match ti.k with
  | .slice e sz _=>AB tt e fun te=>bif ib te.zero&&Nat.beq te.size sz&&Nat.beq te.zero.length sz&&Nat.ble (n*sz) 16777216 then
    JG (Fv (fun i=>some (i*sz,sz)) ((i7 te.zero n).map SV.val) ps) fun l=>K ⟨.sli σ.bs.length 0 n n,some (e,l),none⟩else False
  | _=>False
 | .load t x=>JR σ x fun s=>match s with
  | .ptr b o=>JG (Xk σ.bs b) fun p=>AB tt t fun ti=>match ti.k.agg with
   | true=>bif Nat.ble (o+ti.size) p.2.length then K (one (.agg ((p.2.drop o).take ti.size)))else False
   | false=>JG (Ks p.2 o) fun c=>K (one c)
  | _=>False
 | .nilCheck x=>JR σ x fun s=>match s with
  | .ptr _ _=>K (one s)
  | .clo (.func _) _ _=>K (one s)
  | .val (.pointer (some p))=>K (one (.val (.pointer (some p))))
  | _=>False
 | .fieldAddr t x f=>JR σ x fun s=>match s with
  | .ptr b o=>AB tt t fun ti=>match ti.k with
   | .struct fs=>JG (Ks fs f) fun q=>bif ET q.2.1 then K (one (.ptr b (o+q.1)))else False
   | _=>False
  | _=>False
 | .field t x f=>JR σ x fun s=>O8 s fun l=>AB tt t fun ti=>match ti.k with
  | .struct fs=>JG (Ks fs f) fun q=>Ph l q.1 q.2.1 q.2.2 K
  | _=>False
 | .extract x i=>JR σ x fun s=>fo s fun l=>JG (Ks l i) fun c=>K (one c)
 | .makeFunc fn l m=>Wf σ l.toList fun l=>Wf σ m.toList fun m=>K (one (.clo fn l m))
 | .indexAddr t x i=>JR σ x fun s=>JR σ i fun j=>Uo j fun m=>match s with
  | .ptr b o=>AB tt t fun ti=>match ti.k with
   | .array n _ sz _=>bif ET sz&&Nat.blt m n then K (one (.ptr b (o+m*sz)))else False
   | _=>False
  | .sli b o n _=>AB tt t fun ti=>match ti.k with
   | .slice _ sz _=>bif ET sz&&Nat.blt m n then K (one (.ptr b (o+m*sz)))else False
   | _=>False
  | _=>False
 | .index t x i=>JR σ x fun s=>JR σ i fun j=>Uo j fun m=>O8 s fun l=>AB tt t fun ti=>match ti.k with
  | .array n _ sz ag=>bif ET sz&&Nat.blt m n then Ph l (m*sz) sz ag K else False
  | _=>False
 | .slice t x lo hi none=>JR σ x fun s=>kx σ lo fun l=>match s with
  | .ptr b o=>mL tt t fun n sz=>RM σ hi n fun h=>jH b o n n l h sz K
  | .sli b o n c=>AB tt t fun ti=>match ti.k with
   | .slice _ sz _=>RM σ hi n fun h=>jH b o n c l h sz K
   | _=>False
  | _=>False
 | .binOp op t x y _=>JR σ x fun s=>JR σ y fun u=>k9 tt op t s u K
 | .unOp op _ x=>JR σ x fun s=>po op s K
 | .convert s d x=>JR σ x fun u=>AB tt s fun _=>AB tt d fun ti=>match ti.k with
  | .int k=>(match u with
   | .val (.int _ n)=>K (one (.val (.int k (k.wrap n))))
   | _=>False)
  | _=>False
 | .pick c x y=>JR σ c fun s=>match s with
  | .val (.bool v)=>(match v with
   | true=>JR σ x fun s=>K (one s)
   | false=>JR σ y fun s=>K (one s))
  | _=>False
 | .call c=>match c.callee with
  | .builtin .len=>match c.args.toList,c.argTypes.toList with
   | [x],[t]=>JR σ x fun s=>mE tt t s K
   | _,_=>False
  | _=>False
 | _=>False
section
variable {P:Program} {tt:List (Nat×TI)} {w0:World} {σ:St} {K:Out→Prop}
theorem O4(hK:∀out,K out→σ.fits out=true){s:SV}(h:K (one s)): σ.lt s=true:=(L6.1 (hK _ h)).1
theorem Xt{x:Sem Value}{v:Value}{w w':World}(h:x.run P w=.ok v w'): (do pure (.value (← x)):Sem Next).run P w=.ok (.value v) w':=by
 simp[h]
theorem Yd(hK:∀out,K out→σ.fits out=true){o:Oper}(s:SV)(h:K (one s))(hr:∀r a w,See w0 σ r a w→(execOp a.eval o).run P w=.ok (.value (s.den r)) w): N6 P w0 o σ K :=
 mo s h (O4 hK h) hr
theorem Np(hK:∀out,K out→σ.fits out=true){o:Oper}{l:List SV}{off sz:Nat}{ag:Option Bool}(h:Ph l off sz ag K)(h1:ag=some true→sz≠0→∀r a w,See w0 σ r a w→(execOp a.eval o).run P w=.ok (.value (.agg (((QI r l).drop off).take sz).toArray)) w)(h2:ag=some false→∀r a w v,See w0 σ r a w→(QI r l)[off]?=some v→(execOp a.eval o).run P w=.ok (.value v) w): N6 P w0 o σ K:=by
 unfold Ph at h
 split at h
 ·obtain⟨hz,h⟩:=XS h
  refine Yd hK _ h fun r a w hw=>?_
  simp only[SV.den,AG]
  exact h1 rfl (Kz hz) r a w hw
 ·obtain⟨c,hc,h⟩:=QY h
  exact Yd hK _ h fun r a w hw=>h2 rfl r a w _ hw (VY hc)
 ·exact h.elim
theorem Cm{s:SV}{K:List SV→Prop}(h:O8 s K): ∃l,K l∧∀r,s.den r=.agg (QI r l).toArray:=by
 unfold O8 at h
 split at h
 ·exact⟨_,h,fun r=>rfl⟩
 ·exact⟨_,h,fun r=>by simp[SV.den,Ge]⟩
 ·exact h.elim
theorem Fc{s:SV}{K:List SV→Prop}(h:fo s K): ∃l,K l∧∀r,s.den r=.tuple (QI r l).toArray:=by
 unfold fo at h
 split at h
 ·exact⟨_,h,fun r=>rfl⟩
 ·exact⟨_,h,fun r=>by simp[SV.den,Ge]⟩
 ·exact h.elim
theorem Gv{s:SV}{K:Nat→Prop}(h:Uo s K): ∃k m,s=.val (.int k (.ofNat m))∧K m:=by
 unfold Uo at h
 split at h
 ·exact⟨_,_,rfl,h⟩
 ·exact h.elim
theorem TP{x:Option Operand}{K:Nat→Prop}(h:kx σ x K): ∃m,K m∧∀r a w,See w0 σ r a w→E3 (x.map a.eval) m:=by
 unfold kx at h
 split at h
 ·exact⟨0,h,fun _ _ _ _=>.inl ⟨rfl,rfl⟩⟩
 ·obtain⟨s,h1,h2⟩:=Qy h
  obtain⟨k,m,rfl,h3⟩:=Gv h2
  exact⟨m,h3,fun r a w hw=>.inr ⟨k,by rw[T4,(Qs hw h1).1];rfl⟩⟩
theorem Ek{x:Option Operand}{n:Nat}{K:Nat→Prop}(h:RM σ x n K): ∃m,K m∧∀r a w,See w0 σ r a w→BS (x.map a.eval) n m:=by
 unfold RM at h
 split at h
 ·exact⟨n,h,fun _ _ _ _=>.inl ⟨rfl,rfl⟩⟩
 ·obtain⟨s,h1,h2⟩:=Qy h
  obtain⟨k,m,rfl,h3⟩:=Gv h2
  exact⟨m,h3,fun r a w hw=>.inr ⟨k,by rw[T4,(Qs hw h1).1];rfl⟩⟩
theorem RH(hK:∀out,K out→σ.fits out=true){o:Oper}{b p n c l h sz:Nat}(hs:jH b p n c l h sz K)(hr:sz≠0→l≤h→h≤c→∀r a w,See w0 σ r a w→(execOp a.eval o).run P w=.ok (.value (.slice (some ⟨r.b b,if c=l then p else p+l*sz,none⟩) (h-l) (c-l))) w): N6 P w0 o σ K:=by
 obtain⟨hc,hs⟩:=XS hs
 obtain⟨hc,h3⟩:=L6.1 hc
 obtain⟨h1,h2⟩:=L6.1 hc
 refine Yd hK _ hs fun r a w hw=>?_
 rw[hr (Kz h1) (Lr h2) (Lr h3) r a w hw]
 simp only[SV.den]
 congr 5
 by_cases e:c=l
 ·rw[if_pos e,show Nat.beq c l=true from by subst e;exact Nat.beq_refl c];rfl
 ·rw[if_neg e]
  cases e2:Nat.beq c l with
  | true=>exact absurd (Lc e2) e
  | false=>rfl
theorem TM(hT:YF P tt){t:TypeId}{K:Nat→Nat→Prop}(h:mL tt t K): ∃n sz,K n sz∧(sz≠0→∀(w:World) g o lo hi l h,E3 lo l→BS hi n h→l≤h→h≤n →
  (Instr.sliceAt t (.pointer (some ⟨g,o,none⟩)) lo hi none).run P w=.ok (.slice (some ⟨g,if n=l then o else o+l*sz,none⟩) (h-l) (n-l)) w):=by
 obtain⟨ti,h1,h⟩:=Xa hT h
 split at h
 ·rename_i hk
  exact⟨_,_,h,fun hz w g o lo hi l h' hl hh a b=>TE h1 hk hz hl hh a b⟩
 ·rename_i hk
  obtain⟨te,h2,h⟩:=Xa hT h
  split at h
  ·rename_i hk2
   exact⟨_,_,h,fun hz w g o lo hi l h' hl hh a b=>Ux h1 hk h2 hk2 hz hl hh a b⟩
  ·exact h.elim
 ·exact h.elim
theorem eQ(z:List Value)(hz:z≠[]): ∀(n i:Nat),i<n*z.length→(i7 z n)[i]?=z[i % z.length]?
 | 0,i,h=>by simp at h
 | n+1,i,h=>by
  have hl:0<z.length:=List.length_pos_iff.2 hz
  rw[Rr]at h
  show(z++i7 z n)[i]?=_
  rcases Ra i z.length with h1|h1
  ·rw[List.getElem?_append_left h1,Lz h1]
  ·rw[List.getElem?_append_right h1,eQ z hz n (i-z.length) (by omega),← Nat.mod_eq_sub_mod h1]
theorem Pj(z:List Value): ∀n,(i7 z n).length=n*z.length
 | 0=>by simp[i7]
 | n+1=>by simp[i7,Pj z n,Rr];omega
theorem TF(z:Array Value)(hz:z.toList≠[])(n:Nat): (Array.range (n*z.size)).map (fun i=>z[i % z.size]!)=(i7 z.toList n).toArray:=by
 apply Array.ext'
 apply List.ext_getElem?
 intro i
 have hl:0<z.size:=by rw[← Tc];exact List.length_pos_iff.2 hz
 by_cases hi:i<n*z.size
 ·have h1:=eQ z.toList hz n i (by simpa using hi)
  have hm:i % z.size<z.size:=Ly _ hl
  rw[h1]
  simp[hi,hm]
 ·rw[List.getElem?_eq_none (by simp;omega),List.getElem?_eq_none (by rw[Pj];simp;omega)]
end
section
variable {P:Program} {tt:List (Nat×TI)} {w0:World} {σ:St} {K:Out→Prop}
theorem Nq{α β:Type}{g:α→Sem β}{f:α→β}{w:World}: ∀ {l:List α},(∀x,x∈l→(g x).run P w=.ok (f x) w)→(l.mapM g).run P w=.ok (l.map f) w
 | [],_=>rfl
 | x::l,h=>by
  rw[List.mapM_cons,Sem.run_bind,h x (by simp),Result.andThen_ok,Sem.run_bind,Nq (l:=l) fun y hy=>h y (by simp[hy])]
  rfl
theorem OT{fd:Array Field}(h:∀f,f∈fd.toList→IW P f.type≠0)(w:World): (fd.mapM fun(f:Field)=>(do pure (f.offset,← sizeOf f.type):Sem (Nat×Nat))).run P w=.ok (fd.map fun f=>(f.offset,IW P f.type)) w:=by
 rw[Array.mapM_eq_mapM_toList,Sem.run_map,Nq (f:=fun f=>(f.offset,IW P f.type)) fun f hf=>by simp[Jf rfl (h f hf)]]
 rw[Result.andThen_ok]
 congr 1
 apply Array.ext'
 simp
theorem Hm(_hT:YF P tt){t:TypeId}{ti:TI}{fs:List (Nat×Nat×Option Bool)}(hi:XT P t=some ti)(hz:ti.zero≠[])(hk:ti.k=.struct fs)(hf:(fs.all fun q=>ET q.2.1)=true){w:World}{ps:Array (Nat×Value)}{l:List Value}(h:Instr.fill (fun i=>lc (Ks fs i)) ti.zero.toArray ps.toList=some l.toArray): (Instr.build t ps).run P w=.ok (.agg l.toArray) w:=by
 obtain⟨fd,h1,rfl⟩:=GI hi hk
 obtain⟨z,h2,h3⟩:=AC hi hz w
 have h4:z.cells=ti.zero.toArray:=by rw[← h3]
 have hall:∀f,f∈fd.toList→IW P f.type≠0:=fun f hf2=>by
  have:=Ls.1 hf (f.offset,IW P f.type,OK P f.type) (R5.2 ⟨f,hf2,rfl⟩)
  exact Kz this
 have hp:(fun i=>((fd.map fun f=>(f.offset,IW P f.type))[i]?:Option (Nat×Nat)))=fun i=>lc (Ks (fd.toList.map fun f=>(f.offset,IW P f.type,OK P f.type)) i):=by
  funext i
  rw[AS,List.getElem?_map,Array.getElem?_map]
  simp only[Array.getElem?_toList]
  cases fd[i]?<;>rfl
 unfold Instr.build
 rw[Sem.run_bind,h2,Result.andThen_ok,Sem.run_bind,Xq h1,Result.andThen_ok]
 simp only[Sem.run_bind,OT hall,Result.andThen_ok,h4]
 rw[hp,h]
 rfl
theorem MJ(_hT:YF P tt){t:TypeId}{ti:TI}{n e sz:Nat}{ag:Option Bool}(hi:XT P t=some ti)(hz:ti.zero≠[])(hk:ti.k=.array n e sz ag)(hs:sz≠0){w:World}{ps:Array (Nat×Value)}{l:List Value}(h:Instr.fill (fun i=>some (i*sz,sz)) ti.zero.toArray ps.toList=some l.toArray): (Instr.build t ps).run P w=.ok (.agg l.toArray) w:=by
 obtain⟨h1,h5,_⟩:=K0 hi hk
 obtain⟨z,h2,h3⟩:=AC hi hz w
 have h4:z.cells=ti.zero.toArray:=by rw[← h3]
 unfold Instr.build
 rw[Sem.run_bind,h2,Result.andThen_ok,Sem.run_bind,Xq h1,Result.andThen_ok]
 simp only[Sem.run_bind,Jf h5 hs,Result.andThen_ok,h4,h]
 rfl
theorem Mp{t:TypeId}{ti te:TI}{e sz n:Nat}{ag:Option Bool}(hi:XT P t=some ti)(hk:ti.k=.slice e sz ag)(he:XT P e=some te)(hz:te.zero≠[])(hs:te.size=sz)(hl:te.zero.length=sz)(hb:n*sz≤16777216){w:World}{ps:Array (Nat×Value)}{l:List Value}(h:Instr.fill (fun i=>some (i*sz,sz)) (i7 te.zero n).toArray ps.toList=some l.toArray): (Instr.buildSlice t n ps).run P w=.ok (.slice (some ⟨w.heap.size,0,none⟩) n n) (w.alloc (.cells l.toArray e)):=by
 obtain⟨h1,_,_⟩:=Zp hi hk
 obtain⟨z,h2,h3⟩:=AC he hz w
 have h4:z.cells=te.zero.toArray:=by rw[← h3]
 have h5:=TF z.cells (by rw[h3];exact hz) n
 have h6:z.cells.size=sz:=by rw[h4];simpa using hl
 rw[h3,h6]at h5
 have h7:¬ n*sz>2^24:=by simpa using hb
 unfold Instr.buildSlice
 rw[Sem.run_bind,Xq h1,Result.andThen_ok]
 by_cases hn:n*sz=0
 ·have h0:sz≠0:=fun e0=>hz (Sr (hl.trans e0))
  have hn0:n=0:=(Nat.mul_eq_zero.1 hn).resolve_right h0
  subst hn0
  have h8:Instr.fill (fun i=>some (i*sz,sz)) #[] ps.toList=some l.toArray:=h
  simp only[Sem.run_bind,DO he,hs,Result.andThen_ok,if_neg h7,if_pos hn,Sem.run_pure]
  have h9:∀f:Nat→Value,Array.map f (Array.range 0)=#[]:=fun f=>(by apply Array.eq_empty_of_size_eq_zero;simp)
  simp[h9,h8,newRow]
 ·simp only[Sem.run_bind,DO he,hs,Result.andThen_ok,if_neg h7,if_neg hn,Sem.run_pure,h2,h6,h5,h]
  simp[newRow]
theorem gZ(hK:∀out,K out→σ.fits out=true){o:Oper}{op:BinOp}{t u:TypeId}{x y:Operand}{k:IntKind}{a b:Int}(ho:o.op=.binOp op t x y u)(h:km op k a b K)(hx:∀r A w,See w0 σ r A w→A.eval x=.int k a)(hy:∀r A w,See w0 σ r A w→A.eval y=.int k b): N6 P w0 o σ K:=by
 have key:∀s,K (one s)→(∀r w,(binOp op t (.int k a) (.int k b)).run P w=.ok (s.den r) w)→N6 P w0 o σ K:=fun s h1 h2=>Yd hK s h1 fun r A w hw=>by
  have h3:execOp A.eval o=(do pure (.value (← (do eqGuard op t x y (A.eval x) (A.eval y);binOp op t (A.eval x) (A.eval y)))):Sem Next):=by
   unfold execOp;rw[ho]
  rw[h3]
  refine Xt ?_
  rw[hx r A w hw,hy r A w hw]
  have h4:(eqGuard op t x y (.int k a) (.int k b)).run P w=.ok () w:=by
   unfold eqGuard
   cases op<;>rfl
  simp[h4,h2 r w]
 unfold km at h
 split at h
 ·exact key _ h fun r w=>by simp[binOp,Op.intArith,SV.den]
 ·exact key _ h fun r w=>by simp[binOp,Op.intArith,SV.den]
 ·exact key _ h fun r w=>by simp[binOp,Op.intArith,SV.den]
 ·exact key _ h fun r w=>by simp[binOp,Op.intCmp,SV.den]
 ·exact key _ h fun r w=>by simp[binOp,Op.intCmp,SV.den]
 ·exact key _ h fun r w=>by simp[binOp,Op.intCmp,SV.den]
 ·exact key _ h fun r w=>by simp[binOp,Op.intCmp,SV.den]
 ·exact key _ h fun r w=>by simp[binOp,Op.intCmp,SV.den]
 ·exact key _ h fun r w=>by simp[binOp,Op.intCmp,SV.den]
 ·exact h.elim
theorem RK{op:BinOp}{t:TypeId}{x y:Operand}{v u:Value}{b:Bool}{w:World}(hop:op=.eql∧b=false∨op=.neq∧b=true)(hv:(∃p e,v=.pointer (some p)∧u=.pointer none∧P.underlying t=some (.pointer e))∨∃p n c n' c' e,v=.slice (some p) n c∧u=.slice none n' c'∧P.underlying t=some (.slice e)):
  (do eqGuard op t x y v u;binOp op t v u:Sem Value).run P w=.ok (.bool b) w:=by
 have h1:(eqGuard op t x y v u).run P w=.ok () w:=by
  unfold eqGuard
  rcases hop with⟨rfl,_⟩|⟨rfl,_⟩<;>rcases hv with⟨p,e,rfl,rfl,_⟩|⟨p,n,c,n',c',e,rfl,rfl,_⟩<;>rfl
 rw[Sem.run_bind,h1,Result.andThen_ok]
 have h2:(Op.equal t v u).run P w=.ok false w:=by
  unfold Op.equal
  rw[show Op.maxDepth=9999+1 from rfl]
  unfold Op.equalIn
  rcases hv with⟨p,e,rfl,rfl,h⟩|⟨p,n,c,n',c',e,rfl,rfl,h⟩<;>(rw[Sem.run_bind,Xq h,Result.andThen_ok];rfl)
 rcases hop with⟨rfl,rfl⟩|⟨rfl,rfl⟩
 ·have h3:binOp .eql t v u=(do pure (.bool (← Op.equal t v u)):Sem Value):=by rcases hv with⟨p,e,rfl,rfl,h⟩|⟨p,n,c,n',c',e,rfl,rfl,h⟩<;>rfl
  simp[h3,h2]
 ·have h3:binOp .neq t v u=(do pure (.bool (!(← Op.equal t v u))):Sem Value):=by rcases hv with⟨p,e,rfl,rfl,h⟩|⟨p,n,c,n',c',e,rfl,rfl,h⟩<;>rfl
  simp[h3,h2]
theorem O2(hK:∀out,K out→σ.fits out=true){o:Oper}{op:BinOp}{t u:TypeId}{x y:Operand}(ho:o.op=.binOp op t x y u)(h:iD op K)(hv:∀r A w,See w0 σ r A w→(∃p e,A.eval x=.pointer (some p)∧A.eval y=.pointer none∧P.underlying t=some (.pointer e))∨∃p n c n' c' e,A.eval x=.slice (some p) n c∧A.eval y=.slice none n' c'∧P.underlying t=some (.slice e)): N6 P w0 o σ K:=by
 have h3:∀A:Act,execOp A.eval o=(do pure (.value (← (do eqGuard op t x y (A.eval x) (A.eval y);binOp op t (A.eval x) (A.eval y)))):Sem Next):=fun A=>by
  unfold execOp;rw[ho]
 unfold iD at h
 split at h
 ·exact Yd hK _ h fun r A w hw=>by rw[h3];exact Xt (RK (.inl ⟨rfl,rfl⟩) (hv r A w hw))
 ·exact Yd hK _ h fun r A w hw=>by rw[h3];exact Xt (RK (.inr ⟨rfl,rfl⟩) (hv r A w hw))
 ·exact h.elim
end
section
variable {P:Program} {tt:List (Nat×TI)} {w0:World} {σ:St} {K:Out→Prop}
theorem Zz{α β:Type}(f:α→β)(x:Array α)(l:List β)(h:x.toList.map f=l): x.map f=l.toArray:=by
 apply Array.ext';simpa using h
theorem fq(hT:YF P tt)(hK:∀out,K out→σ.fits out=true){o:Oper}{op:BinOp}{t u:TypeId}{x y:Operand}(ho:o.op=.binOp op t x y u){s s':SV}(hx:lY σ x=some s)(hy:lY σ y=some s')(h:k9 tt op t s s' K): N6 P w0 o σ K:=by
 have ex:=fun r A w (hw:See w0 σ r A w)=>(Qs hw hx).1
 have ey:=fun r A w (hw:See w0 σ r A w)=>(Qs hw hy).1
 unfold k9 at h
 split at h
 ·obtain⟨hk,h'⟩:=XS h
  clear h
  obtain rfl:=CA hk
  exact gZ hK ho h' (fun r A w hw=>ex r A w hw) (fun r A w hw=>ey r A w hw)
 ·obtain⟨ti,h1,h⟩:=Xa hT h
  split at h
  ·rename_i hk
   exact O2 hK ho h fun r A w hw=>.inl ⟨_,_,ex r A w hw,ey r A w hw,dO h1 hk⟩
  ·exact h.elim
 ·obtain⟨ti,h1,h⟩:=Xa hT h
  split at h
  ·rename_i hk
   exact O2 hK ho h fun r A w hw=>.inr ⟨_,_,_,_,_,_,ex r A w hw,ey r A w hw,(Zp h1 hk).1⟩
  ·exact h.elim
 ·exact h.elim
theorem eZ(hT:YF P tt)(hK:∀out,K out→σ.fits out=true){o:Oper}{_ty:TypeId}{x:Operand}{t:TypeId}{c:Call}(ho:o.op=.call c)(hc:c.callee=.builtin .len)(ha:c.args=#[x])(ht:c.argTypes=#[t]){s:SV}(hx:lY σ x=some s)(h:mE tt t s K): N6 P w0 o σ K:=by
 have key:∀n:Int,K (one (.val (.int .i64 n)))→(∀r A w,See w0 σ r A w→(Builtin.len_ #[t] o.type #[A.eval x]).run P w=.ok (.int .i64 n) w)→N6 P w0 o σ K:=fun n h1 h2=>Yd hK _ h1 fun r A w hw=>by
  have h3:=h2 r A w hw
  unfold execOp
  rw[ho]
  simp[resolve,hc,ha,ht,invoke,builtin,h3,SV.den]
 obtain⟨ti,h1,h⟩:=Xa hT h
 split at h
 ·rename_i hk
  split at h
  ·exact key _ h fun r A w hw=>by rw[(Qs hw hx).1];simp[Builtin.len_,Xq (bN h1 hk),SV.den,goInt]
  ·exact h.elim
 ·rename_i hk
  split at h
  ·exact key _ h fun r A w hw=>by rw[(Qs hw hx).1];simp[Builtin.len_,Xq (Zp h1 hk).1,SV.den,goInt]
  ·exact key _ h fun r A w hw=>by rw[(Qs hw hx).1];simp[Builtin.len_,Xq (Zp h1 hk).1,SV.den,goInt]
  ·exact h.elim
 ·exact h.elim
theorem NG(hT:YF P tt)(hK:∀out,K out→σ.fits out=true){o:Oper}(h:mM tt σ o.op K): N6 P w0 o σ K:=by
 have ex:∀ {op:Op},o.op=op→∀ev,execOp ev o=execOp ev { o with op:=op }:=fun e ev=>by rw[← e]
 cases e:o.op<;>rw[e]at h
 case move x =>
  obtain⟨s,h1,h⟩:=Qy h
  exact Yd hK _ h fun r A w hw=>by rw[ex e,← (Qs hw h1).1];rfl
 case assign x =>
  obtain⟨s,h1,h⟩:=Qy h
  exact Yd hK _ h fun r A w hw=>by rw[ex e,← (Qs hw h1).1];rfl
 case alloc t =>
  obtain⟨ti,h1,h⟩:=Xa hT h
  obtain⟨hz,h⟩:=XS h
  refine eu _ _ _ h (I2 _ _ _) fun r A w hw=>?_
  rw[ex e,Ge]
  have h2:=Xt (SB (w:=w) h1 (AJ hz))
  refine h2.trans ?_
  simp only[SV.den,Env.add',Env.add,Xw]
 case box t x =>
  obtain⟨s,h1,h⟩:=Qy h
  refine eu _ _ _ h (L6.1 (hK _ h)).2 fun r A w hw=>?_
  rw[ex e,Bw hw (Qs hw h1).2]
  refine(Xt (gF _)).trans ?_
  rw[(Qs hw h1).1]
  simp only[SV.den,Env.add',Env.add,Xw]
 case nilCheck x =>
  obtain⟨s,h1,h⟩:=Qy h
  split at h
  ·exact Yd hK _ h fun r A w hw=>by
    have h2:=(Qs hw h1).1
    rw[ex e];unfold execOp;simp only[h2,SV.den];rfl
  ·exact Yd hK _ h fun r A w hw=>by
    have h2:=(Qs hw h1).1
    rw[ex e];unfold execOp;simp only[h2,SV.den];rfl
  ·exact Yd hK _ h fun r A w hw=>by
    have h2:=(Qs hw h1).1
    rw[ex e];unfold execOp;simp only[h2,SV.den];rfl
  ·exact h.elim
 case extract x i =>
  obtain⟨s,h1,h⟩:=Qy h
  obtain⟨l,h,hl⟩:=Fc h
  obtain⟨c,hc,h⟩:=QY h
  refine Yd hK _ h fun r A w hw=>?_
  rw[ex e]
  refine Xt ?_
  rw[(Qs hw h1).1,hl]
  simp[Instr.extract,VY hc]
 case makeFunc fn l m =>
  obtain⟨l',h,h1⟩:=Za (w0:=w0) h
  obtain⟨m',h,h2⟩:=Za (w0:=w0) h
  refine Yd hK _ h fun r A w hw=>?_
  rw[ex e]
  refine Xt ?_
  rw[Zz _ _ _ (h1 r A w hw).1,Zz _ _ _ (h2 r A w hw).1]
  rfl
 case load t x =>
  obtain⟨s,h1,h⟩:=Qy h
  split at h
  ·obtain⟨p,h2,h⟩:=QY h
   obtain⟨ti,h3,h⟩:=Xa hT h
   split at h
   ·rename_i ha
    obtain⟨hb,h⟩:=XS h
    refine Yd hK _ h fun r A w hw=>?_
    rw[ex e]
    refine Xt ?_
    rw[(Qs hw h1).1]
    simp only[SV.den,AG]
    exact Ch h3 ha (hw.bs _ p.1 p.2 h2).1 (by rw[Z9];exact Lr hb)
   ·rename_i ha
    obtain⟨c,hc,h⟩:=QY h
    refine Yd hK _ h fun r A w hw=>?_
    rw[ex e]
    refine Xt ?_
    rw[(Qs hw h1).1]
    exact A9 h3 ha (hw.bs _ p.1 p.2 h2).1 (VY hc)
  ·exact h.elim
 case fieldAddr t x f =>
  obtain⟨s,h1,h⟩:=Qy h
  split at h
  ·obtain⟨ti,h3,h⟩:=Xa hT h
   split at h
   ·rename_i hk
    obtain⟨q,h4,h⟩:=QY h
    obtain⟨hz,h⟩:=XS h
    refine Yd hK _ h fun r A w hw=>?_
    rw[ex e]
    refine Xt ?_
    rw[(Qs hw h1).1]
    exact Dv h3 hk h4 (Kz hz)
   ·exact h.elim
  ·exact h.elim
 case field t x f =>
  obtain⟨s,h1,h⟩:=Qy h
  obtain⟨l,h,hl⟩:=Cm h
  obtain⟨ti,h3,h⟩:=Xa hT h
  split at h
  ·rename_i hk
   obtain⟨q,h4,h⟩:=QY h
   obtain⟨off,sz,ag⟩:=q
   refine Np hK h (fun ha hz r A w hw=>?_) (fun ha r A w v hw hv=>?_)
   ·simp only at ha;subst ha
    rw[ex e]
    refine Xt ?_
    rw[(Qs hw h1).1,hl]
    exact TA h3 hk h4 hz
   ·simp only at ha;subst ha
    rw[ex e]
    refine Xt ?_
    rw[(Qs hw h1).1,hl]
    exact UX h3 hk h4 hv
  ·exact h.elim
 case index t x i =>
  obtain⟨s,h1,h⟩:=Qy h
  obtain⟨j,h2,h⟩:=Qy h
  obtain⟨k,m,rfl,h⟩:=Gv h
  obtain⟨l,h,hl⟩:=Cm h
  obtain⟨ti,h3,h⟩:=Xa hT h
  split at h
  ·rename_i hk
   obtain⟨hb,h⟩:=XS h
   obtain⟨hz,hm⟩:=L6.1 hb
   refine Np hK h (fun ha hz' r A w hw=>?_) (fun ha r A w v hw hv=>?_)
   ·subst ha
    rw[ex e]
    refine Xt ?_
    rw[(Qs hw h1).1,(Qs hw h2).1,hl]
    exact SG h3 hk (QX hm) hz'
   ·subst ha
    rw[ex e]
    refine Xt ?_
    rw[(Qs hw h1).1,(Qs hw h2).1,hl]
    exact Uh h3 hk (QX hm) (Kz hz) hv
  ·exact h.elim
 case indexAddr t x i =>
  obtain⟨s,h1,h⟩:=Qy h
  obtain⟨j,h2,h⟩:=Qy h
  obtain⟨k,m,rfl,h⟩:=Gv h
  split at h
  ·obtain⟨ti,h3,h⟩:=Xa hT h
   split at h
   ·rename_i hk
    obtain⟨hb,h⟩:=XS h
    obtain⟨hz,hm⟩:=L6.1 hb
    refine Yd hK _ h fun r A w hw=>?_
    rw[ex e]
    refine Xt ?_
    rw[(Qs hw h1).1,(Qs hw h2).1]
    exact SI h3 hk (QX hm) (Kz hz)
   ·exact h.elim
  ·obtain⟨ti,h3,h⟩:=Xa hT h
   split at h
   ·rename_i hk
    obtain⟨hb,h⟩:=XS h
    obtain⟨hz,hm⟩:=L6.1 hb
    refine Yd hK _ h fun r A w hw=>?_
    rw[ex e]
    refine Xt ?_
    rw[(Qs hw h1).1,(Qs hw h2).1]
    exact FF h3 hk (QX hm) (Kz hz)
   ·exact h.elim
  ·exact h.elim
 case slice t x lo hi mx =>
  cases mx with
  | some _=>exact False.elim h
  | none =>
   obtain⟨s,h1,h⟩:=Qy h
   obtain⟨l,h,hl⟩:=TP (w0:=w0) h
   split at h
   ·obtain⟨n,sz,h,hrun⟩:=TM hT h
    obtain⟨m,h,hm⟩:=Ek (w0:=w0) h
    refine RH hK h fun hz h2 h3 r A w hw=>?_
    rw[ex e]
    refine Xt ?_
    rw[(Qs hw h1).1]
    exact hrun hz w _ _ _ _ _ _ (hl r A w hw) (hm r A w hw) h2 h3
   ·obtain⟨ti,h4,h⟩:=Xa hT h
    split at h
    ·rename_i hk
     obtain⟨m,h,hm⟩:=Ek (w0:=w0) h
     refine RH hK h fun hz h2 h3 r A w hw=>?_
     rw[ex e]
     refine Xt ?_
     rw[(Qs hw h1).1]
     exact KY h4 hk hz (hl r A w hw) (hm r A w hw) h2 h3
    ·exact h.elim
   ·exact h.elim
 case binOp op t x y u =>
  obtain⟨s,h1,h⟩:=Qy h
  obtain⟨s',h2,h⟩:=Qy h
  exact fq hT hK e h1 h2 h
 case unOp op t x =>
  obtain⟨s,h1,h⟩:=Qy h
  unfold po at h
  split at h
  ·exact Yd hK _ h fun r A w hw=>by
    rw[ex e]
    refine Xt ?_
    rw[(Qs hw h1).1]
    rfl
  ·exact Yd hK _ h fun r A w hw=>by
    rw[ex e]
    refine Xt ?_
    rw[(Qs hw h1).1]
    rfl
  ·exact h.elim
 case convert a d x =>
  obtain⟨s,h1,h⟩:=Qy h
  obtain⟨ta,h2,h⟩:=Xa hT h
  obtain⟨td,h3,h⟩:=Xa hT h
  split at h
  ·rename_i hk
   split at h
   case h_2=>exact h.elim
   refine Yd hK _ h fun r A w hw=>?_
   obtain⟨_,da,_,h5,_⟩:=Zo h2
   rw[ex e]
   refine Xt ?_
   rw[(Qs hw h1).1]
   unfold Go.convert
   rw[Sem.run_bind,Xq h5,Result.andThen_ok,Sem.run_bind,Xq (ac h3 hk),Result.andThen_ok]
   cases da<;>rfl
  ·exact h.elim
 case pick c x y =>
  obtain⟨s,h1,h⟩:=Qy h
  split at h
  ·split at h
   ·obtain⟨u,h2,h⟩:=Qy h
    refine Yd hK _ h fun r A w hw=>?_
    rw[ex e,← (Qs hw h2).1]
    have h3:=(Qs hw h1).1
    unfold execOp
    simp only[h3,SV.den,asBool]
    rfl
   ·obtain⟨u,h2,h⟩:=Qy h
    refine Yd hK _ h fun r A w hw=>?_
    rw[ex e,← (Qs hw h2).1]
    have h3:=(Qs hw h1).1
    unfold execOp
    simp only[h3,SV.den,asBool]
    rfl
  ·exact h.elim
 case call c =>
  dsimp only[mM]at h
  split at h
  ·rename_i hc
   split at h
   ·rename_i x t ha ht
    obtain⟨s,h1,h⟩:=Qy h
    exact eZ (_ty:=0) hT hK e hc (by apply Array.ext';exact ha) (by apply Array.ext';exact ht) h1 h
   ·exact h.elim
  ·exact h.elim
 case build t ps =>
  obtain⟨ps',h,h1⟩:=Ew (w0:=w0) h
  obtain⟨ti,h2,h⟩:=Xa hT h
  obtain⟨hz,h⟩:=XS h
  split at h
  ·rename_i hk
   obtain⟨hf,h⟩:=XS h
   obtain⟨l,h4,h⟩:=QY h
   refine Yd hK _ h fun r A w hw=>?_
   obtain⟨h5,h6⟩:=h1 r A w hw
   have h7:=Bg hw _ ps' _ l h6 (I2 _ _ _) h4
   rw[Ge]at h7
   rw[ex e]
   refine Xt (Hm hT h2 (AJ hz) hk hf ?_)
   rw[Array.toList_map,h5]
   exact h7
  ·rename_i hk
   obtain⟨hs,h⟩:=XS h
   obtain⟨l,h4,h⟩:=QY h
   refine Yd hK _ h fun r A w hw=>?_
   obtain⟨h5,h6⟩:=h1 r A w hw
   have h7:=Bg hw _ ps' _ l h6 (I2 _ _ _) h4
   rw[Ge]at h7
   rw[ex e]
   refine Xt (MJ hT h2 (AJ hz) hk (Kz hs) ?_)
   rw[Array.toList_map,h5]
   exact h7
  ·exact h.elim
 case buildSlice t n ps =>
  obtain⟨ps',h,h1⟩:=Ew (w0:=w0) h
  obtain⟨ti,h2,h⟩:=Xa hT h
  split at h
  ·rename_i hk
   obtain⟨te,h3,h⟩:=Xa hT h
   obtain⟨hb,h⟩:=XS h
   obtain⟨hb,b5⟩:=L6.1 hb
   obtain⟨hb,b3⟩:=L6.1 hb
   obtain⟨b1,b2⟩:=L6.1 hb
   obtain⟨l,h4,h⟩:=QY h
   have hfit:=(L6.1 (hK _ h)).2
   refine eu _ _ _ h hfit fun r A w hw=>?_
   obtain⟨h5,h6⟩:=h1 r A w hw
   have h7:=Bg hw _ ps' _ l h6 (I2 _ _ _) h4
   rw[Ge]at h7
   rw[ex e]
   refine(Xt (Mp h2 hk h3 (AJ b1) (Lc b2) (Lc b3) (Lr b5) (l:=QI r l) ?_)).trans ?_
   ·rw[Array.toList_map,h5]
    exact h7
   ·simp only[SV.den,Env.add',Env.add,Xw]
  ·exact h.elim
 all_goals exact False.elim h
end
