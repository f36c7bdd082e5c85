/- The walks and plain laws beneath the statements. -/
import Derived.Test.YtaelfkdjlioegaaGreatDoorQO1
namespace Go.Proofs.YtaelfkdjlioegaaGreatDoor
open Go Go.RowKit
inductive Rch (ops:Array Oper):Nat→Nat→Prop
 | one {a i:Nat}:i∈waits ops a→Rch ops a i
 | more {a j i:Nat}:j∈waits ops a→Rch ops j i→Rch ops a i
theorem rch_listed{ops:Array Oper}{n:Nat}{listed:Array Bool}(inv:HeadInv .any ops n listed){a i:Nat}(h:Rch ops a i): (∀j,j∈waits ops a→listed.getD j false=true)→listed.getD i false=true:=by
 induction h with
 | one h=>exact fun k=>k _ h
 | more h _ ih=>exact fun k=>ih fun j hj=>waits_listed inv (k _ h) hj
def upd{α:Type}(f:Nat→α)(i:Nat)(x:α)(k:Nat): α:=if k=i then x else f k
theorem upd_at{α:Type}(f:Nat→α)(i:Nat)(x:α): upd f i x i=x:=if_pos rfl
theorem upd_ne{α:Type}(f:Nat→α){i k:Nat}(x:α)(h:k≠i): upd f i x k=f k:=if_neg h
section
variable {Γ:Type}
def GhOk(P:Program)(ops:Array Oper)(F:(Nat→Value)→Act)(G:World→Prop)(Φ:Nat→(Nat→Value)→(Nat→Γ)→World→Prop)(Fr:Nat→Γ→Nat→Prop)(i:Nat): Prop :=
 ∀(o:Oper),ops[i]?=some o→∀(u:Nat→Value) (γ:Nat→Γ) (w:World),G w→(∀j,Rch ops i j→Φ j u γ w)→∀(Q:Exit→Act→World→Prop) (K:Act→World→Prop),
  (∀v g w',Below w.heap.size w w'→G w'→Φ i (upd u i v) (upd γ i g) w'→(∀b,Fr i g b→w.heap.size≤b∧b<w'.heap.size)→K ((F u).put o.dst v) w')→if Region.wanted o (yielded ops (F u).tmps)=true then Oper.wp P o (F u) w K Q else K ((F u).put o.dst undef) w
def GhLate(P:Program)(ops:Array Oper)(F:(Nat→Value)→Act)(G:World→Prop)(Φ:Nat→(Nat→Value)→(Nat→Γ)→World→Prop)(i:Nat): Prop :=
 ∀(o:Oper),ops[i]?=some o→∀(u:Nat→Value) (γ:Nat→Γ) (w:World),G w→(∀j,Rch ops i j→Φ j u γ w)→∃v,Yields P ops o v (F u)∧Φ i (upd u i v) γ w
theorem wpAny_gh{P:Program}{ops:Array Oper}{n:Nat}{Q:Exit→Act→World→Prop}{l:List Oper}(hl:l.toArray=ops)(F:(Nat→Value)→Act)(G:World→Prop)(Φ:Nat→(Nat→Value)→(Nat→Γ)→World→Prop)(Fr:Nat→Γ→Nat→Prop)(B:Nat)(st:Nat→Bool)(hB:growB ops n st=true)(hQ:∀(d:Tmp) (v:Value) c a w,Q (.panic c) (a.put (some d) v) w→Q (.panic c) a w)(hdd:∀i o,i<n→ops[i]?=some o→∃d:Tmp,o.dst=some d)(hput:∀(u:Nat→Value) (i:Nat) (v:Value) (o:Oper),i<n→ops[i]?=some o→(F u).put o.dst v=F (upd u i v))(hst:∀i u γ w w',i<n→Below w.heap.size w w'→Φ i u γ w→Φ i u γ w')(hcg:∀i u u' γ γ' w,i<n→(∀j,j=i∨Rch ops i j→u j=u' j∧γ j=γ' j)→Φ i u γ w→Φ i u' γ' w)(hop:∀i,i<n→GhOk P ops F G Φ Fr i)(hlate:∀i,i<n→st i=false→(∀g b,¬ Fr i g b)∧GhLate P ops F G Φ i)(u0:Nat→Value)(htail:∀u γ w,(∀k,n≤k→u k=u0 k)→G w→(∀i,i<n→Φ i u γ w)→(∀i,i<n→∀b,Fr i (γ i) b→B≤b∧b<w.heap.size)→(∀i j,i<n→j<n→i≠j→∀b,Fr i (γ i) b→¬ Fr j (γ j) b)→wpList P ops Q (l.drop n) (F u) w):
  ∀(f:Nat) (listed:Array Bool) (u:Nat→Value) (γ:Nat→Γ) (w:World),left n listed=f→HeadInv .any ops n listed→(∀k,n≤k→u k=u0 k)→G w→B≤w.heap.size→(∀i,i<n→listed.getD i true=true→Φ i u γ w) →
   (∀i,i<n→listed.getD i true=true→∀b,Fr i (γ i) b→B≤b∧b<w.heap.size) →
   (∀i j,i<n→j<n→listed.getD i true=true→listed.getD j true=true→i≠j→∀b,Fr i (γ i) b→¬ Fr j (γ j) b) →
   wpAny P .any ops Q (f+(ops.size-n)) listed (F u) w:=by
 simp only[growB,Bool.and_eq_true,decide_eq_true_eq]at hB
 obtain⟨⟨⟨⟨⟨⟨hn,hsel⟩,hc⟩,hs⟩,hfree⟩,hback⟩,hseq⟩:=hB
 have hwlt:∀a j,a<n→j∈waits ops a→j<a:=fun a j ha hj=>by
  have h1:=List.all_eq_true.1 hback a (List.mem_range.2 ha)
  simpa using List.all_eq_true.1 h1 _ hj
 have hrlt:∀a j,Rch ops a j→a<n→j<a:=by
  intro a j h
  induction h with
  | one h=>exact fun ha=>hwlt _ _ ha h
  | more h _ ih =>
   intro ha
   have h1:=hwlt _ _ ha h
   have:=ih (by omega)
   omega
 intro f
 induction f with
 | zero =>
  intro listed u γ w hf inv hu0 hG hBw hΦ hF hD
  have hall:=left_zero hf
  have he:listed=Array.replicate n true++Array.replicate (ops.size-n) false:=by
   apply Array.ext
   ·simp[inv.size];omega
   ·intro i h1 h2
    by_cases hi:i<n
    ·have:=hall i hi
     rw[Array.getElem_append_left (by simpa using hi)]
     simpa [h1]using this
    ·have:=inv.tail i (by omega) (by rw[← inv.size];exact h1)
     rw[Array.getElem_append_right (by simp;omega)]
     simpa [h1]using this
  rw[Nat.zero_add]
  have hlen:(l.drop n).length=ops.size-n:=by rw[← hl];simp
  rw[← hlen]at hseq ⊢
  exact wpAny_of_seq (l.drop n) n listed (F u) w (fun j=>by rw[← hl];simp[List.getElem?_drop]) (by rw[he,← hlen];exact hseq) (htail u γ w hu0 hG (fun i hi=>hΦ i hi (hall i hi)) (fun i hi=>hF i hi (hall i hi)) (fun i j hi hj=>hD i j hi hj (hall i hi) (hall j hj)))
 | succ f ih =>
  intro listed u γ w hf inv hu0 hG hBw hΦ hF hD
  obtain⟨i0,hi0,hl0,hmin⟩:=left_some (n:=n) (listed:=listed) (by omega)
  have hready:i0∈Region.ready .any ops listed:=by
   have hlt:i0<ops.size:=by omega
   obtain⟨o,ho⟩:∃o,ops[i0]?=some o:=⟨ops[i0],by simp[hlt]⟩
   refine mem_ready.2 ⟨hl0,o,ho,fun e he hb=>?_⟩
   have hw:e.on∈waits ops i0:=by
    unfold waits;rw[ho]
    exact List.mem_map.2 ⟨e,List.mem_filter.2 ⟨Array.mem_toList_iff.2 he,hb⟩,rfl⟩
   have hlt2:e.on<i0:=hwlt _ _ hi0 hw
   have h3:=hmin _ hlt2
   have h4:e.on<listed.size:=by rw[inv.size];omega
   simpa [h4]using h3
  rw[show f+1+(ops.size-n)=(f+(ops.size-n))+1 by omega]
  have hall2:∀i,i∈Region.ready .any ops listed→∀j,Rch ops i j→listed.getD j false=true:=fun i hi j hj=>by
   obtain⟨_,o,ho,hdeps⟩:=mem_ready.1 hi
   refine rch_listed inv hj fun k hk=>?_
   unfold waits at hk;rw[ho]at hk
   obtain⟨e,he,rfl⟩:=List.mem_map.1 hk
   obtain⟨he1,he2⟩:=List.mem_filter.1 he
   exact hdeps e (Array.mem_toList_iff.1 he1) he2
  have hin2:∀j,j<n→listed.getD j false=true→listed.getD j true=true:=fun j hj h=>by
   have h4:j<listed.size:=by rw[inv.size];omega
   simpa [h4]using h
  have hfacts:∀i,i<n→i∈Region.ready .any ops listed→∀j,Rch ops i j→Φ j u γ w:=fun i hin hi j hj=>by
   have hlt2:=hrlt _ _ hj hin
   exact hΦ _ (by omega) (hin2 j (by omega) (hall2 i hi j hj))
  have hkeep:∀i,i<n→listed.getD i true=false→∀v g w',Below w.heap.size w w'→∀j,j<n→listed.getD j true=true→Φ j (upd u i v) (upd γ i g) w':=fun i hi hil v g w' hb j hj hjl=>by
   refine hcg j u _ γ _ w' hj (fun k hk=>?_) (hst j u γ w w' hj hb (hΦ j hj hjl))
   have hne:k≠i:=by
    rintro rfl
    rcases hk with rfl|hk
    ·rw[hil]at hjl;cases hjl
    ·have hjs:j<ops.size:=by omega
     have h1:listed.getD k false=true:=rch_listed inv hk fun m hm=>by
      refine waits_listed inv ?_ hm
      have h4:j<listed.size:=by rw[inv.size];omega
      simpa [h4]using hjl
     rw[getD_both hil]at h1
     cases h1
   rw[upd_ne u v hne,upd_ne γ g hne]
   exact⟨rfl,rfl⟩
  by_cases hall:∃i,i<n∧st i=true∧listed.getD i true=false
  case neg =>
   have hst0:st i0=false:=by
    cases h:st i0 with
    | false=>rfl
    | true=>exact absurd ⟨i0,hi0,h,hl0⟩ hall
   obtain⟨hfr0,hlt0⟩:=hlate i0 hi0 hst0
   obtain⟨_,o,ho,hdeps⟩:=mem_ready.1 hready
   obtain⟨v,hy,hv⟩:=hlt0 o ho u γ w hG (hfacts i0 hi0 hready)
   have hQ2:∀c a w,Q (.panic c) (a.put o.dst v) w→Q (.panic c) a w:=by
    obtain⟨d,hd⟩:=hdd i0 o hi0 ho
    rw[hd];exact hQ d v
   have eγ:upd γ i0 (γ i0)=γ:=by funext k;unfold upd;split<;>simp_all
   refine wpAny_first ho (Region.noSelect_spec hsel) hQ2 _ listed (F u) w (fun j oj hoj hji hjun hnot=>?_) hready hy ?_
   ·have hjs:j<ops.size:=(Array.getElem?_eq_some_iff.1 hoj).1
    have h1:=List.all_eq_true.1 hfree i0 (List.mem_range.2 hi0)
    rw[hst0,Bool.false_or]at h1
    have h2:=List.all_eq_true.1 h1 j (List.mem_range.2 hjs)
    simp only[Bool.or_eq_true,Bool.and_eq_true,decide_eq_true_eq,beq_iff_eq,ho,hoj]at h2
    rcases h2 with((h2|h2)|h2)|h2
    ·exact absurd h2 hji
    ·exact absurd ⟨j,h2.1,h2.2,hjun⟩ hall
    ·obtain⟨o',ho',e,he,hb,hon⟩:=Region.waitsFor_spec h2
     have:o'=oj:=Option.some.inj (ho'.symm.trans hoj)
     subst this
     exact absurd hon (hnot e he hb)
    ·exact h2
   ·rw[hput u i0 v o hi0 ho]
    refine ih _ _ γ w (by have:=left_set hi0 hl0;omega) (inv.set hready hi0) (fun k hk=>by rw[upd_ne u v (by omega)];exact hu0 k hk) hG hBw (fun j hj hjl=>?_) (fun j hj hjl b hb=>?_) (fun j k hj hk hjl hkl hne b hb hb2=>?_)
    ·by_cases e:j=i0
     ·subst e;exact hv
     ·rw[getD_set_ne true (Ne.symm e)]at hjl
      have h5:=hkeep i0 hi0 hl0 v (γ i0) w (Below.refl _ _) j hj hjl
      rwa [eγ]at h5
    ·have ej:j≠i0:=fun e=>hfr0 _ _ (e▸hb)
     rw[getD_set_ne true (Ne.symm ej)]at hjl
     exact hF j hj hjl b hb
    ·have ej:j≠i0:=fun e=>hfr0 _ _ (e▸hb)
     have ek:k≠i0:=fun e=>hfr0 _ _ (e▸hb2)
     rw[getD_set_ne true (Ne.symm ej)]at hjl
     rw[getD_set_ne true (Ne.symm ek)]at hkl
     exact hD j k hj hk hjl hkl hne b hb hb2
  obtain⟨is,his,hss,hsl⟩:=hall
  refine⟨fun h0=>(by rw[h0]at hready;cases hready),fun i hi=>?_⟩
  have hin:i<n:=by
   rcases Nat.lt_or_ge i n with h|h
   ·exact h
   ·exact absurd hi (tail_not_ready hs hc inv his hss hsl i h)
  obtain⟨hil,o,ho,hdeps⟩:=mem_ready.1 hi
  have hgo:∀v g w',Below w.heap.size w w'→G w'→Φ i (upd u i v) (upd γ i g) w'→(∀b,Fr i g b→w.heap.size≤b∧b<w'.heap.size)→wpAny P .any ops Q (f+(ops.size-n)) (listed.setIfInBounds i true) ((F u).put o.dst v) w':=fun v g w' hb hG' hv hnew=>by
   rw[hput u i v o hin ho]
   refine ih _ _ (upd γ i g) w' (by have:=left_set hin hil;omega) (inv.set hi hin) (fun k hk=>by rw[upd_ne u v (by omega)];exact hu0 k hk) hG' (Nat.le_trans hBw hb.size) (fun j hj hjl=>?_) (fun j hj hjl b hbb=>?_) (fun j k hj hk hjl hkl hne b hb1 hb2=>?_)
   ·by_cases e:j=i
    ·subst e;exact hv
    ·rw[getD_set_ne true (Ne.symm e)]at hjl
     exact hkeep i hin hil v g w' hb j hj hjl
   ·by_cases e:j=i
    ·subst e
     rw[upd_at]at hbb
     have:=hnew b hbb
     omega
    ·rw[getD_set_ne true (Ne.symm e)]at hjl
     rw[upd_ne γ g e]at hbb
     have h1:=hF j hj hjl b hbb
     have h2:=hb.size
     omega
   ·by_cases ej:j=i
    ·subst ej
     have ek:k≠j:=Ne.symm hne
     rw[upd_at]at hb1
     rw[upd_ne γ g ek]at hb2
     rw[getD_set_ne true (Ne.symm ek)]at hkl
     have h1:=hnew b hb1
     have h2:=hF k hk hkl b hb2
     omega
    ·rw[getD_set_ne true (Ne.symm ej)]at hjl
     rw[upd_ne γ g ej]at hb1
     by_cases ek:k=i
     ·subst ek
      rw[upd_at]at hb2
      have h1:=hnew b hb2
      have h2:=hF j hj hjl b hb1
      omega
     ·rw[getD_set_ne true (Ne.symm ek)]at hkl
      rw[upd_ne γ g ek]at hb2
      exact hD j k hj hk hjl hkl hne b hb1 hb2
  have hrun:=hop i hin o ho u γ w hG (hfacts i hin hi) Q _ hgo
  unfold wpOp
  simp only[ho]
  split
  ·rename_i hw;rw[if_pos hw]at hrun;exact .inl hrun
  ·rename_i hw;rw[if_neg hw]at hrun;exact hrun
theorem wpAny_region_gh{P:Program}{Q:Exit→Act→World→Prop}{a:Act}{w:World}{l:List Oper}(ds:List Nat)(G:World→Prop)(Φ:Nat→(Nat→Value)→(Nat→Γ)→World→Prop)(Fr:Nat→Γ→Nat→Prop)(γ0:Nat→Γ)(st:Nat→Bool)(hB:growB l.toArray ds.length st=true)(hQ:∀(d:Tmp) (v:Value) c a w,Q (.panic c) (a.put (some d) v) w→Q (.panic c) a w)(hds:((List.range ds.length).all fun i=>((l.toArray[i]?).bind (·.dst))==ds[i]?)=true)(hnb:nodupB ds=true)(_hlt:ds.all (·<a.tmps.size)=true)(hG:G w.drew)(hst:∀i u γ w w',i<ds.length→Below w.heap.size w w'→Φ i u γ w→Φ i u γ w')(hcg:∀i u u' γ γ' w,i<ds.length→(∀j,j=i∨Rch l.toArray i j→u j=u' j∧γ j=γ' j)→Φ i u γ w→Φ i u' γ' w)(hop:∀i,i<ds.length→GhOk P l.toArray (frm a ds) G Φ Fr i)(hlate:∀i,i<ds.length→st i=false→(∀g b,¬ Fr i g b)∧GhLate P l.toArray (frm a ds) G Φ i)(htail:∀u γ w',G w'→(∀i,i<ds.length→Φ i u γ w')→(∀i,i<ds.length→∀b,Fr i (γ i) b→w.heap.size≤b∧b<w'.heap.size)→(∀i j,i<ds.length→j<ds.length→i≠j→∀b,Fr i (γ i) b→¬ Fr j (γ j) b)→wpList P l.toArray Q (l.drop ds.length) (frm a ds u) w'): wpAny P .any l.toArray Q l.toArray.size (Array.replicate l.toArray.size false) a { w with drawn:=w.drawn+1 }:=by
 have hnd:=nodup_of hnb
 have hn:ds.length≤l.toArray.size:=by
  simp only[growB,Bool.and_eq_true,decide_eq_true_eq]at hB
  exact hB.1.1.1.1.1.1
 have inv0:HeadInv .any l.toArray ds.length (Array.replicate l.toArray.size false) :=
  ⟨by simp,fun j oj _ hl=>(by rw[getD_replicate_false]at hl;cases hl),fun t _ ht=>getD_in (by simpa using ht) (getD_replicate_false _ _)⟩
 have hnone:∀i,i<ds.length→(Array.replicate l.toArray.size false).getD i true=false:=fun i hi=>getD_in (by simpa using(by omega:i<l.toArray.size)) (getD_replicate_false _ _)
 have hleft:left ds.length (Array.replicate l.toArray.size false)=ds.length:=by
  unfold left
  rw[List.filter_eq_self.2 (fun i hi=>by rw[hnone i (List.mem_range.1 hi)];rfl),List.length_range]
 have hdst:∀i,i<ds.length→∃d,ds[i]?=some d∧∀o,l.toArray[i]?=some o→o.dst=some d:=fun i hi=>by
  have h1:=List.all_eq_true.1 hds i (List.mem_range.2 hi)
  have h2:((l.toArray[i]?).bind (·.dst))=ds[i]?:=by simpa using h1
  refine⟨ds[i],by simp[hi],fun o ho=>?_⟩
  rw[ho]at h2
  have h3:ds[i]?=some ds[i]:=by simp[hi]
  rw[h3]at h2
  exact h2
 have h:=wpAny_gh (Q:=Q) (l:=l) rfl (frm a ds) G Φ Fr w.heap.size st hB hQ (fun i o hi ho=>by obtain⟨d,_,hd2⟩:=hdst i hi;exact⟨d,hd2 o ho⟩) (fun u i v o hi ho=>by
   obtain⟨d,hd,hd2⟩:=hdst i hi
   rw[hd2 o ho]
   exact frm_put hnd u hd v) hst hcg hop hlate (fun i=>a.tmps.getD (ds.getD i 0) undef) (fun u γ w' _ hG' hΦ hF hD=>htail u γ w' hG' hΦ hF hD) ds.length _ (fun i=>a.tmps.getD (ds.getD i 0) undef) γ0 w.drew hleft inv0 (fun _ _=>rfl) hG (Nat.le_refl _)
   (fun i hi hl=>(by rw[hnone i hi]at hl;cases hl)) (fun i hi hl=>(by rw[hnone i hi]at hl;cases hl)) (fun i j hi hj hl=>(by rw[hnone i hi]at hl;cases hl))
 rw[show ds.length+(l.toArray.size-ds.length)=l.toArray.size by omega]at h
 rw[← frm_self a ds]at h
 exact h
end
open Go Go.RowKit
inductive SV where
 | val (y:Value)
 | ptr (b o:Nat)
 | sli (b o n c:Nat)
 | clo (fn:Fn) (l m:List SV)
 | agg (l:List SV)
 | tup (l:List SV)
 | han (i:Nat)
structure Env where
 b:Nat→Nat
 x:Nat→Value
 S:Nat→Nat→Prop
mutual
def SV.den(r:Env): SV→Value
 | .val y=>y
 | .ptr b o=>.pointer (some ⟨r.b b,o,none⟩)
 | .sli b o n c=>.slice (some ⟨r.b b,o,none⟩) n c
 | .clo fn l m=>.func fn (denL r l).toArray (denL r m).toArray
 | .agg l=>.agg (denL r l).toArray
 | .tup l=>.tuple (denL r l).toArray
 | .han i=>r.x i
def denL(r:Env): List SV→List Value
 | []=>[]
 | s::l=>s.den r::denL r l
end
mutual
def SV.ok(β ξ:Nat→Bool): SV→Bool
 | .val _=>true
 | .ptr b _=>β b
 | .sli b _ _ _=>β b
 | .clo _ l m=>okL β ξ l&&okL β ξ m
 | .agg l=>okL β ξ l
 | .tup l=>okL β ξ l
 | .han i=>ξ i
def okL(β ξ:Nat→Bool): List SV→Bool
 | []=>true
 | s::l=>s.ok β ξ&&okL β ξ l
end
mutual
theorem den_congr{r r':Env}{β ξ:Nat→Bool}(hb:∀i,β i=true→r.b i=r'.b i)(hx:∀i,ξ i=true→r.x i=r'.x i): ∀s:SV,s.ok β ξ=true→s.den r=s.den r'
 | .val _,_=>rfl
 | .ptr b _,h=>by simp only[SV.den,hb b h]
 | .sli b _ _ _,h=>by simp only[SV.den,hb b h]
 | .clo _ l m,h=>by
  have h1:=Bool.and_eq_true_iff.1 h
  simp only[SV.den,denL_congr hb hx l h1.1,denL_congr hb hx m h1.2]
 | .agg l,h=>by simp only[SV.den,denL_congr hb hx l h]
 | .tup l,h=>by simp only[SV.den,denL_congr hb hx l h]
 | .han i,h=>hx i h
theorem denL_congr{r r':Env}{β ξ:Nat→Bool}(hb:∀i,β i=true→r.b i=r'.b i)(hx:∀i,ξ i=true→r.x i=r'.x i): ∀l:List SV,okL β ξ l=true→denL r l=denL r' l
 | [],_=>rfl
 | s::l,h=>by
  have h1:=Bool.and_eq_true_iff.1 h
  simp only[denL,den_congr hb hx s h1.1,denL_congr hb hx l h1.2]
end
mutual
theorem ok_mono{β ξ β' ξ':Nat→Bool}(hb:∀i,β i=true→β' i=true)(hx:∀i,ξ i=true→ξ' i=true): ∀s:SV,s.ok β ξ=true→s.ok β' ξ'=true
 | .val _,_=>rfl
 | .ptr b _,h=>hb b h
 | .sli b _ _ _,h=>hb b h
 | .clo _ l m,h=>by
  have h1:=Bool.and_eq_true_iff.1 h
  exact Bool.and_eq_true_iff.2 ⟨okL_mono hb hx l h1.1,okL_mono hb hx m h1.2⟩
 | .agg l,h=>okL_mono hb hx l h
 | .tup l,h=>okL_mono hb hx l h
 | .han i,h=>hx i h
theorem okL_mono{β ξ β' ξ':Nat→Bool}(hb:∀i,β i=true→β' i=true)(hx:∀i,ξ i=true→ξ' i=true): ∀l:List SV,okL β ξ l=true→okL β' ξ' l=true
 | [],_=>rfl
 | s::l,h=>by
  have h1:=Bool.and_eq_true_iff.1 h
  exact Bool.and_eq_true_iff.2 ⟨ok_mono hb hx s h1.1,okL_mono hb hx l h1.2⟩
end
theorem blt_lt{a b:Nat}(h:Nat.blt a b=true): a<b:=Nat.le_of_ble_eq_true h
theorem lt_blt{a b:Nat}(h:a<b): Nat.blt a b=true:=Nat.ble_eq_true_of_le h
theorem denL_map(r:Env): ∀l:List SV,denL r l=l.map (·.den r)
 | []=>rfl
 | s::l=>by simp[denL,denL_map r l]
theorem denL_len(r:Env)(l:List SV): (denL r l).length=l.length:=by simp[denL_map]
theorem denL_v(r:Env)(l:List Value): denL r (l.map SV.val)=l:=by induction l<;>simp_all [denL,SV.den]
theorem okL_v(β ξ:Nat→Bool)(l:List Value): okL β ξ (l.map SV.val)=true:=by induction l<;>simp_all [okL,SV.ok]
theorem okL_all{β ξ:Nat→Bool}: ∀ {l:List SV},okL β ξ l=true↔∀s,s∈l→s.ok β ξ=true
 | []=>by simp[okL]
 | s::l=>by simp[okL,@okL_all β ξ l]
def look{α:Type}(k:Nat): List (Nat×α)→Option α
 | []=>none
 | (j,s)::l=>bif Nat.beq j k then some s else look k l
def nth{α:Type}: List (Option α)→Nat→Option α
 | [],_=>none
 | x::_,0=>x
 | _::l,n+1=>nth l n
def setNth{α:Type}: List (Option α)→Nat→α→List (Option α)
 | [],_,_=>[]
 | _::l,0,y=>some y::l
 | x::l,n+1,y=>x::setNth l n y
theorem nth_lt{α:Type}: ∀ {l:List (Option α)} {i:Nat} {y:α},nth l i=some y→i<l.length
 | [],_,_,h=>by cases h
 | _::_,0,_,_=>Nat.succ_pos _
 | _::l,_+1,_,h=>Nat.succ_lt_succ (nth_lt (l:=l) h)
theorem setNth_len{α:Type}: ∀(l:List (Option α)) (i:Nat) (y:α),(setNth l i y).length=l.length
 | [],_,_=>rfl
 | _::_,0,_=>rfl
 | _::l,n+1,y=>congrArg Nat.succ (setNth_len l n y)
theorem nth_set{α:Type}: ∀ {l:List (Option α)} {i j:Nat} {y z:α},nth (setNth l i y) j=some z→(j=i∧z=y)∨(j≠i∧nth l j=some z)
 | [],_,_,_,_,h=>by cases h
 | _::_,0,0,_,_,h=>.inl ⟨rfl,(Option.some.inj h).symm⟩
 | _::_,0,_+1,_,_,h=>.inr ⟨by simp,h⟩
 | _::_,_+1,0,_,_,h=>.inr ⟨by simp,h⟩
 | _::l,i+1,j+1,_,_,h=>by
  rcases nth_set (l:=l) (i:=i) (j:=j) h with⟨e,e2⟩|⟨e,e2⟩
  ·exact .inl ⟨by rw[e],e2⟩
  ·exact .inr ⟨by simpa using e,e2⟩
theorem nth_app{α:Type}: ∀ {l:List (Option α)} {x:Option α} {i:Nat} {y:α},nth (l++[x]) i=some y→nth l i=some y∨(i=l.length∧x=some y)
 | [],_,0,_,h=>.inr ⟨rfl,h⟩
 | [],_,_+1,_,h=>by cases h
 | _::_,_,0,_,h=>.inl h
 | _::l,_,i+1,_,h=>(nth_app (l:=l) (i:=i) h).imp id fun⟨e,e2⟩=>⟨congrArg Nat.succ e,e2⟩
structure Res where
 φ:Value→(Nat→Prop)→World→Prop
 one:∀v S w,φ v S w→v.oneCell'=true
 loc:∀v S w w',(∀b,S b→w'.heap[b]?=w.heap[b]?)→φ v S w→φ v S w'
structure St where
 n:Nat
 ts:List (Nat×SV)
 bs:List (Option (TypeId×List SV))
 rs:List (Option Res)
def St.lt(σ:St)(s:SV): Bool:=s.ok (fun i=>Nat.blt i σ.bs.length) (fun i=>Nat.blt i σ.rs.length)
def St.ltL(σ:St)(l:List SV): Bool:=okL (fun i=>Nat.blt i σ.bs.length) (fun i=>Nat.blt i σ.rs.length) l
structure See (w0:World) (σ:St) (r:Env) (a:Act) (w:World):Prop where
 low:Below w0.heap.size w0 w
 size:a.tmps.size=σ.n
 ts:∀k s,look k σ.ts=some s→a.tmps.getD k undef=s.den r∧σ.lt s=true
 bs:∀i t cs,nth σ.bs i=some (t,cs)→Bx w (r.b i) t (denL r cs).toArray∧σ.ltL cs=true
 rs:∀i R,nth σ.rs i=some R→R.φ (r.x i) (r.S i) w∧∀b,r.S i b→b<w.heap.size
 one:∀i,i<σ.rs.length→(r.x i).oneCell'=true
structure Sep (w0:World) (σ:St) (r:Env):Prop where
 own:∀i p,nth σ.bs i=some p→w0.heap.size≤r.b i
 inj:∀i j p q,nth σ.bs i=some p→nth σ.bs j=some q→i≠j→r.b i≠r.b j
 ownS:∀i R,nth σ.rs i=some R→∀b,r.S i b→w0.heap.size≤b
 disj:∀i j R R',nth σ.rs i=some R→nth σ.rs j=some R'→i≠j→∀b,r.S i b→¬ r.S j b
 apart:∀i j p R,nth σ.bs i=some p→nth σ.rs j=some R→¬ r.S j (r.b i)
structure Sat (w0:World) (σ:St) (r:Env) (a:Act) (w:World):Prop where
 see:See w0 σ r a w
 sep:Sep w0 σ r
 defers:a.defers=[]
theorem See.later{w0:World}{σ:St}{r:Env}{a:Act}{w w':World}(h:See w0 σ r a w)(hb:Below w.heap.size w w'): See w0 σ r a w' :=
 ⟨nxt h.low hb,h.size,h.ts,fun i t cs hi=>⟨(h.bs i t cs hi).1.later hb,(h.bs i t cs hi).2⟩,fun i R hi=>⟨R.loc _ _ _ _ (fun b hS=>hb.block b ((h.rs i R hi).2 b hS)) (h.rs i R hi).1,fun b hS=>Nat.lt_of_lt_of_le ((h.rs i R hi).2 b hS) hb.size⟩,h.one⟩
structure Out where
 s:SV
 b:Option (TypeId×List SV):=none
 r:Option Res:=none
structure Gh where
 b:Nat
 x:Value
 S:Nat→Prop
def Gh.no:Gh:=⟨0,.bool false,fun _=>False⟩
def Env.add(r:Env)(nb nx:Nat)(γ:Gh): Env:=⟨upd r.b nb γ.b,upd r.x nx γ.x,upd r.S nx γ.S⟩
def Env.add'(r:Env)(σ:St)(γ:Gh): Env:=r.add σ.bs.length σ.rs.length γ
theorem den_add{σ:St}{s:SV}(h:σ.lt s=true)(r:Env)(γ:Gh): s.den (r.add' σ γ)=s.den r :=
 den_congr (fun _ hi=>upd_ne _ _ (Nat.ne_of_lt (blt_lt hi))) (fun _ hi=>upd_ne _ _ (Nat.ne_of_lt (blt_lt hi))) s h
theorem denL_add{σ:St}{l:List SV}(h:σ.ltL l=true)(r:Env)(γ:Gh): denL (r.add' σ γ) l=denL r l :=
 denL_congr (fun _ hi=>upd_ne _ _ (Nat.ne_of_lt (blt_lt hi))) (fun _ hi=>upd_ne _ _ (Nat.ne_of_lt (blt_lt hi))) l h
structure Made (r':Env) (o:Out) (γ:Gh) (w w':World):Prop where
 one:γ.x.oneCell'=true
 b:∀t cs,o.b=some (t,cs)→Bx w' γ.b t (denL r' cs).toArray∧w.heap.size≤γ.b
 r:∀R,o.r=some R→R.φ γ.x γ.S w'∧∀b,γ.S b→w.heap.size≤b∧b<w'.heap.size
 apart:∀p R,o.b=some p→o.r=some R→¬ γ.S γ.b
def snoc{α:Type}: List α→α→List α
 | [],y=>[y]
 | x::l,y=>x::snoc l y
theorem snoc_eq{α:Type}: ∀(l:List α) (y:α),snoc l y=l++[y]
 | [],_=>rfl
 | x::l,y=>congrArg (x::·) (snoc_eq l y)
def St.fits(σ:St)(o:Out): Bool :=
 (o.s.ok (fun i=>Nat.blt i (match o.b with|some _=>σ.bs.length+1|none=>σ.bs.length)) (fun i=>Nat.blt i (match o.r with|some _=>σ.rs.length+1|none=>σ.rs.length))) &&
 (match o.b with|some (_,cs)=>σ.ltL cs|none=>true)
def St.grow(σ:St)(o:Out): St:={ σ with bs:=match o.b with|some x=>snoc σ.bs (some x)|none=>σ.bs,rs:=match o.r with|some R=>snoc σ.rs (some R)|none=>σ.rs }
def St.push(σ:St)(d:Option Tmp)(s:SV): St:=match d with|some d=>{ σ with ts:=(d,s)::σ.ts } | none=>σ
theorem grow_bs{σ:St}{o:Out}: σ.bs.length≤(σ.grow o).bs.length:=by
 unfold St.grow;cases o.b<;>simp[snoc_eq]
theorem grow_rs{σ:St}{o:Out}: σ.rs.length≤(σ.grow o).rs.length:=by
 unfold St.grow;cases o.r<;>simp[snoc_eq]
theorem lt_grow{σ:St}{o:Out}{s:SV}(h:σ.lt s=true): (σ.grow o).lt s=true :=
 ok_mono (fun _ hi=>lt_blt (Nat.lt_of_lt_of_le (blt_lt hi) grow_bs)) (fun _ hi=>lt_blt (Nat.lt_of_lt_of_le (blt_lt hi) grow_rs)) s h
theorem ltL_grow{σ:St}{o:Out}{l:List SV}(h:σ.ltL l=true): (σ.grow o).ltL l=true :=
 okL_mono (fun _ hi=>lt_blt (Nat.lt_of_lt_of_le (blt_lt hi) grow_bs)) (fun _ hi=>lt_blt (Nat.lt_of_lt_of_le (blt_lt hi) grow_rs)) l h
theorem grow_nb{σ:St}{o:Out}{i:Nat}{p:TypeId×List SV}(h:nth (σ.grow o).bs i=some p): nth σ.bs i=some p∨(i=σ.bs.length∧o.b=some p):=by
 unfold St.grow at h
 cases e:o.b with
 | none=>rw[e]at h;exact .inl h
 | some x =>
  rw[e]at h
  simp only[snoc_eq]at h
  exact(nth_app h).imp id fun⟨h1,h2⟩=>⟨h1,h2⟩
theorem grow_nr{σ:St}{o:Out}{i:Nat}{R:Res}(h:nth (σ.grow o).rs i=some R): nth σ.rs i=some R∨(i=σ.rs.length∧o.r=some R):=by
 unfold St.grow at h
 cases e:o.r with
 | none=>rw[e]at h;exact .inl h
 | some x =>
  rw[e]at h
  simp only[snoc_eq]at h
  exact(nth_app h).imp id fun⟨h1,h2⟩=>⟨h1,h2⟩
theorem fits_lt{σ:St}{o:Out}(h:σ.fits o=true): (σ.grow o).lt o.s=true:=by
 unfold St.fits at h
 have h1:=(Bool.and_eq_true_iff.1 h).1
 refine ok_mono (fun i hi=>?_) (fun i hi=>?_) o.s h1
 ·unfold St.grow
  cases e:o.b<;>simp only[e,snoc_eq,List.length_append,List.length_cons,List.length_nil]at hi ⊢<;>exact hi
 ·unfold St.grow
  cases e:o.r<;>simp only[e,snoc_eq,List.length_append,List.length_cons,List.length_nil]at hi ⊢<;>exact hi
theorem fits_ltL{σ:St}{o:Out}(h:σ.fits o=true){t:TypeId}{cs:List SV}(e:o.b=some (t,cs)): σ.ltL cs=true:=by
 unfold St.fits at h
 have h1:=(Bool.and_eq_true_iff.1 h).2
 rw[e]at h1
 exact h1
section
variable {w0:World} {σ:St} {r:Env} {a:Act} {w w':World} {o:Out} {γ:Gh}
theorem add_b_old{i:Nat}{p:TypeId×List SV}(h:nth σ.bs i=some p): (r.add' σ γ).b i=r.b i:=upd_ne _ _ (Nat.ne_of_lt (nth_lt h))
theorem add_x_old{i:Nat}(h:i<σ.rs.length): (r.add' σ γ).x i=r.x i:=upd_ne _ _ (Nat.ne_of_lt h)
theorem add_S_old{i:Nat}{R:Res}(h:nth σ.rs i=some R): (r.add' σ γ).S i=r.S i:=upd_ne _ _ (Nat.ne_of_lt (nth_lt h))
theorem See.grow(h:See w0 σ r a w)(hb:Below w.heap.size w w')(hf:σ.fits o=true)(hm:Made (r.add' σ γ) o γ w w'): See w0 (σ.grow o) (r.add' σ γ) a w':=by
 have h':=h.later hb
 refine⟨h'.low,h'.size,fun k s hk=>?_,fun i t cs hi=>?_,fun i R hi=>?_,fun i hi=>?_⟩
 ·have h1:=h'.ts k s hk
  exact⟨by rw[den_add h1.2];exact h1.1,lt_grow h1.2⟩
 ·rcases grow_nb hi with h1|⟨rfl,h1⟩
  ·obtain⟨h2,h3⟩:=h'.bs i t cs h1
   rw[denL_add h3,add_b_old h1]
   exact⟨h2,ltL_grow h3⟩
  ·have h2:=(hm.b t cs h1).1
   refine⟨?_,ltL_grow (fits_ltL hf h1)⟩
   rw[show(r.add' σ γ).b σ.bs.length=γ.b from upd_at _ _ _]
   exact h2
 ·rcases grow_nr hi with h1|⟨rfl,h1⟩
  ·rw[add_x_old (nth_lt h1),add_S_old h1]
   exact h'.rs i R h1
  ·rw[show(r.add' σ γ).x σ.rs.length=γ.x from upd_at _ _ _,show(r.add' σ γ).S σ.rs.length=γ.S from upd_at _ _ _]
   exact⟨(hm.r R h1).1,fun b hS=>((hm.r R h1).2 b hS).2⟩
 ·rcases Nat.lt_or_ge i σ.rs.length with h1|h1
  ·rw[add_x_old h1];exact h.one i h1
  ·have h2:i=σ.rs.length:=by
    have:(σ.grow o).rs.length≤σ.rs.length+1:=by
     unfold St.grow;cases o.r<;>simp[snoc_eq]
    have hi':i<(σ.grow o).rs.length:=hi
    omega
   subst h2
   rw[show(r.add' σ γ).x σ.rs.length=γ.x from upd_at _ _ _]
   exact hm.one
theorem Sep.grow(h:Sep w0 σ r)(hs:See w0 σ r a w)(_hb:Below w.heap.size w w')(hm:Made (r.add' σ γ) o γ w w'): Sep w0 (σ.grow o) (r.add' σ γ):=by
 have eb:(r.add' σ γ).b σ.bs.length=γ.b:=upd_at _ _ _
 have eS:(r.add' σ γ).S σ.rs.length=γ.S:=upd_at _ _ _
 have hlow:=hs.low.size
 have hbx:∀i p,nth σ.bs i=some p→r.b i<w.heap.size:=fun i p hi=>(hs.bs i p.1 p.2 hi).1.lt
 refine⟨fun i p hi=>?_,fun i j p q hi hj hne=>?_,fun i R hi b hS=>?_,fun i j R R' hi hj hne b hS hS'=>?_,fun i j p R hi hj hS=>?_⟩
 ·rcases grow_nb hi with h1|⟨rfl,h1⟩
  ·rw[add_b_old h1];exact h.own i p h1
  ·rw[eb];have:=(hm.b p.1 p.2 h1).2;omega
 ·rcases grow_nb hi with h1|⟨rfl,h1⟩<;>rcases grow_nb hj with h2|⟨rfl,h2⟩
  ·rw[add_b_old h1,add_b_old h2];exact h.inj i j p q h1 h2 hne
  ·rw[add_b_old h1,eb];have:=(hm.b q.1 q.2 h2).2;have:=hbx i p h1;omega
  ·rw[add_b_old h2,eb];have:=(hm.b p.1 p.2 h1).2;have:=hbx j q h2;omega
  ·exact absurd rfl hne
 ·rcases grow_nr hi with h1|⟨rfl,h1⟩
  ·rw[add_S_old h1]at hS;exact h.ownS i R h1 b hS
  ·rw[eS]at hS;have:=((hm.r R h1).2 b hS).1;omega
 ·rcases grow_nr hi with h1|⟨rfl,h1⟩<;>rcases grow_nr hj with h2|⟨rfl,h2⟩
  ·rw[add_S_old h1]at hS;rw[add_S_old h2]at hS';exact h.disj i j R R' h1 h2 hne b hS hS'
  ·rw[add_S_old h1]at hS;rw[eS]at hS'
   have:=((hm.r R' h2).2 b hS').1;have:=(hs.rs i R h1).2 b hS;omega
  ·rw[add_S_old h2]at hS';rw[eS]at hS
   have:=((hm.r R h1).2 b hS).1;have:=(hs.rs j R' h2).2 b hS';omega
  ·exact absurd rfl hne
 ·rcases grow_nb hi with h1|⟨rfl,h1⟩<;>rcases grow_nr hj with h2|⟨rfl,h2⟩
  ·rw[add_b_old h1,add_S_old h2]at hS;exact h.apart i j p R h1 h2 hS
  ·rw[add_b_old h1,eS]at hS
   have:=((hm.r R h2).2 _ hS).1;have:=hbx i p h1;omega
  ·rw[eb,add_S_old h2]at hS
   have:=(hm.b p.1 p.2 h1).2;have:=(hs.rs j R h2).2 _ hS;omega
  ·rw[eb,eS]at hS;exact hm.apart p R h1 h2 hS
theorem See.push(h:See w0 σ r a w){d:Option Tmp}{s:SV}(hd:∀k,d=some k→k<σ.n)(hs:σ.lt s=true): See w0 (σ.push d s) r (a.put d (s.den r)) w:=by
 cases d with
 | none=>exact h
 | some d =>
  have hsz:d<a.tmps.size:=by rw[h.size];exact hd d rfl
  refine⟨h.low,by simpa [Act.put,St.push]using h.size,fun k u hk=>?_,h.bs,h.rs,h.one⟩
  simp only[St.push,look]at hk
  cases e:Nat.beq d k with
  | true =>
   have:d=k:=Nat.eq_of_beq_eq_true e
   subst this
   rw[e]at hk
   obtain rfl:=Option.some.inj hk
   exact⟨by simp[Act.put,hsz],hs⟩
  | false =>
   have hne:d≠k:=Nat.ne_of_beq_eq_false e
   rw[e]at hk
   obtain⟨h1,h2⟩:=h.ts k u hk
   refine⟨?_,h2⟩
   rw[← h1]
   show(a.tmps.setIfInBounds d _).getD k undef=a.tmps.getD k undef
   simp[hne]
end
open Go Go.RowKit
inductive TK where
 | struct (fs:List (Nat×Nat×Option Bool))
 | array (n e sz:Nat) (ag:Option Bool)
 | slice (e sz:Nat) (ag:Option Bool)
 | ptr (e:Nat)
 | str
 | int (k:IntKind)
 | bool
 | other
structure TI where
 size:Nat
 zero:List Value
 k:TK
def szT(P:Program)(t:TypeId): Nat:=match P.info? t with|some i=>i.size|none=>0
def agD:TypeDesc→Bool
 | .struct _=>true
 | .array _ _=>true
 | _=>false
def agT(P:Program)(t:TypeId): Option Bool:=match P.underlying t with|some d=>some (agD d)|none=>none
def TK.agg:TK→Bool
 | .struct _=>true
 | .array ..=>true
 | _=>false
def ofDesc(P:Program): TypeDesc→TK
 | .struct fs=>.struct (fs.toList.map fun f=>(f.offset,szT P f.type,agT P f.type))
 | .array n e=>.array n e (szT P e) (agT P e)
 | .slice e=>.slice e (szT P e) (agT P e)
 | .pointer e=>.ptr e
 | .string=>.str
 | .int k=>.int k
 | .bool=>.bool
 | _=>.other
def tiOf(P:Program)(t:TypeId): Option TI:=match P.info? t,P.underlying t with
 | some i,some d=>some ⟨i.size,match i.zero with|some z=>z.cells.toList|none=>[],ofDesc P d⟩
 | _,_=>none
def TTOk(P:Program)(tt:List (Nat×TI)): Prop:=∀t ti,look t tt=some ti→tiOf P t=some ti
theorem tt_ok{P:Program}: ∀ {tt:List (Nat×TI)},tt.map (fun p=>tiOf P p.1)=tt.map (fun p=>some p.2)→TTOk P tt
 | [],_=>fun _ _ h=>by cases h
 | (j,x)::l,h=>fun t ti ht=>by
  simp only[List.map_cons,List.cons.injEq]at h
  unfold look at ht
  cases e:Nat.beq j t with
  | true =>
   rw[e]at ht
   obtain rfl:=Option.some.inj ht
   rw[← Nat.eq_of_beq_eq_true e]
   exact h.1
  | false=>rw[e]at ht;exact tt_ok h.2 t ti ht
section
variable {P:Program} {t:TypeId} {ti:TI}
theorem ti_parts(h:tiOf P t=some ti): ∃i d,P.info? t=some i∧P.underlying t=some d∧ti.size=i.size∧ti.k=ofDesc P d∧(∀z,i.zero=some z→ti.zero=z.cells.toList)∧(i.zero=none→ti.zero=[]):=by
 unfold tiOf at h
 split at h
 ·rename_i i d h1 h2
  obtain rfl:=Option.some.inj h
  refine⟨i,d,h1,h2,rfl,rfl,fun z hz=>by simp only[hz],fun hz=>by simp only[hz]⟩
 ·cases h
theorem sz_run{n:Nat}(h:szT P t=n)(hn:n≠0)(w:World): (sizeOf t).run P w=.ok n w:=by
 unfold szT at h
 cases e:P.info? t with
 | none=>rw[e]at h;exact absurd h.symm hn
 | some i=>rw[e]at h;simp only at h;subst h;simp[sizeOf,typeInfo,e]
theorem ti_size(h:tiOf P t=some ti)(w:World): (sizeOf t).run P w=.ok ti.size w:=by
 obtain⟨i,d,h1,_,h3,_⟩:=ti_parts h
 simp[sizeOf,typeInfo,h1,h3]
theorem und_run{d:TypeDesc}(h:P.underlying t=some d)(w:World): (underlying t).run P w=.ok d w:=by simp[underlying,h]
theorem ag_run{b:Bool}(h:agT P t=some b)(w:World): (isAgg t).run P w=.ok b w:=by
 unfold agT at h
 cases e:P.underlying t with
 | none=>rw[e]at h;cases h
 | some d =>
  rw[e]at h
  obtain rfl:=Option.some.inj h
  unfold isAgg
  rw[Sem.run_bind,und_run e]
  cases d<;>rfl
theorem ti_agg(h:tiOf P t=some ti)(w:World): (isAgg t).run P w=.ok ti.k.agg w:=by
 obtain⟨i,d,_,h2,_,h4,_⟩:=ti_parts h
 refine ag_run ?_ w
 unfold agT;rw[h2,h4]
 cases d<;>rfl
theorem ti_zero(h:tiOf P t=some ti)(hz:ti.zero≠[])(w:World): ∃z,(zeroValue t).run P w=.ok z w∧z.cells.toList=ti.zero:=by
 obtain⟨i,d,h1,_,_,_,h5,h6⟩:=ti_parts h
 cases e:i.zero with
 | none=>exact absurd (h6 e) hz
 | some z=>exact⟨z,by simp[zeroValue,typeInfo,h1,e],(h5 z e).symm⟩
theorem ti_slice{e sz:Nat}{ag:Option Bool}(h:tiOf P t=some ti)(hk:ti.k=.slice e sz ag): P.underlying t=some (.slice e)∧szT P e=sz∧agT P e=ag:=by
 obtain⟨i,d,_,h2,_,h4,_⟩:=ti_parts h
 rw[h4]at hk
 cases d<;>simp[ofDesc]at hk
 obtain⟨rfl,rfl,rfl⟩:=hk
 exact⟨h2,rfl,rfl⟩
theorem ti_array{n e sz:Nat}{ag:Option Bool}(h:tiOf P t=some ti)(hk:ti.k=.array n e sz ag): P.underlying t=some (.array n e)∧szT P e=sz∧agT P e=ag:=by
 obtain⟨i,d,_,h2,_,h4,_⟩:=ti_parts h
 rw[h4]at hk
 cases d<;>simp[ofDesc]at hk
 obtain⟨rfl,rfl,rfl,rfl⟩:=hk
 exact⟨h2,rfl,rfl⟩
theorem ti_struct{fs:List (Nat×Nat×Option Bool)}(h:tiOf P t=some ti)(hk:ti.k=.struct fs): ∃fd:Array Field,P.underlying t=some (.struct fd)∧fs=fd.toList.map fun f=>(f.offset,szT P f.type,agT P f.type):=by
 obtain⟨i,d,_,h2,_,h4,_⟩:=ti_parts h
 rw[h4]at hk
 cases d<;>simp[ofDesc]at hk
 exact⟨_,h2,hk.symm⟩
theorem ti_int{k:IntKind}(h:tiOf P t=some ti)(hk:ti.k=.int k): P.underlying t=some (.int k):=by
 obtain⟨i,d,_,h2,_,h4,_⟩:=ti_parts h
 rw[h4]at hk
 cases d<;>simp[ofDesc]at hk
 subst hk;exact h2
theorem ti_str(h:tiOf P t=some ti)(hk:ti.k=.str): P.underlying t=some .string:=by
 obtain⟨i,d,_,h2,_,h4,_⟩:=ti_parts h
 rw[h4]at hk
 cases d<;>simp[ofDesc]at hk
 exact h2
theorem ti_ptr{e:Nat}(h:tiOf P t=some ti)(hk:ti.k=.ptr e): P.underlying t=some (.pointer e):=by
 obtain⟨i,d,_,h2,_,h4,_⟩:=ti_parts h
 rw[h4]at hk
 cases d<;>simp[ofDesc]at hk
 subst hk;exact h2
end
def SV.cells:SV→List SV
 | .val y=>y.cells.toList.map SV.val
 | .agg l=>l
 | z=>[z]
theorem oneCell_cells{v:Value}(h:v.oneCell'=true): v.cells=#[v]:=by cases v<;>first|rfl|(simp[Value.oneCell']at h)
def SV.okCell:SV→Bool
 | .val y=>y.oneCell'
 | .agg _=>false
 | .tup _=>false
 | _=>true
section
variable {w0:World} {σ:St} {r:Env} {a:Act} {w:World}
theorem lt_one(h:See w0 σ r a w){i:Nat}(hs:σ.lt (.han i)=true): (r.x i).oneCell'=true:=h.one i (blt_lt hs)
theorem cells_den(h:See w0 σ r a w){s:SV}(hs:σ.lt s=true): denL r s.cells=(s.den r).cells.toList:=by
 cases s with
 | val y=>simp[SV.cells,SV.den,denL_v]
 | agg l=>simp[SV.cells,SV.den,Value.cells]
 | han i=>simp[SV.cells,denL,SV.den,oneCell_cells (lt_one h hs)]
 | _=>simp[SV.cells,denL,SV.den,Value.cells]
theorem cells_lt{s:SV}(hs:σ.lt s=true): σ.ltL s.cells=true:=by
 cases s with
 | val y=>exact okL_v _ _ _
 | agg l=>exact hs
 | _=>exact Bool.and_eq_true_iff.2 ⟨hs,rfl⟩
theorem okCell_den(h:See w0 σ r a w){s:SV}(hs:σ.lt s=true)(hc:s.okCell=true): (s.den r).oneCell'=true:=by
 cases s with
 | val y=>exact hc
 | han i=>exact lt_one h hs
 | agg l=>cases hc
 | tup l=>cases hc
 | _=>rfl
end
def spl{α:Type}: List α→Nat→List α→List α
 | [],_,_=>[]
 | x::l,_,[]=>x::l
 | _::l,0,v::vs=>v::spl l 0 vs
 | x::l,n+1,v::vs=>x::spl l n (v::vs)
theorem spl_nil{α:Type}(l:List α)(n:Nat): spl l n []=l:=by cases l<;>rfl
theorem spl_len{α:Type}: ∀(l:List α) (n:Nat) (vs:List α),(spl l n vs).length=l.length
 | [],_,_=>rfl
 | _::_,_,[]=>by rw[spl_nil]
 | _::l,0,v::vs=>congrArg Nat.succ (spl_len l 0 vs)
 | _::l,n+1,v::vs=>congrArg Nat.succ (spl_len l n (v::vs))
theorem spl_set{α:Type}: ∀(l:List α) (n:Nat) (v:α) (vs:List α),spl l n (v::vs)=spl (l.set n v) (n+1) vs
 | [],_,_,_=>rfl
 | x::l,0,v,[]=>by simp[spl,spl_nil]
 | x::l,0,v,u::vs=>rfl
 | x::l,n+1,v,[]=>by
  rw[spl_nil]
  show x::spl l n [v]=x::l.set n v
  rw[spl_set l n v [],spl_nil]
 | x::l,n+1,v,u::vs=>congrArg (x::·) (spl_set l n v (u::vs))
theorem spl_map{α β:Type}(f:α→β): ∀(l:List α) (n:Nat) (vs:List α),(spl l n vs).map f=spl (l.map f) n (vs.map f)
 | [],_,_=>rfl
 | _::_,_,[]=>by rw[spl_nil];exact(spl_nil _ _).symm
 | _::l,0,v::vs=>congrArg (f v::·) (spl_map f l 0 vs)
 | x::l,n+1,v::vs=>congrArg (f x::·) (spl_map f l n (v::vs))
theorem okL_spl{β ξ:Nat→Bool}: ∀ {l:List SV} {n:Nat} {vs:List SV},okL β ξ l=true→okL β ξ vs=true→okL β ξ (spl l n vs)=true
 | [],_,_,_,_=>rfl
 | _::_,_,[],h,_=>by rw[spl_nil];exact h
 | _::l,0,v::vs,h,k=>Bool.and_eq_true_iff.2 ⟨(Bool.and_eq_true_iff.1 k).1,okL_spl (l:=l) (n:=0) (Bool.and_eq_true_iff.1 h).2 (Bool.and_eq_true_iff.1 k).2⟩
 | x::l,n+1,v::vs,h,k=>Bool.and_eq_true_iff.2 ⟨(Bool.and_eq_true_iff.1 h).1,okL_spl (l:=l) (n:=n) (Bool.and_eq_true_iff.1 h).2 k⟩
theorem putN_spl:∀(vs:List Value) (k:Nat) (l:List Value),putN l.toArray k vs=(spl l k vs).toArray
 | [],k,l=>by rw[spl_nil];rfl
 | v::vs,k,l=>by
  show putN (l.toArray.setIfInBounds k v) (k+1) vs=_
  rw[spl_set,List.setIfInBounds_toArray,putN_spl vs (k+1)]
theorem fold_spl:∀(vs:List Value) (k o:Nat) (l:List Value),(vs.zipIdx k).foldl (fun cs (x:Value×Nat)=>cs.setIfInBounds (o+x.2) x.1) l.toArray=(spl l (o+k) vs).toArray
 | [],k,o,l=>by rw[spl_nil];rfl
 | v::vs,k,o,l=>by
  rw[List.zipIdx_cons,List.foldl_cons,spl_set,List.setIfInBounds_toArray,fold_spl vs (k+1) o]
  rfl
def fillS(place:Nat→Option (Nat×Nat)): List SV→List (Nat×SV)→Option (List SV)
 | cells,[]=>some cells
 | cells,(i,s)::l=>match place i with
  | none=>none
  | some (off,size)=>bif Nat.beq s.cells.length size&&Nat.ble (off+s.cells.length) cells.length then fillS place (spl cells off s.cells) l else none
section
variable {w0:World} {σ:St} {r:Env} {a:Act} {w:World}
theorem fill_den(h:See w0 σ r a w)(place:Nat→Option (Nat×Nat)): ∀(ps:List (Nat×SV)) (cells l:List SV),(∀p,p∈ps→σ.lt p.2=true)→σ.ltL cells=true→fillS place cells ps=some l →
  Instr.fill place (denL r cells).toArray (ps.map fun p=>(p.1,p.2.den r))=some (denL r l).toArray
 | [],cells,l,_,_,e=>by
  obtain rfl:=Option.some.inj e
  rfl
 | (i,s)::ps,cells,l,hp,hc,e=>by
  have hs:σ.lt s=true:=hp (i,s) (by simp)
  simp only[fillS]at e
  simp only[List.map_cons,Instr.fill]
  cases e1:place i with
  | none=>rw[e1]at e;cases e
  | some q =>
   obtain⟨off,size⟩:=q
   rw[e1]at e
   dsimp only at e ⊢
   cases e2:Nat.beq s.cells.length size&&Nat.ble (off+s.cells.length) cells.length with
   | false=>rw[e2]at e;cases e
   | true =>
    rw[e2]at e
    obtain⟨e3,e4⟩:=Bool.and_eq_true_iff.1 e2
    have e5:=Nat.eq_of_beq_eq_true e3
    have e6:=Nat.le_of_ble_eq_true e4
    have hcd:=cells_den h hs
    have hl:(s.den r).cells.size=s.cells.length:=by rw[← Array.length_toList,← hcd,denL_len]
    have hn:¬((s.den r).cells.size≠size||off+(s.den r).cells.size>(denL r cells).toArray.size)=true:=by
     simp[hl,e5,denL_len];omega
    rw[if_neg hn]
    have hz:(s.den r).cells.zipIdx.foldl (fun cs x=>cs.setIfInBounds (off+x.2) x.1) (denL r cells).toArray=(denL r (spl cells off s.cells)).toArray:=by
     have h1:=fold_spl (s.den r).cells.toList 0 off (denL r cells)
     rw[Nat.add_zero,← hcd,denL_map r s.cells,denL_map r cells,← spl_map]at h1
     simp only[← denL_map]at h1
     rw[← h1,hcd,← Array.toList_zipIdx,← Array.foldl_toList]
    have h2:=fill_den h place ps (spl cells off s.cells) l (fun p hp'=>hp p (by simp[hp'])) (okL_spl hc (cells_lt hs)) e
    rw[← h2]
    congr 1
end
def evS(σ:St): Operand→Option SV
 | .tmp k=>look k σ.ts
 | .const v=>some (.val v)
 | .global g=>some (.val (.pointer (some ⟨g,0,none⟩)))
 | .func f=>some (.clo (.func f) [] [])
def evK(σ:St)(x:Operand)(K:SV→Prop): Prop:=match evS σ x with|some s=>K s|none=>False
def evL(σ:St): List Operand→(List SV→Prop)→Prop
 | [],K=>K []
 | x::l,K=>evK σ x fun s=>evL σ l fun m=>K (s::m)
def evP(σ:St): List (Nat×Operand)→(List (Nat×SV)→Prop)→Prop
 | [],K=>K []
 | (i,x)::l,K=>evK σ x fun s=>evP σ l fun m=>K ((i,s)::m)
def tiK(tt:List (Nat×TI))(t:TypeId)(K:TI→Prop): Prop:=match look t tt with|some ti=>K ti|none=>False
def optK{α:Type}(o:Option α)(K:α→Prop): Prop:=match o with|some y=>K y|none=>False
def nonB{α:Type}: List α→Bool
 | []=>false
 | _::_=>true
def rep(z:List Value): Nat→List Value
 | 0=>[]
 | n+1=>z++rep z n
section
variable {w0:World} {σ:St} {r:Env} {a:Act} {w:World}
theorem evS_den(h:See w0 σ r a w){x:Operand}{s:SV}(e:evS σ x=some s): a.eval x=s.den r∧σ.lt s=true:=by
 cases x with
 | tmp k=>exact h.ts k s e
 | const v=>obtain rfl:=Option.some.inj e;exact⟨rfl,rfl⟩
 | global g=>obtain rfl:=Option.some.inj e;exact⟨rfl,rfl⟩
 | func f=>obtain rfl:=Option.some.inj e;exact⟨rfl,rfl⟩
theorem evK_spec{x:Operand}{K:SV→Prop}(e:evK σ x K): ∃s,evS σ x=some s∧K s:=by
 unfold evK at e
 split at e
 ·exact⟨_,by assumption,e⟩
 ·exact e.elim
theorem evL_spec:∀ {l:List Operand} {K:List SV→Prop},evL σ l K→∃m,K m∧∀r a w,See w0 σ r a w→l.map a.eval=denL r m∧σ.ltL m=true
 | [],K,e=>⟨[],e,fun _ _ _ _=>⟨rfl,rfl⟩⟩
 | x::l,K,e=>by
  obtain⟨s,h1,h2⟩:=evK_spec e
  obtain⟨m,h3,h4⟩:=evL_spec (l:=l) h2
  refine⟨s::m,h3,fun r a w h=>?_⟩
  obtain⟨h5,h6⟩:=h4 r a w h
  obtain⟨h7,h8⟩:=evS_den h h1
  exact⟨by simp[denL,h5,h7],Bool.and_eq_true_iff.2 ⟨h8,h6⟩⟩
theorem evP_spec:∀ {l:List (Nat×Operand)} {K:List (Nat×SV)→Prop},evP σ l K→∃m,K m∧∀r a w,See w0 σ r a w→l.map (fun p=>(p.1,a.eval p.2))=m.map (fun p=>(p.1,p.2.den r))∧∀p,p∈m→σ.lt p.2=true
 | [],K,e=>⟨[],e,fun _ _ _ _=>⟨rfl,fun _ h=>by cases h⟩⟩
 | (i,x)::l,K,e=>by
  obtain⟨s,h1,h2⟩:=evK_spec e
  obtain⟨m,h3,h4⟩:=evP_spec (l:=l) h2
  refine⟨(i,s)::m,h3,fun r a w h=>?_⟩
  obtain⟨h5,h6⟩:=h4 r a w h
  obtain⟨h7,h8⟩:=evS_den h h1
  refine⟨by simp[h5,h7],fun p hp=>?_⟩
  rcases List.mem_cons.1 hp with rfl|hp
  ·exact h8
  ·exact h6 p hp
theorem tiK_spec{tt:List (Nat×TI)}{P:Program}(hT:TTOk P tt){t:TypeId}{K:TI→Prop}(e:tiK tt t K): ∃ti,tiOf P t=some ti∧K ti:=by
 unfold tiK at e
 split at e
 ·exact⟨_,hT t _ (by assumption),e⟩
 ·exact e.elim
theorem optK_spec{α:Type}{o:Option α}{K:α→Prop}(e:optK o K): ∃y,o=some y∧K y:=by
 unfold optK at e
 split at e
 ·exact⟨_,rfl,e⟩
 ·exact e.elim
theorem bif_spec{b:Bool}{p:Prop}(e:bif b then p else False): b=true∧p:=by cases b<;>simp_all
end
def QStep(P:Program)(w0:World)(o:Oper)(σ:St)(K:Out→Prop): Prop :=
 ∀r a w,See w0 σ r a w→∀(Q:Exit→Act→World→Prop) (next:Act→World→Prop),
  (∀out γ w',K out→Below w.heap.size w w'→Made (r.add' σ γ) out γ w w'→next (a.put o.dst (out.s.den (r.add' σ γ))) w')→o.wp P a w next Q
def QOk(P:Program)(w0:World)(o:Oper)(σ:St)(K:Out→Prop): Prop:=∃out,K out∧QStep P w0 o σ fun u=>u=out
section
variable {P:Program} {w0:World} {o:Oper} {σ:St} {K:Out→Prop}
theorem made_no(r:Env)(s:SV)(w:World): Made r ⟨s,none,none⟩ Gh.no w w :=
 ⟨rfl,(fun _ _ h=>nomatch h),(fun _ h=>nomatch h),(fun _ _ h=>nomatch h)⟩
theorem q_val(s:SV)(h:K ⟨s,none,none⟩)(hs:σ.lt s=true)(hr:∀r a w,See w0 σ r a w→(execOp a.eval o).run P w=.ok (.value (s.den r)) w): QOk P w0 o σ K:=⟨_,h,fun r a w hw Q next hn=>by
 have h1:=hn _ Gh.no w rfl (Below.refl _ _) (made_no _ _ _)
 rw[den_add hs]at h1
 unfold Oper.wp
 rw[hr r a w hw]
 exact h1⟩
theorem q_box(s:SV)(t:TypeId)(cs:List SV)(h:K ⟨s,some (t,cs),none⟩)(hc:σ.ltL cs=true)(hr:∀r a w,See w0 σ r a w→(execOp a.eval o).run P w=.ok (.value (s.den (r.add' σ ⟨w.heap.size,.bool false,fun _=>False⟩))) (w.alloc (.cells (denL r cs).toArray t))): QOk P w0 o σ K:=⟨_,h,fun r a w hw Q next hn=>by
 unfold Oper.wp
 rw[hr r a w hw]
 refine hn _ ⟨w.heap.size,.bool false,fun _=>False⟩ _ rfl (b1 w _) ⟨rfl,fun t' cs' e=>?_,(fun _ h=>nomatch h),(fun _ _ _ h=>nomatch h)⟩
 simp only[Option.some.injEq,Prod.mk.injEq]at e
 obtain⟨rfl,rfl⟩:=e
 rw[denL_add hc]
 exact⟨Bx.new w _ _,Nat.le_refl _⟩⟩
end
open Go Go.RowKit
def nthL{α:Type}: List α→Nat→Option α
 | [],_=>none
 | x::_,0=>some x
 | _::l,n+1=>nthL l n
theorem nthL_eq{α:Type}: ∀(l:List α) (n:Nat),nthL l n=l[n]?
 | [],_=>by simp[nthL]
 | x::l,0=>rfl
 | x::l,n+1=>by simpa [nthL]using nthL_eq l n
def nonz(n:Nat): Bool:=!Nat.beq n 0
theorem nonz_ne{n:Nat}(h:nonz n=true): n≠0:=by
 rintro rfl;cases h
theorem nonB_ne{α:Type}{l:List α}(h:nonB l=true): l≠[]:=by
 rintro rfl;cases h
theorem nthL_den{r:Env}{l:List SV}{n:Nat}{s:SV}(h:nthL l n=some s): (denL r l)[n]?=some (s.den r):=by
 rw[denL_map,List.getElem?_map,← nthL_eq,h];rfl
theorem cut_den(r:Env)(l:List SV)(o n:Nat): denL r ((l.drop o).take n)=((denL r l).drop o).take n:=by simp[denL_map,List.map_take,List.map_drop]
section
variable {P:Program} {w:World} {g o:Nat} {t bt:TypeId} {cs:List Value} {ti:TI}
theorem load_agg(hi:tiOf P t=some ti)(ha:ti.k.agg=true)(hb:Bx w g bt cs.toArray)(hn:o+ti.size≤cs.length):
  (Instr.loadAt t (.pointer (some ⟨g,o,none⟩))).run P w=.ok (.agg ((cs.drop o).take ti.size).toArray) w:=by
 have hl:((cs.drop o).take ti.size).length=ti.size:=by rw[List.length_take,List.length_drop];omega
 have h1:=run_loadCells_list (P:=P) w ⟨g,o,none⟩ ((cs.drop o).take ti.size) (fun j v hj=>by
  rw[add_plain,hb.cel]
  have h2:j<ti.size:=by rw[← hl];exact(List.getElem?_eq_some_iff.1 hj).1
  rw[List.getElem?_take_of_lt h2,List.getElem?_drop]at hj
  simpa using hj)
 rw[hl]at h1
 simp[Instr.loadAt,Instr.sureAddr,loadVar,ti_agg hi,ha,ti_size hi,h1]
theorem load_one{v:Value}(hi:tiOf P t=some ti)(ha:ti.k.agg=false)(hb:Bx w g bt cs.toArray)(hv:cs[o]?=some v):
  (Instr.loadAt t (.pointer (some ⟨g,o,none⟩))).run P w=.ok v w:=by
 have h1:w.cell? ⟨g,o,none⟩=some v:=by rw[hb.cel];simpa using hv
 simp[Instr.loadAt,Instr.sureAddr,loadVar,ti_agg hi,ha,h1]
theorem setN_size:∀(vs:List Value) (k:Nat) (w:World) (g:Nat),(setN w g k vs).heap.size=w.heap.size
 | [],_,_,_=>rfl
 | v::vs,k,w,g=>by
  show(setN (w.setCell ⟨g,k,none⟩ v) g (k+1) vs).heap.size=_
  rw[setN_size vs];simp[World.setCell]
theorem store_cells:∀(vs:List Value) (i:Nat) (w:World) (cs:Array Value),Bx w g bt cs→o+i+vs.length≤cs.size→(∀v,v∈vs→v.oneCell'=true) →
  (storeCells ⟨g,o,none⟩ vs i).run P w=.ok () (setN w g (o+i) vs)
 | [],i,w,cs,_,_,_=>rfl
 | v::vs,i,w,cs,hb,hn,h1=>by
  have hlt:o+i<cs.size:=by simp at hn;omega
  have hc:w.cell? ⟨g,o+i,none⟩=some cs[o+i]:=by
   rw[hb.cel]
   exact Array.getElem?_eq_getElem hlt
  have h2:=store_cells vs (i+1) (w.setCell ⟨g,o+i,none⟩ v) (cs.setIfInBounds (o+i) v) (hb.set (o+i) v) (by simp at hn ⊢;omega) (fun u hu=>h1 u (by simp[hu]))
  unfold storeCells
  rw[Sem.run_bind,add_plain,run_store _ _ _ _ _ (h1 v (by simp)),hc]
  simp only[hb.free,Bool.false_eq_true,if_false,Result.andThen_ok]
  rw[h2]
  rfl
theorem store_run{v:Value}(hi:tiOf P t=some ti)(hb:Bx w g bt cs.toArray)(hs:v.cells.size=ti.size)(hn:o+ti.size≤cs.length)(h1:∀u,u∈v.cells.toList→u.oneCell'=true):
  (Instr.storeAt t (.pointer (some ⟨g,o,none⟩)) v).run P w=.ok () (setN w g o v.cells.toList):=by
 have h2:=store_cells (P:=P) (g:=g) (bt:=bt) (o:=o) v.cells.toList 0 w cs.toArray hb (by simp[hs];omega) h1
 simp[Instr.storeAt,Instr.sureAddr,storeVar,ti_size hi,hs]at h2 ⊢
 exact h2
theorem fs_at{fd:Array Field}{k off sz:Nat}{ag:Option Bool}(h:nthL (fd.toList.map fun f=>(f.offset,szT P f.type,agT P f.type)) k=some (off,sz,ag)): ∃f,fd[k]?=some f∧f.offset=off∧szT P f.type=sz∧agT P f.type=ag:=by
 rw[nthL_eq,List.getElem?_map]at h
 cases e:fd.toList[k]? with
 | none=>rw[e]at h;cases h
 | some f =>
  rw[e]at h
  simp only[Option.map_some,Option.some.injEq,Prod.mk.injEq]at h
  exact⟨f,by simpa using e,h.1,h.2.1,h.2.2⟩
theorem field_at{fs:List (Nat×Nat×Option Bool)}{k off sz:Nat}{ag:Option Bool}(hi:tiOf P t=some ti)(hk:ti.k=.struct fs)(h:nthL fs k=some (off,sz,ag))(hz:sz≠0):
  (Instr.fieldAt t (.pointer (some ⟨g,o,none⟩)) k).run P w=.ok (.pointer (some ⟨g,o+off,none⟩)) w:=by
 obtain⟨fd,h1,rfl⟩:=ti_struct hi hk
 obtain⟨f,h2,rfl,h3,_⟩:=fs_at h
 simp[Instr.fieldAt,und_run h1,h2,Instr.sureAddr,fieldPlace,sz_run h3 hz,hz,add_plain]
theorem part_agg{e sz:Nat}{l:List Value}(ha:agT P e=some true)(hz:szT P e=sz)(hz0:sz≠0)(off:Nat): (part e l.toArray off).run P w=.ok (.agg ((l.drop off).take sz).toArray) w:=by
 simp[part,ag_run ha,sz_run hz hz0]
theorem part_one{e:Nat}{l:List Value}{v:Value}(ha:agT P e=some false){off:Nat}(hv:l[off]?=some v): (part e l.toArray off).run P w=.ok v w:=by
 simp[part,ag_run ha,hv]
theorem field_agg{fs:List (Nat×Nat×Option Bool)}{k off sz:Nat}{l:List Value}(hi:tiOf P t=some ti)(hk:ti.k=.struct fs)(h:nthL fs k=some (off,sz,some true))(hz:sz≠0):
  (Instr.field t (.agg l.toArray) k).run P w=.ok (.agg ((l.drop off).take sz).toArray) w:=by
 obtain⟨fd,h1,rfl⟩:=ti_struct hi hk
 obtain⟨f,h2,rfl,h3,h4⟩:=fs_at h
 simp[Instr.field,und_run h1,h2,asAgg,part_agg h4 h3 hz]
theorem field_one{fs:List (Nat×Nat×Option Bool)}{k off sz:Nat}{l:List Value}{v:Value}(hi:tiOf P t=some ti)(hk:ti.k=.struct fs)(h:nthL fs k=some (off,sz,some false))(hv:l[off]?=some v):
  (Instr.field t (.agg l.toArray) k).run P w=.ok v w:=by
 obtain⟨fd,h1,rfl⟩:=ti_struct hi hk
 obtain⟨f,h2,rfl,h3,h4⟩:=fs_at h
 simp[Instr.field,und_run h1,h2,asAgg,part_one h4 hv]
theorem index_arr{n e sz m:Nat}{ag:Option Bool}{k:IntKind}(hi:tiOf P t=some ti)(hk:ti.k=.array n e sz ag)(hm:m<n)(hz:sz≠0):
  (Instr.indexAt t (.pointer (some ⟨g,o,none⟩)) (.int k (Int.ofNat m))).run P w=.ok (.pointer (some ⟨g,o+m*sz,none⟩)) w:=by
 obtain⟨h1,h2,_⟩:=ti_array hi hk
 simp[Instr.indexAt,asIntOf,und_run h1,Instr.sureAddr,hm,sz_run h2 hz,add_plain]
theorem index_sli{n c e sz m:Nat}{ag:Option Bool}{k:IntKind}(hi:tiOf P t=some ti)(hk:ti.k=.slice e sz ag)(hm:m<n)(hz:sz≠0):
  (Instr.indexAt t (.slice (some ⟨g,o,none⟩) n c) (.int k (Int.ofNat m))).run P w=.ok (.pointer (some ⟨g,o+m*sz,none⟩)) w:=by
 obtain⟨h1,h2,_⟩:=ti_slice hi hk
 simp[Instr.indexAt,asIntOf,und_run h1,hm,sz_run h2 hz,add_plain]
theorem index_agg{n e sz m:Nat}{k:IntKind}{l:List Value}(hi:tiOf P t=some ti)(hk:ti.k=.array n e sz (some true))(hm:m<n)(hz:sz≠0):
  (Instr.index t (.agg l.toArray) (.int k (Int.ofNat m))).run P w=.ok (.agg ((l.drop (m*sz)).take sz).toArray) w:=by
 obtain⟨h1,h2,h3⟩:=ti_array hi hk
 simp[Instr.index,asIntOf,und_run h1,hm,sz_run h2 hz,part_agg h3 h2 hz]
theorem index_one{n e sz m:Nat}{k:IntKind}{l:List Value}{v:Value}(hi:tiOf P t=some ti)(hk:ti.k=.array n e sz (some false))(hm:m<n)(hz:sz≠0)(hv:l[m*sz]?=some v):
  (Instr.index t (.agg l.toArray) (.int k (Int.ofNat m))).run P w=.ok v w:=by
 obtain⟨h1,h2,h3⟩:=ti_array hi hk
 simp[Instr.index,asIntOf,und_run h1,hm,sz_run h2 hz,part_one h3 hv]
theorem bound_run{m y:Nat}{k:IntKind}{c:BoundsCode}(h:m≤y): (Instr.sliceBound (.int k (m:Int)) y c).run P w=.ok m w:=by
 have h1:(m:Int)≤(y:Int):=by omega
 simp[Instr.sliceBound,asIntOf,h1]
def lowIs(x:Option Value)(m:Nat): Prop:=(x=none∧m=0)∨∃k,x=some (.int k (Int.ofNat m))
def highIs(x:Option Value)(n m:Nat): Prop:=(x=none∧m=n)∨∃k,x=some (.int k (Int.ofNat m))
theorem bounds_run{isS:Bool}{len cap l h:Nat}{lo hi:Option Value}(hl:lowIs lo l)(hh:highIs hi len h)(h1:l≤h)(h2:h≤cap): (Instr.sliceBounds isS len cap lo hi none).run P w=.ok (l,h,cap) w:=by
 rcases hl with⟨rfl,rfl⟩|⟨k,rfl⟩<;>rcases hh with⟨rfl,rfl⟩|⟨k',rfl⟩ <;>
  simp[Instr.sliceBounds,bound_run h1,bound_run h2]
theorem slice_arr{n e sz l h:Nat}{ag:Option Bool}{lo hi:Option Value}(hi0:tiOf P t=some ti)(hk:ti.k=.array n e sz ag)(hz:sz≠0)(hl:lowIs lo l)(hh:highIs hi n h)(h1:l≤h)(h2:h≤n):
  (Instr.sliceAt t (.pointer (some ⟨g,o,none⟩)) lo hi none).run P w=.ok (.slice (some ⟨g,if n=l then o else o+l*sz,none⟩) (h-l) (n-l)) w:=by
 obtain⟨h3,h4,_⟩:=ti_array hi0 hk
 simp[Instr.sliceAt,und_run h3,Instr.sureAddr,bounds_run hl hh h1 h2,sz_run h4 hz]
 split<;>simp_all [add_plain]
theorem slice_ptr{n e e' sz l h:Nat}{ag:Option Bool}{te:TI}{lo hi:Option Value}(hi0:tiOf P t=some ti)(hk:ti.k=.ptr e')(hi1:tiOf P e'=some te)(hk1:te.k=.array n e sz ag)(hz:sz≠0)(hl:lowIs lo l)(hh:highIs hi n h)(h1:l≤h)(h2:h≤n):
  (Instr.sliceAt t (.pointer (some ⟨g,o,none⟩)) lo hi none).run P w=.ok (.slice (some ⟨g,if n=l then o else o+l*sz,none⟩) (h-l) (n-l)) w:=by
 have h0:=ti_ptr hi0 hk
 obtain⟨h3,h4,_⟩:=ti_array hi1 hk1
 simp[Instr.sliceAt,Instr.slice,und_run h0,und_run h3,asAddr,bounds_run hl hh h1 h2,sz_run h4 hz]
 split<;>simp_all [add_plain]
theorem slice_sli{n c e sz l h:Nat}{ag:Option Bool}{lo hi:Option Value}(hi0:tiOf P t=some ti)(hk:ti.k=.slice e sz ag)(hz:sz≠0)(hl:lowIs lo l)(hh:highIs hi n h)(h1:l≤h)(h2:h≤c):
  (Instr.sliceAt t (.slice (some ⟨g,o,none⟩) n c) lo hi none).run P w=.ok (.slice (some ⟨g,if c=l then o else o+l*sz,none⟩) (h-l) (c-l)) w:=by
 obtain⟨h3,h4,_⟩:=ti_slice hi0 hk
 simp[Instr.sliceAt,Instr.slice,und_run h3,bounds_run hl hh h1 h2,sz_run h4 hz]
 split<;>simp_all [add_plain]
theorem alloc_run(hi:tiOf P t=some ti)(hz:ti.zero≠[]): (Instr.alloc t true (.tuple #[])).run P w=.ok (.pointer (some ⟨w.heap.size,0,none⟩)) (w.alloc (.cells ti.zero.toArray t)):=by
 obtain⟨z,h1,h2⟩:=ti_zero hi hz w
 have h3:z.cells=ti.zero.toArray:=by rw[← h2]
 simp[Instr.alloc,h1,newVar,newRow,h3]
theorem box_run(v:Value): (Instr.box t v).run P w=.ok (.pointer (some ⟨w.heap.size,0,none⟩)) (w.alloc (.cells v.cells t)):=by
 simp[Instr.box,newVar,newRow]
end
open Go Go.RowKit
def one(s:SV): Out:=⟨s,none,none⟩
def lit(b:Bool): Out:=⟨.val (.bool b),none,none⟩
def intS(op:BinOp)(k:IntKind)(a b:Int)(K:Out→Prop): Prop:=match op with
 | .add=>K (one (.val (.int k (k.wrap (a+b)))))
 | .sub=>K (one (.val (.int k (k.wrap (a-b)))))
 | .mul=>K (one (.val (.int k (k.wrap (a*b)))))
 | .eql=>K (lit (a==b))
 | .neq=>K (lit (a != b))
 | .lss=>K (lit (decide (a<b)))
 | .leq=>K (lit (decide (a≤b)))
 | .gtr=>K (lit (decide (a>b)))
 | .geq=>K (lit (decide (a≥b)))
 | _=>False
def kindB(k k':IntKind): Bool:=match k,k' with
 | .i8,.i8=>true | .i16,.i16=>true | .i32,.i32=>true | .i64,.i64=>true
 | .u8,.u8=>true | .u16,.u16=>true | .u32,.u32=>true | .u64,.u64=>true
 | _,_=>false
theorem kindB_eq{k k':IntKind}(h:kindB k k'=true): k=k':=by cases k<;>cases k'<;>first|rfl|(cases h)
def nilS(op:BinOp)(K:Out→Prop): Prop:=match op with
 | .eql=>K (lit false)
 | .neq=>K (lit true)
 | _=>False
def binS(tt:List (Nat×TI))(op:BinOp)(t:TypeId)(x y:SV)(K:Out→Prop): Prop:=match x,y with
 | .val (.int k a),.val (.int k' b)=>bif kindB k k' then intS op k a b K else False
 | .ptr _ _,.val (.pointer none)=>tiK tt t fun ti=>match ti.k with | .ptr _=>nilS op K|_=>False
 | .sli _ _ _ _,.val (.slice none _ _)=>tiK tt t fun ti=>match ti.k with | .slice _ _ _=>nilS op K|_=>False
 | _,_=>False
def unS(op:UnOp)(x:SV)(K:Out→Prop): Prop:=match op,x with
 | .not,.val (.bool b)=>K (lit (!b))
 | .neg,.val (.int k n)=>K (one (.val (.int k (k.wrap (0-n)))))
 | _,_=>False
def listK(s:SV)(K:List SV→Prop): Prop:=match s with
 | .agg l=>K l
 | .val (.agg cs)=>K (cs.toList.map SV.val)
 | _=>False
def tupK(s:SV)(K:List SV→Prop): Prop:=match s with
 | .tup l=>K l
 | .val (.tuple cs)=>K (cs.toList.map SV.val)
 | _=>False
def natK(s:SV)(K:Nat→Prop): Prop:=match s with
 | .val (.int _ (.ofNat m))=>K m
 | _=>False
def lowK(σ:St)(x:Option Operand)(K:Nat→Prop): Prop:=match x with
 | none=>K 0
 | some x=>evK σ x fun s=>natK s K
def highK(σ:St)(x:Option Operand)(n:Nat)(K:Nat→Prop): Prop:=match x with
 | none=>K n
 | some x=>evK σ x fun s=>natK s K
def partS(l:List SV)(off sz:Nat)(ag:Option Bool)(K:Out→Prop): Prop:=match ag with
 | some true=>bif nonz sz then K (one (.agg ((l.drop off).take sz)))else False
 | some false=>optK (nthL l off) fun c=>K (one c)
 | none=>False
def sliS(b o _n c l h sz:Nat)(K:Out→Prop): Prop:=bif nonz sz&&Nat.ble l h&&Nat.ble h c then K (one (.sli b (bif Nat.beq c l then o else o+l*sz) (h-l) (c-l)))else False
def arrS(tt:List (Nat×TI))(t:TypeId)(K:Nat→Nat→Prop): Prop:=tiK tt t fun ti=>match ti.k with
 | .array n _ sz _=>K n sz
 | .ptr e=>tiK tt e fun te=>match te.k with
  | .array n _ sz _=>K n sz
  | _=>False
 | _=>False
def lenS(tt:List (Nat×TI))(t:TypeId)(x:SV)(K:Out→Prop): Prop:=tiK tt t fun ti=>match ti.k with
 | .str=>(match x with
  | .val (.string s)=>K (one (.val (.int .i64 s.size)))
  | _=>False)
 | .slice _ _ _=>(match x with
  | .val (.slice _ n _)=>K (one (.val (.int .i64 n)))
  | .sli _ _ n _=>K (one (.val (.int .i64 n)))
  | _=>False)
 | _=>False
def optB:Option (Nat×Nat×Option Bool)→Option (Nat×Nat)
 | some q=>some (q.1,q.2.1)
 | none=>none
def opQ(tt:List (Nat×TI))(σ:St)(o:Op)(K:Out→Prop): Prop:=match o with
 | .move x=>evK σ x fun s=>K (one s)
 | .assign x=>evK σ x fun s=>K (one s)
 | .alloc e=>tiK tt e fun ti=>bif nonB ti.zero then K ⟨.ptr σ.bs.length 0,some (e,ti.zero.map SV.val),none⟩else False
 | .box e x=>evK σ x fun s=>K ⟨.ptr σ.bs.length 0,some (e,s.cells),none⟩
 | .build t ps=>evP σ ps.toList fun ps=>tiK tt t fun ti=>bif nonB ti.zero then(match ti.k with
  | .struct fs=>bif fs.all (fun q=>nonz q.2.1)then optK (fillS (fun i=>optB (nthL fs i)) (ti.zero.map SV.val) ps) fun l=>K (one (.agg l))else False
  | .array _ _ sz _=>bif nonz sz then optK (fillS (fun i=>some (i*sz,sz)) (ti.zero.map SV.val) ps) fun l=>K (one (.agg l))else False
  | _=>False)else False
 | .buildSlice t n ps=>evP σ ps.toList fun ps=>tiK tt t fun ti=>match ti.k with
  | .slice e sz _=>tiK tt e fun te=>bif nonB te.zero&&Nat.beq te.size sz&&Nat.beq te.zero.length sz&&Nat.ble (n*sz) 16777216 then
    optK (fillS (fun i=>some (i*sz,sz)) ((rep te.zero n).map SV.val) ps) fun l=>K ⟨.sli σ.bs.length 0 n n,some (e,l),none⟩else False
  | _=>False
 | .load t x=>evK σ x fun s=>match s with
  | .ptr b o=>optK (nth σ.bs b) fun p=>tiK tt t fun ti=>match ti.k.agg with
   | true=>bif Nat.ble (o+ti.size) p.2.length then K (one (.agg ((p.2.drop o).take ti.size)))else False
   | false=>optK (nthL p.2 o) fun c=>K (one c)
  | _=>False
 | .nilCheck x=>evK σ x fun s=>match s with
  | .ptr _ _=>K (one s)
  | .clo (.func _) _ _=>K (one s)
  | .val (.pointer (some p))=>K (one (.val (.pointer (some p))))
  | _=>False
 | .fieldAddr t x f=>evK σ x fun s=>match s with
  | .ptr b o=>tiK tt t fun ti=>match ti.k with
   | .struct fs=>optK (nthL fs f) fun q=>bif nonz q.2.1 then K (one (.ptr b (o+q.1)))else False
   | _=>False
  | _=>False
 | .field t x f=>evK σ x fun s=>listK s fun l=>tiK tt t fun ti=>match ti.k with
  | .struct fs=>optK (nthL fs f) fun q=>partS l q.1 q.2.1 q.2.2 K
  | _=>False
 | .extract x i=>evK σ x fun s=>tupK s fun l=>optK (nthL l i) fun c=>K (one c)
 | .makeFunc fn l m=>evL σ l.toList fun l=>evL σ m.toList fun m=>K (one (.clo fn l m))
 | .indexAddr t x i=>evK σ x fun s=>evK σ i fun j=>natK j fun m=>match s with
  | .ptr b o=>tiK tt t fun ti=>match ti.k with
   | .array n _ sz _=>bif nonz sz&&Nat.blt m n then K (one (.ptr b (o+m*sz)))else False
   | _=>False
  | .sli b o n _=>tiK tt t fun ti=>match ti.k with
   | .slice _ sz _=>bif nonz sz&&Nat.blt m n then K (one (.ptr b (o+m*sz)))else False
   | _=>False
  | _=>False
 | .index t x i=>evK σ x fun s=>evK σ i fun j=>natK j fun m=>listK s fun l=>tiK tt t fun ti=>match ti.k with
  | .array n _ sz ag=>bif nonz sz&&Nat.blt m n then partS l (m*sz) sz ag K else False
  | _=>False
 | .slice t x lo hi none=>evK σ x fun s=>lowK σ lo fun l=>match s with
  | .ptr b o=>arrS tt t fun n sz=>highK σ hi n fun h=>sliS b o n n l h sz K
  | .sli b o n c=>tiK tt t fun ti=>match ti.k with
   | .slice _ sz _=>highK σ hi n fun h=>sliS b o n c l h sz K
   | _=>False
  | _=>False
 | .binOp op t x y _=>evK σ x fun s=>evK σ y fun u=>binS tt op t s u K
 | .unOp op _ x=>evK σ x fun s=>unS op s K
 | .convert s d x=>evK σ x fun u=>tiK tt s fun _=>tiK tt d fun ti=>match ti.k with
  | .int k=>(match u with
   | .val (.int _ n)=>K (one (.val (.int k (k.wrap n))))
   | _=>False)
  | _=>False
 | .pick c x y=>evK σ c fun s=>match s with
  | .val (.bool v)=>(match v with
   | true=>evK σ x fun s=>K (one s)
   | false=>evK σ y fun s=>K (one s))
  | _=>False
 | .call c=>match c.callee with
  | .builtin .len=>match c.args.toList,c.argTypes.toList with
   | [x],[t]=>evK σ x fun s=>lenS tt t s K
   | _,_=>False
  | _=>False
 | _=>False
section
variable {P:Program} {tt:List (Nat×TI)} {w0:World} {σ:St} {K:Out→Prop}
theorem lt_of(hK:∀out,K out→σ.fits out=true){s:SV}(h:K (one s)): σ.lt s=true:=(Bool.and_eq_true_iff.1 (hK _ h)).1
theorem run_v{x:Sem Value}{v:Value}{w w':World}(h:x.run P w=.ok v w'): (do pure (.value (← x)):Sem Next).run P w=.ok (.value v) w':=by
 simp[h]
theorem q_one(hK:∀out,K out→σ.fits out=true){o:Oper}(s:SV)(h:K (one s))(hr:∀r a w,See w0 σ r a w→(execOp a.eval o).run P w=.ok (.value (s.den r)) w): QOk P w0 o σ K :=
 q_val s h (lt_of hK h) hr
theorem partS_ok(hK:∀out,K out→σ.fits out=true){o:Oper}{l:List SV}{off sz:Nat}{ag:Option Bool}(h:partS l off sz ag K)(h1:ag=some true→sz≠0→∀r a w,See w0 σ r a w→(execOp a.eval o).run P w=.ok (.value (.agg (((denL r l).drop off).take sz).toArray)) w)(h2:ag=some false→∀r a w v,See w0 σ r a w→(denL r l)[off]?=some v→(execOp a.eval o).run P w=.ok (.value v) w): QOk P w0 o σ K:=by
 unfold partS at h
 split at h
 ·obtain⟨hz,h⟩:=bif_spec h
  refine q_one hK _ h fun r a w hw=>?_
  simp only[SV.den,cut_den]
  exact h1 rfl (nonz_ne hz) r a w hw
 ·obtain⟨c,hc,h⟩:=optK_spec h
  exact q_one hK _ h fun r a w hw=>h2 rfl r a w _ hw (nthL_den hc)
 ·exact h.elim
theorem listK_spec{s:SV}{K:List SV→Prop}(h:listK s K): ∃l,K l∧∀r,s.den r=.agg (denL r l).toArray:=by
 unfold listK at h
 split at h
 ·exact⟨_,h,fun r=>rfl⟩
 ·exact⟨_,h,fun r=>by simp[SV.den,denL_v]⟩
 ·exact h.elim
theorem tupK_spec{s:SV}{K:List SV→Prop}(h:tupK s K): ∃l,K l∧∀r,s.den r=.tuple (denL r l).toArray:=by
 unfold tupK at h
 split at h
 ·exact⟨_,h,fun r=>rfl⟩
 ·exact⟨_,h,fun r=>by simp[SV.den,denL_v]⟩
 ·exact h.elim
theorem natK_spec{s:SV}{K:Nat→Prop}(h:natK s K): ∃k m,s=.val (.int k (.ofNat m))∧K m:=by
 unfold natK at h
 split at h
 ·exact⟨_,_,rfl,h⟩
 ·exact h.elim
theorem lowK_spec{x:Option Operand}{K:Nat→Prop}(h:lowK σ x K): ∃m,K m∧∀r a w,See w0 σ r a w→lowIs (x.map a.eval) m:=by
 unfold lowK at h
 split at h
 ·exact⟨0,h,fun _ _ _ _=>.inl ⟨rfl,rfl⟩⟩
 ·obtain⟨s,h1,h2⟩:=evK_spec h
  obtain⟨k,m,rfl,h3⟩:=natK_spec h2
  exact⟨m,h3,fun r a w hw=>.inr ⟨k,by rw[Option.map_some,(evS_den hw h1).1];rfl⟩⟩
theorem highK_spec{x:Option Operand}{n:Nat}{K:Nat→Prop}(h:highK σ x n K): ∃m,K m∧∀r a w,See w0 σ r a w→highIs (x.map a.eval) n m:=by
 unfold highK at h
 split at h
 ·exact⟨n,h,fun _ _ _ _=>.inl ⟨rfl,rfl⟩⟩
 ·obtain⟨s,h1,h2⟩:=evK_spec h
  obtain⟨k,m,rfl,h3⟩:=natK_spec h2
  exact⟨m,h3,fun r a w hw=>.inr ⟨k,by rw[Option.map_some,(evS_den hw h1).1];rfl⟩⟩
theorem sliS_ok(hK:∀out,K out→σ.fits out=true){o:Oper}{b p n c l h sz:Nat}(hs:sliS b p n c l h sz K)(hr:sz≠0→l≤h→h≤c→∀r a w,See w0 σ r a w→(execOp a.eval o).run P w=.ok (.value (.slice (some ⟨r.b b,if c=l then p else p+l*sz,none⟩) (h-l) (c-l))) w): QOk P w0 o σ K:=by
 obtain⟨hc,hs⟩:=bif_spec hs
 obtain⟨hc,h3⟩:=Bool.and_eq_true_iff.1 hc
 obtain⟨h1,h2⟩:=Bool.and_eq_true_iff.1 hc
 refine q_one hK _ hs fun r a w hw=>?_
 rw[hr (nonz_ne h1) (Nat.le_of_ble_eq_true h2) (Nat.le_of_ble_eq_true h3) r a w hw]
 simp only[SV.den]
 congr 5
 by_cases e:c=l
 ·rw[if_pos e,show Nat.beq c l=true from by subst e;exact Nat.beq_refl c];rfl
 ·rw[if_neg e]
  cases e2:Nat.beq c l with
  | true=>exact absurd (Nat.eq_of_beq_eq_true e2) e
  | false=>rfl
theorem arrS_spec(hT:TTOk P tt){t:TypeId}{K:Nat→Nat→Prop}(h:arrS tt t K): ∃n sz,K n sz∧(sz≠0→∀(w:World) g o lo hi l h,lowIs lo l→highIs hi n h→l≤h→h≤n →
  (Instr.sliceAt t (.pointer (some ⟨g,o,none⟩)) lo hi none).run P w=.ok (.slice (some ⟨g,if n=l then o else o+l*sz,none⟩) (h-l) (n-l)) w):=by
 obtain⟨ti,h1,h⟩:=tiK_spec hT h
 split at h
 ·rename_i hk
  exact⟨_,_,h,fun hz w g o lo hi l h' hl hh a b=>slice_arr h1 hk hz hl hh a b⟩
 ·rename_i hk
  obtain⟨te,h2,h⟩:=tiK_spec hT h
  split at h
  ·rename_i hk2
   exact⟨_,_,h,fun hz w g o lo hi l h' hl hh a b=>slice_ptr h1 hk h2 hk2 hz hl hh a b⟩
  ·exact h.elim
 ·exact h.elim
theorem rep_at(z:List Value)(hz:z≠[]): ∀(n i:Nat),i<n*z.length→(rep z n)[i]?=z[i % z.length]?
 | 0,i,h=>by simp at h
 | n+1,i,h=>by
  have hl:0<z.length:=List.length_pos_iff.2 hz
  rw[Nat.succ_mul]at h
  show(z++rep z n)[i]?=_
  rcases Nat.lt_or_ge i z.length with h1|h1
  ·rw[List.getElem?_append_left h1,Nat.mod_eq_of_lt h1]
  ·rw[List.getElem?_append_right h1,rep_at z hz n (i-z.length) (by omega),← Nat.mod_eq_sub_mod h1]
theorem rep_len(z:List Value): ∀n,(rep z n).length=n*z.length
 | 0=>by simp[rep]
 | n+1=>by simp[rep,rep_len z n,Nat.succ_mul];omega
theorem rep_cells(z:Array Value)(hz:z.toList≠[])(n:Nat): (Array.range (n*z.size)).map (fun i=>z[i % z.size]!)=(rep z.toList n).toArray:=by
 apply Array.ext'
 apply List.ext_getElem?
 intro i
 have hl:0<z.size:=by rw[← Array.length_toList];exact List.length_pos_iff.2 hz
 by_cases hi:i<n*z.size
 ·have h1:=rep_at z.toList hz n i (by simpa using hi)
  have hm:i % z.size<z.size:=Nat.mod_lt _ hl
  rw[h1]
  simp[hi,hm]
 ·rw[List.getElem?_eq_none (by simp;omega),List.getElem?_eq_none (by rw[rep_len];simp;omega)]
end
open Go Go.RowKit
section
variable {P:Program} {tt:List (Nat×TI)} {w0:World} {σ:St} {K:Out→Prop}
theorem mapM_run{α β:Type}{g:α→Sem β}{f:α→β}{w:World}: ∀ {l:List α},(∀x,x∈l→(g x).run P w=.ok (f x) w)→(l.mapM g).run P w=.ok (l.map f) w
 | [],_=>rfl
 | x::l,h=>by
  rw[List.mapM_cons,Sem.run_bind,h x (by simp),Result.andThen_ok,Sem.run_bind,mapM_run (l:=l) fun y hy=>h y (by simp[hy])]
  rfl
theorem places_run{fd:Array Field}(h:∀f,f∈fd.toList→szT P f.type≠0)(w:World): (fd.mapM fun(f:Field)=>(do pure (f.offset,← sizeOf f.type):Sem (Nat×Nat))).run P w=.ok (fd.map fun f=>(f.offset,szT P f.type)) w:=by
 rw[Array.mapM_eq_mapM_toList,Sem.run_map,mapM_run (f:=fun f=>(f.offset,szT P f.type)) fun f hf=>by simp[sz_run rfl (h f hf)]]
 rw[Result.andThen_ok]
 congr 1
 apply Array.ext'
 simp
theorem build_struct(_hT:TTOk P tt){t:TypeId}{ti:TI}{fs:List (Nat×Nat×Option Bool)}(hi:tiOf P t=some ti)(hz:ti.zero≠[])(hk:ti.k=.struct fs)(hf:(fs.all fun q=>nonz q.2.1)=true){w:World}{ps:Array (Nat×Value)}{l:List Value}(h:Instr.fill (fun i=>optB (nthL fs i)) ti.zero.toArray ps.toList=some l.toArray): (Instr.build t ps).run P w=.ok (.agg l.toArray) w:=by
 obtain⟨fd,h1,rfl⟩:=ti_struct hi hk
 obtain⟨z,h2,h3⟩:=ti_zero hi hz w
 have h4:z.cells=ti.zero.toArray:=by rw[← h3]
 have hall:∀f,f∈fd.toList→szT P f.type≠0:=fun f hf2=>by
  have:=List.all_eq_true.1 hf (f.offset,szT P f.type,agT P f.type) (List.mem_map.2 ⟨f,hf2,rfl⟩)
  exact nonz_ne this
 have hp:(fun i=>((fd.map fun f=>(f.offset,szT P f.type))[i]?:Option (Nat×Nat)))=fun i=>optB (nthL (fd.toList.map fun f=>(f.offset,szT P f.type,agT P f.type)) i):=by
  funext i
  rw[nthL_eq,List.getElem?_map,Array.getElem?_map]
  simp only[Array.getElem?_toList]
  cases fd[i]?<;>rfl
 unfold Instr.build
 rw[Sem.run_bind,h2,Result.andThen_ok,Sem.run_bind,und_run h1,Result.andThen_ok]
 simp only[Sem.run_bind,places_run hall,Result.andThen_ok,h4]
 rw[hp,h]
 rfl
theorem build_array(_hT:TTOk P tt){t:TypeId}{ti:TI}{n e sz:Nat}{ag:Option Bool}(hi:tiOf P t=some ti)(hz:ti.zero≠[])(hk:ti.k=.array n e sz ag)(hs:sz≠0){w:World}{ps:Array (Nat×Value)}{l:List Value}(h:Instr.fill (fun i=>some (i*sz,sz)) ti.zero.toArray ps.toList=some l.toArray): (Instr.build t ps).run P w=.ok (.agg l.toArray) w:=by
 obtain⟨h1,h5,_⟩:=ti_array hi hk
 obtain⟨z,h2,h3⟩:=ti_zero hi hz w
 have h4:z.cells=ti.zero.toArray:=by rw[← h3]
 unfold Instr.build
 rw[Sem.run_bind,h2,Result.andThen_ok,Sem.run_bind,und_run h1,Result.andThen_ok]
 simp only[Sem.run_bind,sz_run h5 hs,Result.andThen_ok,h4,h]
 rfl
theorem build_slice{t:TypeId}{ti te:TI}{e sz n:Nat}{ag:Option Bool}(hi:tiOf P t=some ti)(hk:ti.k=.slice e sz ag)(he:tiOf P e=some te)(hz:te.zero≠[])(hs:te.size=sz)(hl:te.zero.length=sz)(hb:n*sz≤16777216){w:World}{ps:Array (Nat×Value)}{l:List Value}(h:Instr.fill (fun i=>some (i*sz,sz)) (rep te.zero n).toArray ps.toList=some l.toArray): (Instr.buildSlice t n ps).run P w=.ok (.slice (some ⟨w.heap.size,0,none⟩) n n) (w.alloc (.cells l.toArray e)):=by
 obtain⟨h1,_,_⟩:=ti_slice hi hk
 obtain⟨z,h2,h3⟩:=ti_zero he hz w
 have h4:z.cells=te.zero.toArray:=by rw[← h3]
 have h5:=rep_cells z.cells (by rw[h3];exact hz) n
 have h6:z.cells.size=sz:=by rw[h4];simpa using hl
 rw[h3,h6]at h5
 have h7:¬ n*sz>2^24:=by simpa using hb
 unfold Instr.buildSlice
 rw[Sem.run_bind,und_run h1,Result.andThen_ok]
 by_cases hn:n*sz=0
 ·have h0:sz≠0:=fun e0=>hz (List.eq_nil_of_length_eq_zero (hl.trans e0))
  have hn0:n=0:=(Nat.mul_eq_zero.1 hn).resolve_right h0
  subst hn0
  have h8:Instr.fill (fun i=>some (i*sz,sz)) #[] ps.toList=some l.toArray:=h
  simp only[Sem.run_bind,ti_size he,hs,Result.andThen_ok,if_neg h7,if_pos hn,Sem.run_pure]
  have h9:∀f:Nat→Value,Array.map f (Array.range 0)=#[]:=fun f=>(by apply Array.eq_empty_of_size_eq_zero;simp)
  simp[h9,h8,newRow]
 ·simp only[Sem.run_bind,ti_size he,hs,Result.andThen_ok,if_neg h7,if_neg hn,Sem.run_pure,h2,h6,h5,h]
  simp[newRow]
theorem intS_ok(hK:∀out,K out→σ.fits out=true){o:Oper}{op:BinOp}{t u:TypeId}{x y:Operand}{k:IntKind}{a b:Int}(ho:o.op=.binOp op t x y u)(h:intS op k a b K)(hx:∀r A w,See w0 σ r A w→A.eval x=.int k a)(hy:∀r A w,See w0 σ r A w→A.eval y=.int k b): QOk P w0 o σ K:=by
 have key:∀s,K (one s)→(∀r w,(binOp op t (.int k a) (.int k b)).run P w=.ok (s.den r) w)→QOk P w0 o σ K:=fun s h1 h2=>q_one hK s h1 fun r A w hw=>by
  have h3:execOp A.eval o=(do pure (.value (← (do eqGuard op t x y (A.eval x) (A.eval y);binOp op t (A.eval x) (A.eval y)))):Sem Next):=by
   unfold execOp;rw[ho]
  rw[h3]
  refine run_v ?_
  rw[hx r A w hw,hy r A w hw]
  have h4:(eqGuard op t x y (.int k a) (.int k b)).run P w=.ok () w:=by
   unfold eqGuard
   cases op<;>rfl
  simp[h4,h2 r w]
 unfold intS at h
 split at h
 ·exact key _ h fun r w=>by simp[binOp,Op.intArith,SV.den]
 ·exact key _ h fun r w=>by simp[binOp,Op.intArith,SV.den]
 ·exact key _ h fun r w=>by simp[binOp,Op.intArith,SV.den]
 ·exact key _ h fun r w=>by simp[binOp,Op.intCmp,SV.den]
 ·exact key _ h fun r w=>by simp[binOp,Op.intCmp,SV.den]
 ·exact key _ h fun r w=>by simp[binOp,Op.intCmp,SV.den]
 ·exact key _ h fun r w=>by simp[binOp,Op.intCmp,SV.den]
 ·exact key _ h fun r w=>by simp[binOp,Op.intCmp,SV.den]
 ·exact key _ h fun r w=>by simp[binOp,Op.intCmp,SV.den]
 ·exact h.elim
theorem nil_run{op:BinOp}{t:TypeId}{x y:Operand}{v u:Value}{b:Bool}{w:World}(hop:op=.eql∧b=false∨op=.neq∧b=true)(hv:(∃p e,v=.pointer (some p)∧u=.pointer none∧P.underlying t=some (.pointer e))∨∃p n c n' c' e,v=.slice (some p) n c∧u=.slice none n' c'∧P.underlying t=some (.slice e)):
  (do eqGuard op t x y v u;binOp op t v u:Sem Value).run P w=.ok (.bool b) w:=by
 have h1:(eqGuard op t x y v u).run P w=.ok () w:=by
  unfold eqGuard
  rcases hop with⟨rfl,_⟩|⟨rfl,_⟩<;>rcases hv with⟨p,e,rfl,rfl,_⟩|⟨p,n,c,n',c',e,rfl,rfl,_⟩<;>rfl
 rw[Sem.run_bind,h1,Result.andThen_ok]
 have h2:(Op.equal t v u).run P w=.ok false w:=by
  unfold Op.equal
  rw[show Op.maxDepth=9999+1 from rfl]
  unfold Op.equalIn
  rcases hv with⟨p,e,rfl,rfl,h⟩|⟨p,n,c,n',c',e,rfl,rfl,h⟩<;>(rw[Sem.run_bind,und_run h,Result.andThen_ok];rfl)
 rcases hop with⟨rfl,rfl⟩|⟨rfl,rfl⟩
 ·have h3:binOp .eql t v u=(do pure (.bool (← Op.equal t v u)):Sem Value):=by rcases hv with⟨p,e,rfl,rfl,h⟩|⟨p,n,c,n',c',e,rfl,rfl,h⟩<;>rfl
  simp[h3,h2]
 ·have h3:binOp .neq t v u=(do pure (.bool (!(← Op.equal t v u))):Sem Value):=by rcases hv with⟨p,e,rfl,rfl,h⟩|⟨p,n,c,n',c',e,rfl,rfl,h⟩<;>rfl
  simp[h3,h2]
theorem nilS_ok(hK:∀out,K out→σ.fits out=true){o:Oper}{op:BinOp}{t u:TypeId}{x y:Operand}(ho:o.op=.binOp op t x y u)(h:nilS op K)(hv:∀r A w,See w0 σ r A w→(∃p e,A.eval x=.pointer (some p)∧A.eval y=.pointer none∧P.underlying t=some (.pointer e))∨∃p n c n' c' e,A.eval x=.slice (some p) n c∧A.eval y=.slice none n' c'∧P.underlying t=some (.slice e)): QOk P w0 o σ K:=by
 have h3:∀A:Act,execOp A.eval o=(do pure (.value (← (do eqGuard op t x y (A.eval x) (A.eval y);binOp op t (A.eval x) (A.eval y)))):Sem Next):=fun A=>by
  unfold execOp;rw[ho]
 unfold nilS at h
 split at h
 ·exact q_one hK _ h fun r A w hw=>by rw[h3];exact run_v (nil_run (.inl ⟨rfl,rfl⟩) (hv r A w hw))
 ·exact q_one hK _ h fun r A w hw=>by rw[h3];exact run_v (nil_run (.inr ⟨rfl,rfl⟩) (hv r A w hw))
 ·exact h.elim
end
open Go Go.RowKit
section
variable {P:Program} {tt:List (Nat×TI)} {w0:World} {σ:St} {K:Out→Prop}
theorem arr_map{α β:Type}(f:α→β)(x:Array α)(l:List β)(h:x.toList.map f=l): x.map f=l.toArray:=by
 apply Array.ext';simpa using h
theorem binS_ok(hT:TTOk P tt)(hK:∀out,K out→σ.fits out=true){o:Oper}{op:BinOp}{t u:TypeId}{x y:Operand}(ho:o.op=.binOp op t x y u){s s':SV}(hx:evS σ x=some s)(hy:evS σ y=some s')(h:binS tt op t s s' K): QOk P w0 o σ K:=by
 have ex:=fun r A w (hw:See w0 σ r A w)=>(evS_den hw hx).1
 have ey:=fun r A w (hw:See w0 σ r A w)=>(evS_den hw hy).1
 unfold binS at h
 split at h
 ·obtain⟨hk,h'⟩:=bif_spec h
  clear h
  obtain rfl:=kindB_eq hk
  exact intS_ok hK ho h' (fun r A w hw=>ex r A w hw) (fun r A w hw=>ey r A w hw)
 ·obtain⟨ti,h1,h⟩:=tiK_spec hT h
  split at h
  ·rename_i hk
   exact nilS_ok hK ho h fun r A w hw=>.inl ⟨_,_,ex r A w hw,ey r A w hw,ti_ptr h1 hk⟩
  ·exact h.elim
 ·obtain⟨ti,h1,h⟩:=tiK_spec hT h
  split at h
  ·rename_i hk
   exact nilS_ok hK ho h fun r A w hw=>.inr ⟨_,_,_,_,_,_,ex r A w hw,ey r A w hw,(ti_slice h1 hk).1⟩
  ·exact h.elim
 ·exact h.elim
theorem lenS_ok(hT:TTOk P tt)(hK:∀out,K out→σ.fits out=true){o:Oper}{_ty:TypeId}{x:Operand}{t:TypeId}{c:Call}(ho:o.op=.call c)(hc:c.callee=.builtin .len)(ha:c.args=#[x])(ht:c.argTypes=#[t]){s:SV}(hx:evS σ x=some s)(h:lenS tt t s K): QOk P w0 o σ K:=by
 have key:∀n:Int,K (one (.val (.int .i64 n)))→(∀r A w,See w0 σ r A w→(Builtin.len_ #[t] o.type #[A.eval x]).run P w=.ok (.int .i64 n) w)→QOk P w0 o σ K:=fun n h1 h2=>q_one hK _ h1 fun r A w hw=>by
  have h3:=h2 r A w hw
  unfold execOp
  rw[ho]
  simp[resolve,hc,ha,ht,invoke,builtin,h3,SV.den]
 obtain⟨ti,h1,h⟩:=tiK_spec hT h
 split at h
 ·rename_i hk
  split at h
  ·exact key _ h fun r A w hw=>by rw[(evS_den hw hx).1];simp[Builtin.len_,und_run (ti_str h1 hk),SV.den,goInt]
  ·exact h.elim
 ·rename_i hk
  split at h
  ·exact key _ h fun r A w hw=>by rw[(evS_den hw hx).1];simp[Builtin.len_,und_run (ti_slice h1 hk).1,SV.den,goInt]
  ·exact key _ h fun r A w hw=>by rw[(evS_den hw hx).1];simp[Builtin.len_,und_run (ti_slice h1 hk).1,SV.den,goInt]
  ·exact h.elim
 ·exact h.elim
theorem opQ_ok(hT:TTOk P tt)(hK:∀out,K out→σ.fits out=true){o:Oper}(h:opQ tt σ o.op K): QOk P w0 o σ K:=by
 have ex:∀ {op:Op},o.op=op→∀ev,execOp ev o=execOp ev { o with op:=op }:=fun e ev=>by rw[← e]
 cases e:o.op<;>rw[e]at h
 case move x =>
  obtain⟨s,h1,h⟩:=evK_spec h
  exact q_one hK _ h fun r A w hw=>by rw[ex e,← (evS_den hw h1).1];rfl
 case assign x =>
  obtain⟨s,h1,h⟩:=evK_spec h
  exact q_one hK _ h fun r A w hw=>by rw[ex e,← (evS_den hw h1).1];rfl
 case alloc t =>
  obtain⟨ti,h1,h⟩:=tiK_spec hT h
  obtain⟨hz,h⟩:=bif_spec h
  refine q_box _ _ _ h (okL_v _ _ _) fun r A w hw=>?_
  rw[ex e,denL_v]
  have h2:=run_v (alloc_run (w:=w) h1 (nonB_ne hz))
  refine h2.trans ?_
  simp only[SV.den,Env.add',Env.add,upd_at]
 case box t x =>
  obtain⟨s,h1,h⟩:=evK_spec h
  refine q_box _ _ _ h (Bool.and_eq_true_iff.1 (hK _ h)).2 fun r A w hw=>?_
  rw[ex e,cells_den hw (evS_den hw h1).2]
  refine(run_v (box_run _)).trans ?_
  rw[(evS_den hw h1).1]
  simp only[SV.den,Env.add',Env.add,upd_at]
 case nilCheck x =>
  obtain⟨s,h1,h⟩:=evK_spec h
  split at h
  ·exact q_one hK _ h fun r A w hw=>by
    have h2:=(evS_den hw h1).1
    rw[ex e];unfold execOp;simp only[h2,SV.den];rfl
  ·exact q_one hK _ h fun r A w hw=>by
    have h2:=(evS_den hw h1).1
    rw[ex e];unfold execOp;simp only[h2,SV.den];rfl
  ·exact q_one hK _ h fun r A w hw=>by
    have h2:=(evS_den hw h1).1
    rw[ex e];unfold execOp;simp only[h2,SV.den];rfl
  ·exact h.elim
 case extract x i =>
  obtain⟨s,h1,h⟩:=evK_spec h
  obtain⟨l,h,hl⟩:=tupK_spec h
  obtain⟨c,hc,h⟩:=optK_spec h
  refine q_one hK _ h fun r A w hw=>?_
  rw[ex e]
  refine run_v ?_
  rw[(evS_den hw h1).1,hl]
  simp[Instr.extract,nthL_den hc]
 case makeFunc fn l m =>
  obtain⟨l',h,h1⟩:=evL_spec (w0:=w0) h
  obtain⟨m',h,h2⟩:=evL_spec (w0:=w0) h
  refine q_one hK _ h fun r A w hw=>?_
  rw[ex e]
  refine run_v ?_
  rw[arr_map _ _ _ (h1 r A w hw).1,arr_map _ _ _ (h2 r A w hw).1]
  rfl
 case load t x =>
  obtain⟨s,h1,h⟩:=evK_spec h
  split at h
  ·obtain⟨p,h2,h⟩:=optK_spec h
   obtain⟨ti,h3,h⟩:=tiK_spec hT h
   split at h
   ·rename_i ha
    obtain⟨hb,h⟩:=bif_spec h
    refine q_one hK _ h fun r A w hw=>?_
    rw[ex e]
    refine run_v ?_
    rw[(evS_den hw h1).1]
    simp only[SV.den,cut_den]
    exact load_agg h3 ha (hw.bs _ p.1 p.2 h2).1 (by rw[denL_len];exact Nat.le_of_ble_eq_true hb)
   ·rename_i ha
    obtain⟨c,hc,h⟩:=optK_spec h
    refine q_one hK _ h fun r A w hw=>?_
    rw[ex e]
    refine run_v ?_
    rw[(evS_den hw h1).1]
    exact load_one h3 ha (hw.bs _ p.1 p.2 h2).1 (nthL_den hc)
  ·exact h.elim
 case fieldAddr t x f =>
  obtain⟨s,h1,h⟩:=evK_spec h
  split at h
  ·obtain⟨ti,h3,h⟩:=tiK_spec hT h
   split at h
   ·rename_i hk
    obtain⟨q,h4,h⟩:=optK_spec h
    obtain⟨hz,h⟩:=bif_spec h
    refine q_one hK _ h fun r A w hw=>?_
    rw[ex e]
    refine run_v ?_
    rw[(evS_den hw h1).1]
    exact field_at h3 hk h4 (nonz_ne hz)
   ·exact h.elim
  ·exact h.elim
 case field t x f =>
  obtain⟨s,h1,h⟩:=evK_spec h
  obtain⟨l,h,hl⟩:=listK_spec h
  obtain⟨ti,h3,h⟩:=tiK_spec hT h
  split at h
  ·rename_i hk
   obtain⟨q,h4,h⟩:=optK_spec h
   obtain⟨off,sz,ag⟩:=q
   refine partS_ok hK h (fun ha hz r A w hw=>?_) (fun ha r A w v hw hv=>?_)
   ·simp only at ha;subst ha
    rw[ex e]
    refine run_v ?_
    rw[(evS_den hw h1).1,hl]
    exact field_agg h3 hk h4 hz
   ·simp only at ha;subst ha
    rw[ex e]
    refine run_v ?_
    rw[(evS_den hw h1).1,hl]
    exact field_one h3 hk h4 hv
  ·exact h.elim
 case index t x i =>
  obtain⟨s,h1,h⟩:=evK_spec h
  obtain⟨j,h2,h⟩:=evK_spec h
  obtain⟨k,m,rfl,h⟩:=natK_spec h
  obtain⟨l,h,hl⟩:=listK_spec h
  obtain⟨ti,h3,h⟩:=tiK_spec hT h
  split at h
  ·rename_i hk
   obtain⟨hb,h⟩:=bif_spec h
   obtain⟨hz,hm⟩:=Bool.and_eq_true_iff.1 hb
   refine partS_ok hK h (fun ha hz' r A w hw=>?_) (fun ha r A w v hw hv=>?_)
   ·subst ha
    rw[ex e]
    refine run_v ?_
    rw[(evS_den hw h1).1,(evS_den hw h2).1,hl]
    exact index_agg h3 hk (blt_lt hm) hz'
   ·subst ha
    rw[ex e]
    refine run_v ?_
    rw[(evS_den hw h1).1,(evS_den hw h2).1,hl]
    exact index_one h3 hk (blt_lt hm) (nonz_ne hz) hv
  ·exact h.elim
 case indexAddr t x i =>
  obtain⟨s,h1,h⟩:=evK_spec h
  obtain⟨j,h2,h⟩:=evK_spec h
  obtain⟨k,m,rfl,h⟩:=natK_spec h
  split at h
  ·obtain⟨ti,h3,h⟩:=tiK_spec hT h
   split at h
   ·rename_i hk
    obtain⟨hb,h⟩:=bif_spec h
    obtain⟨hz,hm⟩:=Bool.and_eq_true_iff.1 hb
    refine q_one hK _ h fun r A w hw=>?_
    rw[ex e]
    refine run_v ?_
    rw[(evS_den hw h1).1,(evS_den hw h2).1]
    exact index_arr h3 hk (blt_lt hm) (nonz_ne hz)
   ·exact h.elim
  ·obtain⟨ti,h3,h⟩:=tiK_spec hT h
   split at h
   ·rename_i hk
    obtain⟨hb,h⟩:=bif_spec h
    obtain⟨hz,hm⟩:=Bool.and_eq_true_iff.1 hb
    refine q_one hK _ h fun r A w hw=>?_
    rw[ex e]
    refine run_v ?_
    rw[(evS_den hw h1).1,(evS_den hw h2).1]
    exact index_sli h3 hk (blt_lt hm) (nonz_ne hz)
   ·exact h.elim
  ·exact h.elim
 case slice t x lo hi mx =>
  cases mx with
  | some _=>exact False.elim h
  | none =>
   obtain⟨s,h1,h⟩:=evK_spec h
   obtain⟨l,h,hl⟩:=lowK_spec (w0:=w0) h
   split at h
   ·obtain⟨n,sz,h,hrun⟩:=arrS_spec hT h
    obtain⟨m,h,hm⟩:=highK_spec (w0:=w0) h
    refine sliS_ok hK h fun hz h2 h3 r A w hw=>?_
    rw[ex e]
    refine run_v ?_
    rw[(evS_den hw h1).1]
    exact hrun hz w _ _ _ _ _ _ (hl r A w hw) (hm r A w hw) h2 h3
   ·obtain⟨ti,h4,h⟩:=tiK_spec hT h
    split at h
    ·rename_i hk
     obtain⟨m,h,hm⟩:=highK_spec (w0:=w0) h
     refine sliS_ok hK h fun hz h2 h3 r A w hw=>?_
     rw[ex e]
     refine run_v ?_
     rw[(evS_den hw h1).1]
     exact slice_sli h4 hk hz (hl r A w hw) (hm r A w hw) h2 h3
    ·exact h.elim
   ·exact h.elim
 case binOp op t x y u =>
  obtain⟨s,h1,h⟩:=evK_spec h
  obtain⟨s',h2,h⟩:=evK_spec h
  exact binS_ok hT hK e h1 h2 h
 case unOp op t x =>
  obtain⟨s,h1,h⟩:=evK_spec h
  unfold unS at h
  split at h
  ·exact q_one hK _ h fun r A w hw=>by
    rw[ex e]
    refine run_v ?_
    rw[(evS_den hw h1).1]
    rfl
  ·exact q_one hK _ h fun r A w hw=>by
    rw[ex e]
    refine run_v ?_
    rw[(evS_den hw h1).1]
    rfl
  ·exact h.elim
 case convert a d x =>
  obtain⟨s,h1,h⟩:=evK_spec h
  obtain⟨ta,h2,h⟩:=tiK_spec hT h
  obtain⟨td,h3,h⟩:=tiK_spec hT h
  split at h
  ·rename_i hk
   split at h
   case h_2=>exact h.elim
   refine q_one hK _ h fun r A w hw=>?_
   obtain⟨_,da,_,h5,_⟩:=ti_parts h2
   rw[ex e]
   refine run_v ?_
   rw[(evS_den hw h1).1]
   unfold Go.convert
   rw[Sem.run_bind,und_run h5,Result.andThen_ok,Sem.run_bind,und_run (ti_int h3 hk),Result.andThen_ok]
   cases da<;>rfl
  ·exact h.elim
 case pick c x y =>
  obtain⟨s,h1,h⟩:=evK_spec h
  split at h
  ·split at h
   ·obtain⟨u,h2,h⟩:=evK_spec h
    refine q_one hK _ h fun r A w hw=>?_
    rw[ex e,← (evS_den hw h2).1]
    have h3:=(evS_den hw h1).1
    unfold execOp
    simp only[h3,SV.den,asBool]
    rfl
   ·obtain⟨u,h2,h⟩:=evK_spec h
    refine q_one hK _ h fun r A w hw=>?_
    rw[ex e,← (evS_den hw h2).1]
    have h3:=(evS_den hw h1).1
    unfold execOp
    simp only[h3,SV.den,asBool]
    rfl
  ·exact h.elim
 case call c =>
  dsimp only[opQ]at h
  split at h
  ·rename_i hc
   split at h
   ·rename_i x t ha ht
    obtain⟨s,h1,h⟩:=evK_spec h
    exact lenS_ok (_ty:=0) hT hK e hc (by apply Array.ext';exact ha) (by apply Array.ext';exact ht) h1 h
   ·exact h.elim
  ·exact h.elim
 case build t ps =>
  obtain⟨ps',h,h1⟩:=evP_spec (w0:=w0) h
  obtain⟨ti,h2,h⟩:=tiK_spec hT h
  obtain⟨hz,h⟩:=bif_spec h
  split at h
  ·rename_i hk
   obtain⟨hf,h⟩:=bif_spec h
   obtain⟨l,h4,h⟩:=optK_spec h
   refine q_one hK _ h fun r A w hw=>?_
   obtain⟨h5,h6⟩:=h1 r A w hw
   have h7:=fill_den hw _ ps' _ l h6 (okL_v _ _ _) h4
   rw[denL_v]at h7
   rw[ex e]
   refine run_v (build_struct hT h2 (nonB_ne hz) hk hf ?_)
   rw[Array.toList_map,h5]
   exact h7
  ·rename_i hk
   obtain⟨hs,h⟩:=bif_spec h
   obtain⟨l,h4,h⟩:=optK_spec h
   refine q_one hK _ h fun r A w hw=>?_
   obtain⟨h5,h6⟩:=h1 r A w hw
   have h7:=fill_den hw _ ps' _ l h6 (okL_v _ _ _) h4
   rw[denL_v]at h7
   rw[ex e]
   refine run_v (build_array hT h2 (nonB_ne hz) hk (nonz_ne hs) ?_)
   rw[Array.toList_map,h5]
   exact h7
  ·exact h.elim
 case buildSlice t n ps =>
  obtain⟨ps',h,h1⟩:=evP_spec (w0:=w0) h
  obtain⟨ti,h2,h⟩:=tiK_spec hT h
  split at h
  ·rename_i hk
   obtain⟨te,h3,h⟩:=tiK_spec hT h
   obtain⟨hb,h⟩:=bif_spec h
   obtain⟨hb,b5⟩:=Bool.and_eq_true_iff.1 hb
   obtain⟨hb,b3⟩:=Bool.and_eq_true_iff.1 hb
   obtain⟨b1,b2⟩:=Bool.and_eq_true_iff.1 hb
   obtain⟨l,h4,h⟩:=optK_spec h
   have hfit:=(Bool.and_eq_true_iff.1 (hK _ h)).2
   refine q_box _ _ _ h hfit fun r A w hw=>?_
   obtain⟨h5,h6⟩:=h1 r A w hw
   have h7:=fill_den hw _ ps' _ l h6 (okL_v _ _ _) h4
   rw[denL_v]at h7
   rw[ex e]
   refine(run_v (build_slice h2 hk h3 (nonB_ne b1) (Nat.eq_of_beq_eq_true b2) (Nat.eq_of_beq_eq_true b3) (Nat.le_of_ble_eq_true b5) (l:=denL r l) ?_)).trans ?_
   ·rw[Array.toList_map,h5]
    exact h7
   ·simp only[SV.den,Env.add',Env.add,upd_at]
  ·exact h.elim
 all_goals exact False.elim h
end
