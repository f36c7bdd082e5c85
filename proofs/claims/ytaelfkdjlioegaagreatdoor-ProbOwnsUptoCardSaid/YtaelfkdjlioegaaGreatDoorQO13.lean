/- The walks and plain laws beneath the statements. -/
import Derived.Test.YtaelfkdjlioegaaGreatDoorQO1
import Derived.Laws.AppendOwnNone
import Derived.Below
import Derived.ChangeSame
import Derived.Carry
import Derived.SliceStrings
namespace Go.Proofs.YtaelfkdjlioegaaGreatDoor
open Go Go.RowKit
def flatK(f:Nat→List Value): Nat→List Value|0=>[] | n+1=>flatK f n++f n
theorem flatK_len{f:Nat→List Value}{k:Nat}(h:∀j,(f j).length=k): ∀n,(flatK f n).length=n*k
 | 0=>by simp[flatK]
 | n+1=>by
  show(flatK f n++f n).length=_
  rw[List.length_append,flatK_len h n,h n,Nat.succ_mul]
theorem flatK_at{f:Nat→List Value}{k:Nat}(h:∀j,(f j).length=k): ∀ {n j i:Nat},j<n→i<k→(flatK f n)[j*k+i]?=(f j)[i]?
 | n+1,j,i,hj,hi=>by
  show(flatK f n++f n)[j*k+i]?=_
  have hl:=flatK_len h n
  by_cases e:j=n
  ·subst e
   rw[List.getElem?_append_right (by omega),hl,Nat.add_sub_cancel_left]
  ·have h1:j*k+i<n*k:=by
    have h2:(j+1)*k≤n*k:=Nat.mul_le_mul_right _ (by omega)
    rw[Nat.succ_mul]at h2
    omega
   rw[List.getElem?_append_left (by omega)]
   exact flatK_at h (by omega) hi
theorem flatK_congr{f g:Nat→List Value}: ∀ {n:Nat},(∀j,j<n→f j=g j)→flatK f n=flatK g n
 | 0,_=>rfl
 | n+1,h=>by
  show flatK f n++f n=flatK g n++g n
  rw[flatK_congr fun j hj=>h j (by omega),h n (by omega)]
def OwnK(w:World)(base:Nat)(e:TypeId)(k:Nat)(v:Value)(n:Nat)(f:Nat→List Value): Prop:=w.ownsRow base e k v n (flatK f n)
theorem OwnK.nil_(w:World)(base:Nat)(e:TypeId)(k:Nat)(f:Nat→List Value): OwnK w base e k (.slice none 0 0) 0 f:=⟨by simp[flatK],.inl ⟨rfl,rfl⟩⟩
theorem OwnK.congr{w:World}{base:Nat}{e:TypeId}{k:Nat}{v:Value}{n:Nat}{f f':Nat→List Value}(h:OwnK w base e k v n f)(hf:∀j,j<n→f j=f' j): OwnK w base e k v n f':=by
 unfold OwnK at *
 rwa [← flatK_congr hf]
theorem OwnK.below{w w':World}{base:Nat}{e:TypeId}{k:Nat}{v:Value}{n:Nat}{f:Nat→List Value}(h:OwnK w base e k v n f)(hb:Below w.heap.size w w'): OwnK w' base e k v n f :=
 World.ownsRow.kept (row:=none) h (grownBy_of_below hb none) (by
  rcases h.2 with⟨rfl,_⟩|⟨g,cap,cur,rfl,_⟩
  ·exact .inl rfl
  ·exact .inr (by simp[Value.ownBlock]))
theorem OwnK.drew{w:World}{base:Nat}{e:TypeId}{k:Nat}{v:Value}{n:Nat}{f:Nat→List Value}(h:OwnK w base e k v n f): OwnK w.drew base e k v n f:=h
def RdK(w:World)(A:Option Addr)(n k:Nat)(f:Nat→List Value): Prop:=0<n→∃b off,A=some ⟨b,off,none⟩∧∀j,j<n→∀i,i<k→w.cell? ⟨b,off+j*k+i,none⟩=(f j)[i]?
theorem OwnK.rd{w:World}{base:Nat}{e:TypeId}{k:Nat}{v:Value}{n:Nat}{f:Nat→List Value}(hk:∀j,(f j).length=k)(h:OwnK w base e k v n f): ∃A c,v=.slice A n c∧n≤c∧RdK w A n k f∧(∀a,A=some a→base≤a.block)∧(A=none→n=0∧c=0):=by
 rcases h.2 with⟨rfl,rfl⟩|⟨g,cap,cur,rfl,hb,hh,hn,_,hs,hx⟩
 ·exact⟨none,0,rfl,Nat.le_refl _,fun h=>absurd h (by decide),(fun a ha=>by cases ha),fun _=>⟨rfl,rfl⟩⟩
 ·refine⟨_,cap,rfl,hn,fun _=>⟨g,0,rfl,fun j hj i hi=>?_⟩,(fun a ha=>by injection ha with ha;subst ha;exact hb),fun h=>by cases h⟩
  rw[Nat.zero_add,cell_of_row w g (j*k+i) cur e (0,0) hh,← Array.getElem?_toList,← flatK_at hk hj hi,← hx,List.getElem?_take_of_lt]
  have h2:(j+1)*k≤n*k:=Nat.mul_le_mul_right _ (by omega)
  rw[Nat.succ_mul]at h2
  omega
theorem OwnK.far{w:World}{base:Nat}{e:TypeId}{k:Nat}{v:Value}{n:Nat}{f:Nat→List Value}(h:OwnK w base e k v n f){g:Nat}(hg:g<base): ∀(vs:List Value) (i:Nat),OwnK (setN w g i vs) base e k v n f:=by
 intro vs
 induction vs generalizing w with
 | nil=>intro i;exact h
 | cons x xs ih =>
  intro i
  refine ih (w:=w.setCell ⟨g,i,none⟩ x) ?_ (i+1)
  refine⟨h.1,?_⟩
  rcases h.2 with h0|⟨g',cap,cur,h1,hb,hh,h3⟩
  ·exact .inl h0
  ·exact .inr ⟨g',cap,cur,h1,hb,(Below.heap_setCell w ⟨g,i,none⟩ x g' (fun e=>by simp at e;omega)).trans hh,h3⟩
theorem Bx.base{w w':World}{g B:Nat}{t:TypeId}{cs:Array Value}(h:Bx w g t cs)(hb:Below B w w')(hg:g<B): Bx w' g t cs:=(hb.block g hg).trans h
open Go.RowKit Go.WideShapes Go.ChangeShapes
section
variable {H:Type} {enc:TypeId×Value→H} {P:Program}
theorem post_of_below{f:Func}{s:ChangeSpec}{apart fresh handsOn again:Bool}{W W':World}{args:Array Value}{v:Value}{ds gs:List (DataW H)}{before pa pv:List MemPlace}(hW:DataW.Whole enc P f.params.toList s.vars apart W args.toList ds gs before)(hres:∀(b:Nat) (sp:Nat→Bool) (hd:Bool),DataW.TrodAll enc P W' b sp hd f.resultTypes.toList (v.resultList f.resultTypes.size) (s.fn H (ds++gs)).results [])(hargs:∀sp:Nat→Bool,(∀p∈before,sp p.block=true)→DataW.TrodAll enc P W' 0 sp true f.params.toList args.toList (s.fn H (ds++gs)).args pa)(hvars:∀sp:Nat→Bool,(∀p∈before,sp p.block=true)→DataW.TrodVars enc P W' sp s.vars (s.fn H (ds++gs)).vars pv)(hps:before=pa++pv)(hb:Below W.heap.size W W')(hok:∀(j:Nat) (t:TypeId) (r:Value),f.resultTypes[j]?=some t→(v.resultList f.resultTypes.size)[j]?=some r→Value.okWide P W' .any 0 t r):
  s.post enc P f apart fresh handsOn again W args v W':=by
 have hlt:∀p∈before,p.block<W.heap.size:=fun p hp=>hW.lt p hp
 have hold:∀p∈before,(fun b=>decide (b<W.heap.size)) p.block=true:=fun p hp=>by simpa using hlt p hp
 refine⟨ds,gs,before,[],pa,pv,hW,hres _ _ _,hargs _ hold,hvars _ hold,World.keptBut_mono (fun p hp=>⟨hp,?_⟩) (hb.frame (·∈before)),fun _=>?_⟩
 ·rw[hps,List.mem_append]at hp
  exact Or.inr hp
 ·obtain⟨_,_,_,_,_,hz,hn⟩:=hW
  refine⟨hok,_,_,([]++pa)++pv,⟨[]++pa,pv,trodAll_append (hargs _ (fun _ _=>rfl)) (hres _ _ _),hvars _ (fun _ _=>rfl),rfl,?_,?_⟩,?_⟩
  ·intro b off hp
   have hin:MemPlace.cell b off∈before:=by rw[hps];simpa using hp
   rw[hb.frozen (hlt _ hin)]
   exact hz b off hin
  ·intro ha
   have:=hn ha
   rw[hps]at this
   simpa using this
  ·intro p hp _
   rw[hps]
   simpa using hp
end
open Go.RowKit Go.WideShapes Go.ChangeShapes
section
variable {H:Type} {enc:TypeId×Value→H} {P:Program}
theorem trodAll_below(hl:laidOutB P=true){W W':World}(hb:Below W.heap.size W W'){sp:Nat→Bool}: ∀ {ts:List TypeId} {vs:List Value} {ds:List (DataW H)} {ps:List MemPlace},(∀t∈ts,P.readableRec t=true∧t<P.types.size) →
  DataW.TrodAll enc P W 0 (fun _=>true) true ts vs ds ps→(∀x∈ps,x.block<W.heap.size)→(∀x∈ps,sp x.block=true)→DataW.TrodAll enc P W' 0 sp true ts vs ds ps
 | [],[],[],_,_,h,_,_=>h
 | t::ts,v::vs,d::ds,ps,ht,⟨p,q,h1,h2,he⟩,hlt,hsp=>by
  subst he
  exact⟨p,q,WideElems.Trod_stays hl (ht t (by simp)).1 (ht t (by simp)).2 h1 (fun x hx=>hb.same (hlt x (by simp[hx]))) (fun x hx=>hsp x (by simp[hx])),
   trodAll_below hl hb (fun u hu=>ht u (by simp[hu])) h2 (fun x hx=>hlt x (by simp[hx])) (fun x hx=>hsp x (by simp[hx])),rfl⟩
 | [],_::_,_,_,_,h,_,_=>by simp[DataW.TrodAll]at h
 | _::_,[],_,_,_,h,_,_=>by simp[DataW.TrodAll]at h
 | [],[],_::_,_,_,h,_,_=>by simp[DataW.TrodAll]at h
 | _::_,_::_,[],_,_,h,_,_=>by simp[DataW.TrodAll]at h
theorem post_true{f:Func}{s:ChangeSpec}{apart fresh handsOn again:Bool}{W W':World}{args:Array Value}{ds:List (DataW H)}{before:List MemPlace}{tb:TypeId}(hl:laidOutB P=true)(hp:(f.params.toList.all fun t=>P.readableRec t&&decide (t<P.types.size))=true)(hr:f.resultTypes=#[tb])(htb:P.underlying tb=some .bool)(hvs:s.vars=[])(hW:DataW.Whole enc P f.params.toList s.vars apart W args.toList ds [] before)(h1:(s.fn H (ds++[])).results=[.lit (.bool true)])(h2:(s.fn H (ds++[])).args=ds)(h3:(s.fn H (ds++[])).vars=[])(hb:Below W.heap.size W W'):
  s.post enc P f apart fresh handsOn again W args (.bool true) W':=by
 have hlt:∀p∈before,p.block<W.heap.size:=fun p hp=>hW.lt p hp
 obtain⟨p,q,hA,hV,hpq,_,_⟩:=id hW
 have hq:q=[]:=by rw[hvs]at hV;exact hV
 subst hq
 rw[List.append_nil]at hpq
 subst hpq
 have ht:∀t∈f.params.toList,P.readableRec t=true∧t<P.types.size:=fun t ht=>by simpa using List.all_eq_true.1 hp t ht
 refine post_of_below (pa:=before) (pv:=[]) hW (fun b sp hd=>?_) (fun sp hsp=>?_) (fun sp _=>?_) (by simp) hb (ok_one hr rfl (okWide_bool_mk htb true))
 ·rw[hr,h1];exact trodAll_mk1 (shut_bool htb _)
 ·rw[h2];exact trodAll_below hl hb ht hA hlt hsp
 ·rw[hvs,h3];rfl
end
