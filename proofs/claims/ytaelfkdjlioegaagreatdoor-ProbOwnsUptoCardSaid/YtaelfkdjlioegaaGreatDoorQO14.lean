/- The walks and plain laws beneath the statements. -/
import Derived.Test.YtaelfkdjlioegaaGreatDoorQO13
import Derived.Maps.AppendAt
namespace Go.Proofs.YtaelfkdjlioegaaGreatDoor
open Go Go.RowKit
def RdT(w:World)(A:Option Addr)(n k:Nat)(ms:Nat→Nat)(F:Nat→Nat→List Value): Prop :=
 0<n→∃b off,A=some ⟨b,off,none⟩∧∀i,i<n→∃Ai ci,ms i≤ci∧(Ai=none→ms i=0∧ci=0)∧w.cell? ⟨b,off+i,none⟩=some (.slice Ai (ms i) ci)∧RdK w Ai (ms i) k (F i)
theorem RdK.below{w w':World}{A:Option Addr}{n k:Nat}{f:Nat→List Value}(hk:∀j,(f j).length=k)(h:RdK w A n k f)(hb:Below w.heap.size w w'): RdK w' A n k f:=fun h0=>by
 obtain⟨b,off,e,hc⟩:=h h0
 refine⟨b,off,e,fun j hj i hi=>?_⟩
 have h1:=hc j hj i hi
 obtain⟨u,hu⟩:∃u,(f j)[i]?=some u:=⟨_,List.getElem?_eq_getElem (by rw[hk];exact hi)⟩
 rw[hu]at h1 ⊢
 exact cell_later hb h1
theorem RdT.below{w w':World}{A:Option Addr}{n k:Nat}{ms:Nat→Nat}{F:Nat→Nat→List Value}(hk:∀i j,(F i j).length=k)(h:RdT w A n k ms F)(hb:Below w.heap.size w w'): RdT w' A n k ms F:=fun h0=>by
 obtain⟨b,off,e,hc⟩:=h h0
 refine⟨b,off,e,fun i hi=>?_⟩
 obtain⟨Ai,ci,h1,h2,h3,h4⟩:=hc i hi
 exact⟨Ai,ci,h1,h2,cell_later hb h3,h4.below (hk i) hb⟩
def OwnT(w:World)(base:Nat)(e:TypeId)(k:Nat)(v:Value)(n:Nat)(ms:Nat→Nat)(F:Nat→Nat→List Value): Prop :=
 ∃(As:Nat→Option Addr) (cs:Nat→Nat),OwnK w base e 1 v n (fun j=>[.slice (As j) (ms j) (cs j)])∧∀j,j<n→ms j≤cs j∧(As j=none→ms j=0∧cs j=0)∧RdK w (As j) (ms j) k (F j)∧(∀a,As j=some a→a.block<w.heap.size∧v.ownBlock≠some a.block)
theorem OwnT.nil_(w:World)(base:Nat)(e:TypeId)(k:Nat)(ms:Nat→Nat)(F:Nat→Nat→List Value): OwnT w base e k (.slice none 0 0) 0 ms F:=⟨fun _=>none,fun _=>0,OwnK.nil_ _ _ _ _ _,fun j hj=>absurd hj (by omega)⟩
theorem OwnT.below{w w':World}{base:Nat}{e:TypeId}{k:Nat}{v:Value}{n:Nat}{ms:Nat→Nat}{F:Nat→Nat→List Value}(hk:∀i j,(F i j).length=k)(h:OwnT w base e k v n ms F)(hb:Below w.heap.size w w'): OwnT w' base e k v n ms F:=by
 obtain⟨As,cs,h1,h2⟩:=h
 refine⟨As,cs,h1.below hb,fun j hj=>?_⟩
 obtain⟨a1,a2,a3,a4⟩:=h2 j hj
 exact⟨a1,a2,a3.below (hk j) hb,fun a ha=>⟨Nat.lt_of_lt_of_le (a4 a ha).1 hb.size,(a4 a ha).2⟩⟩
theorem OwnT.drew{w:World}{base:Nat}{e:TypeId}{k:Nat}{v:Value}{n:Nat}{ms:Nat→Nat}{F:Nat→Nat→List Value}(h:OwnT w base e k v n ms F): OwnT w.drew base e k v n ms F:=h
theorem OwnT.congr{w:World}{base:Nat}{e:TypeId}{k:Nat}{v:Value}{n:Nat}{ms ms':Nat→Nat}{F F':Nat→Nat→List Value}(h:OwnT w base e k v n ms F)(h1:∀j,j<n→ms j=ms' j)(h2:∀j,j<n→∀i,i<ms j→F j i=F' j i): OwnT w base e k v n ms' F':=by
 obtain⟨As,cs,a1,a2⟩:=h
 refine⟨As,cs,a1.congr fun j hj=>by rw[h1 j hj],fun j hj=>?_⟩
 obtain⟨b1,b2,b3,b4⟩:=a2 j hj
 rw[← h1 j hj]
 refine⟨b1,b2,fun h0=>?_,b4⟩
 obtain⟨b,off,e,hc⟩:=b3 h0
 exact⟨b,off,e,fun i hi l hl=>by rw[← h2 j hj i hi];exact hc i hi l hl⟩
theorem OwnT.rd{w:World}{base:Nat}{e:TypeId}{k:Nat}{v:Value}{n:Nat}{ms:Nat→Nat}{F:Nat→Nat→List Value}(h:OwnT w base e k v n ms F): ∃A c,v=.slice A n c∧n≤c∧RdT w A n k ms F∧(A=none→n=0∧c=0):=by
 obtain⟨As,cs,h1,h2⟩:=h
 obtain⟨A,c,rfl,hnc,hrd,_,hno⟩:=OwnK.rd (k:=1) (fun _=>rfl) h1
 refine⟨A,c,rfl,hnc,fun h0=>?_,hno⟩
 obtain⟨b,off,e,hc⟩:=hrd h0
 refine⟨b,off,e,fun i hi=>?_⟩
 obtain⟨a1,a2,a3,_⟩:=h2 i hi
 have h3:=hc i hi 0 (by decide)
 rw[Nat.mul_one,Nat.add_zero]at h3
 exact⟨As i,cs i,a1,a2,h3,a3⟩
theorem OwnT.lt{w:World}{base:Nat}{e:TypeId}{k:Nat}{v:Value}{n:Nat}{ms:Nat→Nat}{F:Nat→Nat→List Value}(h:OwnT w base e k v n ms F): ∀g,v.ownBlock=some g→base≤g∧g<w.heap.size:=by
 obtain⟨As,cs,h1,_⟩:=h
 exact h1.lt
theorem OwnK.apart{w:World}{base:Nat}{e:TypeId}{k:Nat}{v:Value}{n:Nat}{f:Nat→List Value}(h:OwnK w base e k v n f){u:Value}(hu:∀g,u.ownBlock=some g→g<base){A:Option Addr}{m c:Nat}(hv:v=.slice A m c): ∀a,A=some a→a.block<w.heap.size∧u.ownBlock≠some a.block:=fun a ha=>by
 subst hv
 subst ha
 have h1:=h.lt a.block rfl
 exact⟨h1.2,fun h2=>by have:=hu _ h2;omega⟩
