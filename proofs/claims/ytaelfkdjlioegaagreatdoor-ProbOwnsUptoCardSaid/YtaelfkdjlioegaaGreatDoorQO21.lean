/- The walks and plain laws beneath the statements. -/
import Derived.Test.YtaelfkdjlioegaaGreatDoorQO15
import Derived.Test.YtaelfkdjlioegaaGreatDoorQO6
namespace Go.Proofs.YtaelfkdjlioegaaGreatDoor
open Go Go.RowKit
def OwnTT(w:World)(base:Nat)(e e2:TypeId)(k:Nat)(v:Value)(n m:Nat)(F:Nat→Nat→List Value): Prop :=
 ∃(As:Nat→Option Addr) (cs:Nat→Nat),OwnK w base e 1 v n (fun j=>[.slice (As j) m (cs j)])∧(∀j,j<n→OwnK w base e2 k (.slice (As j) m (cs j)) m (F j))∧(∀j a,j<n→As j=some a→v.ownBlock≠some a.block)∧(∀i j a b,i<n→j<n→i≠j→As i=some a→As j=some b→a.block≠b.block)
theorem OwnTT.nil_(w:World)(base:Nat)(e e2:TypeId)(k m:Nat)(F:Nat→Nat→List Value): OwnTT w base e e2 k (.slice none 0 0) 0 m F :=
 ⟨fun _=>none,fun _=>0,OwnK.nil_ _ _ _ _ _,fun j hj=>absurd hj (by omega),fun j _ hj=>absurd hj (by omega),fun i _ _ _ hi=>absurd hi (by omega)⟩
theorem OwnTT.below{w w':World}{base:Nat}{e e2:TypeId}{k:Nat}{v:Value}{n m:Nat}{F:Nat→Nat→List Value}(h:OwnTT w base e e2 k v n m F)(hb:Below w.heap.size w w'): OwnTT w' base e e2 k v n m F:=by
 obtain⟨As,cs,h1,h2,h3,h4⟩:=h
 exact⟨As,cs,h1.below hb,fun j hj=>(h2 j hj).below hb,h3,h4⟩
def cel2(f:Nat→Int)(j:Nat): List Value:=[.bool (neg (f j)),.string (mag (f j))]
structure TabI (w:World) (base top g n:Nat) (e e2:TypeId) (As cs:Nat→Nat) (M:Nat→Nat→Int):Prop where
 tb:base≤g∧g<top
 tc:∃T G,Cel w g e T G∧n≤T∧∀i,i<n→G i=.slice (some ⟨As i,0,none⟩) n (cs i)
 rb:∀i,i<n→base≤As i∧As i<top∧As i≠g∧n≤cs i
 rc:∀i,i<n→∃T F,Cel w (As i) e2 T F∧n*2≤T∧∀j,j<n→F (j*2)=.bool (neg (M i j))∧F (j*2+1)=.string (mag (M i j))
 inj:∀i j,i<n→j<n→i≠j→As i≠As j
section
variable {w w':World} {base top g n:Nat} {e e2:TypeId} {As cs:Nat→Nat} {M:Nat→Nat→Int}
theorem TabI.keep(h:TabI w base top g n e e2 As cs M)(hk:∀b,b<top→w'.heap[b]?=w.heap[b]?): TabI w' base top g n e e2 As cs M:=by
 obtain⟨h1,⟨T,G,hC,hT,hG⟩,h3,h4,h5⟩:=h
 have hc:∀b t T F,b<top→Cel w b t T F→Cel w' b t T F:=fun b t T F hb ⟨cs,hh,r⟩=>⟨cs,(hk b hb).trans hh,r⟩
 exact⟨h1,⟨T,G,hc _ _ _ _ h1.2 hC,hT,hG⟩,h3,fun i hi=>by
  obtain⟨T,F,hC,r⟩:=h4 i hi
  exact⟨T,F,hc _ _ _ _ (h3 i hi).2.1 hC,r⟩,h5⟩
theorem TabI.later(h:TabI w base top g n e e2 As cs M)(hb:Below w.heap.size w w')(ht:top≤w.heap.size): TabI w' base top g n e e2 As cs M:=h.keep fun b hb'=>hb.block b (by omega)
theorem TabI.far(h:TabI w base top g n e e2 As cs M){p:Addr}(hp:top≤p.block)(u:Value): TabI (w.setCell p u) base top g n e e2 As cs M:=h.keep fun b hb=>Below.heap_setCell w p u b (by omega)
theorem TabI.congr{M':Nat→Nat→Int}(h:TabI w base top g n e e2 As cs M)(hM:∀i j,i<n→j<n→M i j=M' i j): TabI w base top g n e e2 As cs M':=by
 obtain⟨h1,h2,h3,h4,h5⟩:=h
 refine⟨h1,h2,h3,fun i hi=>?_,h5⟩
 obtain⟨T,F,hC,hT,hF⟩:=h4 i hi
 exact⟨T,F,hC,hT,fun j hj=>by rw[← hM i j hi hj];exact hF j hj⟩
theorem TabI.row(h:TabI w base top g n e e2 As cs M){i:Nat}(hi:i<n): w.cell? ⟨g,i,none⟩=some (.slice (some ⟨As i,0,none⟩) n (cs i))∧w.frozen? ⟨g,i,none⟩=false:=by
 obtain⟨T,G,hC,hT,hG⟩:=h.tc
 rw[← hG i hi]
 exact⟨hC.cell (by omega),hC.frozen _⟩
theorem TabI.at(h:TabI w base top g n e e2 As cs M){i j:Nat}(hi:i<n)(hj:j<n): w.cell? ⟨As i,j*2,none⟩=some (.bool (neg (M i j)))∧w.cell? ⟨As i,j*2+1,none⟩=some (.string (mag (M i j)))∧w.frozen? ⟨As i,j*2,none⟩=false∧w.frozen? ⟨As i,j*2+1,none⟩=false:=by
 obtain⟨T,F,hC,hT,hF⟩:=h.rc i hi
 obtain⟨h1,h2⟩:=hF j hj
 exact⟨h1▸hC.cell (by omega),h2▸hC.cell (by omega),hC.frozen _,hC.frozen _⟩
theorem TabI.put(h:TabI w base top g n e e2 As cs M){i j:Nat}(hi:i<n)(hj:j<n)(z:Int):
  TabI ((w.setCell ⟨As i,j*2,none⟩ (.bool (neg z))).setCell ⟨As i,j*2+1,none⟩ (.string (mag z))) base top g n e e2 As cs (fun i' j'=>if i'=i∧j'=j then z else M i' j'):=by
 obtain⟨h1,⟨T,G,hC,hT,hG⟩,h3,h4,h5⟩:=h
 have hne:=h3 i hi
 refine⟨h1,⟨T,G,(hC.far (p:=⟨As i,j*2,none⟩) (fun e=>hne.2.2.1 e.symm) _).far (p:=⟨As i,j*2+1,none⟩) (fun e=>hne.2.2.1 e.symm) _,hT,hG⟩,h3,fun i' hi'=>?_,h5⟩
 obtain⟨T',F,hC',hT',hF⟩:=h4 i' hi'
 by_cases hii:i'=i
 ·subst hii
  refine⟨T',_,(hC'.set_ (j*2) _).set_ (j*2+1) _,hT',fun j' hj'=>?_⟩
  by_cases hjj:j'=j
  ·subst hjj
   simp
  ·obtain⟨f1,f2⟩:=hF j' hj'
   rw[if_neg (by omega),if_neg (by omega),if_neg (by omega),if_neg (by omega),if_neg (by omega)]
   exact⟨f1,f2⟩
 ·refine⟨T',F,(hC'.far (p:=⟨As i,j*2,none⟩) (h5 i' i hi' hi hii) _).far (p:=⟨As i,j*2+1,none⟩) (h5 i' i hi' hi hii) _,hT',fun j' hj'=>?_⟩
  rw[if_neg (by omega)]
  exact hF j' hj'
def swp(k p i:Nat): Nat:=if i=k then p else if i=p then k else i
theorem swp_lt{k p i n:Nat}(hk:k<n)(hp:p<n)(hi:i<n): swp k p i<n:=by unfold swp;split<;>(try split)<;>omega
theorem swp_ne{k p i j:Nat}(h:i≠j): swp k p i≠swp k p j:=by
 unfold swp
 split<;>(try split)<;>(try split)<;>(try split)<;>omega
theorem TabI.swap(h:TabI w base top g n e e2 As cs M){k p:Nat}(hk:k<n)(hp:p<n):
  TabI ((w.setCell ⟨g,k,none⟩ (.slice (some ⟨As p,0,none⟩) n (cs p))).setCell ⟨g,p,none⟩ (.slice (some ⟨As k,0,none⟩) n (cs k))) base top g n e e2 (fun i=>As (swp k p i)) (fun i=>cs (swp k p i)) (fun i j=>M (swp k p i) j):=by
 obtain⟨h1,⟨T,G,hC,hT,hG⟩,h3,h4,h5⟩:=h
 refine⟨h1,⟨T,_,(hC.set_ k _).set_ p _,hT,fun i hi=>?_⟩,fun i hi=>h3 _ (swp_lt hk hp hi),fun i hi=>?_,fun i j hi hj hij=>h5 _ _ (swp_lt hk hp hi) (swp_lt hk hp hj) (swp_ne hij)⟩
 ·unfold swp
  by_cases a:i=k<;>by_cases b:i=p
  ·subst a;subst b;simp
  ·subst a;simp[b]
  ·subst b;simp[a]
  ·simp only[if_neg a,if_neg b];exact hG i hi
 ·have hs:=swp_lt hk hp hi
  obtain⟨T',F,hC',r⟩:=h4 _ hs
  exact⟨T',F,(hC'.far (p:=⟨g,k,none⟩) (h3 _ hs).2.2.1 _).far (p:=⟨g,p,none⟩) (h3 _ hs).2.2.1 _,r⟩
theorem OwnTT.tab{v:Value}(h:OwnTT w base e e2 2 v n n (fun i=>cel2 (M i)))(hn:0<n): ∃g c As cs,v=.slice (some ⟨g,0,none⟩) n c∧n≤c∧TabI w base w.heap.size g n e e2 As cs M:=by
 obtain⟨As,cs,h1,h2,h3,h4⟩:=h
 obtain⟨g,c,rfl⟩:∃g c,v=.slice (some ⟨g,0,none⟩) n c:=by
  rcases h1.2 with⟨_,h0⟩|⟨g,cap,cur,rfl,_⟩
  ·omega
  ·exact⟨g,cap,rfl⟩
 obtain⟨G,hC,hnc,_,hbg,hG⟩:=OwnK.cel (k:=1) (fun _=>rfl) h1
 have key:∀i,i<n→∃b,As i=some ⟨b,0,none⟩:=fun i hi=>by
  rcases(h2 i hi).2 with⟨_,h0⟩|⟨b,cap,cur,e1,_⟩
  ·omega
  ·injection e1 with e1
   exact⟨b,e1⟩
 have hb:∀i,i<n→As i=some ⟨((As i).getD ⟨0,0,none⟩).block,0,none⟩:=fun i hi=>by
  obtain⟨b,e1⟩:=key i hi
  rw[e1];rfl
 refine⟨g,c,fun i=>((As i).getD ⟨0,0,none⟩).block,cs,rfl,hnc,⟨hbg,hC.lt⟩,⟨c*1,G,hC,by omega,fun i hi=>?_⟩,fun i hi=>?_,fun i hi=>?_,fun i j hi hj hij=>h4 i j ⟨_,0,none⟩ ⟨_,0,none⟩ hi hj hij (hb i hi) (hb j hj)⟩
 ·have h5:=hG i hi 0 (by decide)
  rw[Nat.mul_one,Nat.add_zero]at h5
  rw[← hb i hi]
  simpa using h5.symm
 ·have h6:=h2 i hi
  rw[hb i hi]at h6
  obtain⟨F,hC',hnc',_,hbb,_⟩:=OwnK.cel (k:=2) (fun _=>rfl) h6
  exact⟨hbb,hC'.lt,fun e1=>h3 i _ hi (hb i hi) (by rw[← e1];rfl),hnc'⟩
 ·have h6:=h2 i hi
  rw[hb i hi]at h6
  obtain⟨F,hC',hnc',_,_,hF⟩:=OwnK.cel (k:=2) (fun _=>rfl) h6
  refine⟨_,F,hC',Nat.mul_le_mul_right 2 hnc',fun j hj=>?_⟩
  have f1:=hF j hj 0 (by decide)
  have f2:=hF j hj 1 (by decide)
  exact⟨by simpa [cel2]using f1.symm,by simpa [cel2]using f2.symm⟩
end
def elimI(k:Nat)(l:Int)(M:Nat→Nat→Int)(i j:Nat): Int:=if k<i∧k<j then(M i j*M k k-M i k*M k j) / l else M i j
inductive Bar (n:Nat):Nat→(Nat→Nat→Int)→Int→Bool→Int→Prop
 | done (M:Nat→Nat→Int) (l:Int) (t:Bool):Bar n n M l t (if t then -l else l)
 | zero (k:Nat) (M:Nat→Nat→Int) (l:Int) (t:Bool):k<n→(∀q,k≤q→q<n→M q k=0)→Bar n k M l t 0
 | step (k:Nat) (M:Nat→Nat→Int) (l:Int) (t:Bool) (p:Nat) (z:Int):k<n→k≤p→p<n→M p k≠0→Bar n (k+1) (elimI k l (fun i j=>M (swp k p i) j)) (M p k) (if p=k then t else !t) z→Bar n k M l t z
theorem sz_step{S k:Nat}{l a b c d:Int}(ha:bsz a+3≤2^k*(S+3))(hb:bsz b+3≤2^k*(S+3))(hc:bsz c+3≤2^k*(S+3))(hd:bsz d+3≤2^k*(S+3)): bsz ((a*b-c*d) / l)+3≤2^(k+1)*(S+3):=by
 obtain⟨T,hT⟩:∃T,T=2^k*(S+3):=⟨_,rfl⟩
 have e:2^(k+1)*(S+3)=2*T:=by rw[Nat.pow_succ,hT,Nat.mul_comm (2^k) 2,Nat.mul_assoc]
 rw[← hT]at ha hb hc hd
 rw[e]
 have h1:bsz (a*b)≤T-3+(T-3):=bsz_mul_le (by omega) (by omega)
 have h2:bsz (c*d)≤T-3+(T-3):=bsz_mul_le (by omega) (by omega)
 have h3:=bsz_sub_le h1 h2
 have h4:=bsz_natAbs_le (Int.natAbs_ediv_le_natAbs (a*b-c*d) l)
 omega
theorem sz_up{S k:Nat}{a:Int}(ha:bsz a+3≤2^k*(S+3)): bsz a+3≤2^(k+1)*(S+3):=by
 have e:2^(k+1)*(S+3)=2*(2^k*(S+3)):=by rw[Nat.pow_succ,Nat.mul_comm (2^k) 2,Nat.mul_assoc]
 omega
structure BInv (n S:Nat) (M0:Nat→Nat→Int) (k:Nat) (M:Nat→Nat→Int) (l:Int) (tb:Bool):Prop where
 go:∀z,Bar n k M l tb z→Bar n 0 M0 1 false z
 ne:l≠0
 sl:bsz l+3≤2^k*(S+3)
 sm:∀i j,i<n→j<n→bsz (M i j)+3≤2^k*(S+3)
theorem BInv.next{n S:Nat}{M0 M:Nat→Nat→Int}{k p:Nat}{l:Int}{tb:Bool}(h:BInv n S M0 k M l tb)(hk:k<n)(hp:k≤p)(hpn:p<n)(hne:M p k≠0): BInv n S M0 (k+1) (elimI k l (fun i j=>M (swp k p i) j)) (M p k) (if p=k then tb else !tb):=by
 refine⟨fun z hz=>h.go z (.step k M l tb p z hk hp hpn hne hz),hne,sz_up (h.sm p k hpn hk),fun i j hi hj=>?_⟩
 unfold elimI
 split
 ·exact sz_step (h.sm _ _ (swp_lt hk hpn hi) hj) (h.sm _ _ (swp_lt hk hpn hk) hk) (h.sm _ _ (swp_lt hk hpn hi) hk) (h.sm _ _ (swp_lt hk hpn hk) hj)
 ·exact sz_up (h.sm _ _ (swp_lt hk hpn hi) hj)
