/- The walks and plain laws beneath the statements. -/
import Derived.Test.YtaelfkdjlioegaaGreatDoorQG16
import Derived.Test.YtaelfkdjlioegaaGreatDoorQG6
namespace Go.Proofs.YtaelfkdjlioegaaGreatDoor
open Go Go.RowKit
def OwnTT(w:World)(base:Nat)(e e2:TypeId)(k:Nat)(v:Value)(n m:Nat)(F:Nat→Nat→List Value): Prop :=
 ∃(As:Nat→Option Addr) (cs:Nat→Nat),OwnK w base e 1 v n (fun j=>[.slice (As j) m (cs j)])∧(∀j,j<n→OwnK w base e2 k (.slice (As j) m (cs j)) m (F j))∧(∀j a,j<n→As j=some a→v.ownBlock≠some a.block)∧(∀i j a b,i<n→j<n→i≠j→As i=some a→As j=some b→a.block≠b.block)
theorem OwnTT.nil_(w:World)(base:Nat)(e e2:TypeId)(k m:Nat)(F:Nat→Nat→List Value): OwnTT w base e e2 k (.slice none 0 0) 0 m F :=
 ⟨fun _=>none,fun _=>0,OwnK.nil_ _ _ _ _ _,fun j hj=>absurd hj (by omega),fun j _ hj=>absurd hj (by omega),fun i _ _ _ hi=>absurd hi (by omega)⟩
section
variable {P:Program} {w:World} {ops:Array Oper} {rest:List Oper} {o:Oper} {a:Act} {Q:Exit→Act→World→Prop}
theorem Ay(hgd:o.guard=none)(s x:Operand)(t:TypeId)(ho:o.op=.call { callee:=.builtin .append,args:=#[s,x],argTypes:=#[t,t] })(base:Nat)(e e2:TypeId)(z:Value)(k bytes:Nat)(ht:P.underlying t=some (.slice e))(hinfo:(P.info? e).map (fun i=>(i.zero,i.size,i.bytes))=some (some z,1,bytes))(hz1:z.cells.size=1)(v:Value)(n m:Nat)(F:Nat→Nat→List Value)(hs:a.eval s=v)(wo:World)(hown:OwnTT wo base e e2 k v n m F)(hb:Below wo.heap.size wo w)(ad:Addr)(hx:a.eval x=.slice (some ad) 1 1)(had:ad.spot=none)(A:Option Addr)(c:Nat)(hcell:w.cell? ad=some (.slice A m c))(hrow:OwnK w wo.heap.size e2 k (.slice A m c) m (F n))(hbase:base≤wo.heap.size)(h63:n+1≤9223372036854775807)(hbytes:(n+1)*bytes≤140737488355328)(h:∀v' w',OwnTT w' base e e2 k v' (n+1) m F→Below base w w'→wpList P ops Q rest (a.put o.dst v') w'):
  wpList P ops Q (o::rest) a w:=by
 obtain⟨i,hi,hz,hsz,hby⟩:=info_parts hinfo
 obtain⟨As,cs,h1,h2,h3,h4⟩:=hown
 obtain⟨blk,off,sl⟩:=ad
 obtain rfl:sl=none:=had
 have hlt0:=OwnK.lt_ h1
 have h1w:=h1.below hb
 have hlt:=OwnK.lt_ h1w
 have hA:∀a,A=some a→wo.heap.size≤a.block∧a.block<w.heap.size:=fun a ha=>OwnK.lt_ hrow a.block (by rw[ha];rfl)
 have hAs:∀j a,j<n→As j=some a→a.block<wo.heap.size:=fun j a hj ha=>(OwnK.lt_ (h2 j hj) a.block (by rw[ha];rfl)).2
 refine wpList_append_own_at (P:=P) (w:=w) hgd s x t ho base e i z 1 bytes ht hi hz hsz hby hz1 (by decide) v n _ hs h1w ⟨blk,off,none⟩ 1 1 [.slice A m c] hx rfl ?_ ?_ (by unfold maxLen;omega) hbytes (L8 hbase hb.size) ?_
 ·intro j u hj
  have hj0:j=0:=by
   rcases j with _|j
   ·rfl
   ·simp at hj
  subst hj0
  simp at hj
  subst hj
  exact hcell
 ·intro u hu
  simp at hu
  subst hu
  rfl
 ·intro v' w' hown' hgr _ hat
  have hkeep:∀g,g<w.heap.size→v.ownBlock≠some g→w'.heap[g]?=w.heap[g]?:=fun g hg hn=>hgr.block g hg (fun e=>hn e.symm)
  have hv':∀g,g<w.heap.size→v.ownBlock≠some g→v'.ownBlock≠some g:=fun g hg hn he=>by
   rcases hat with h0|h0
   ·exact hn (h0▸he)
   ·rw[h0]at he;injection he with he;omega
  have hrk:∀(u:Value) (b':Nat) (f:Nat→List Value),(∀g,u.ownBlock=some g→g<w.heap.size∧v.ownBlock≠some g)→OwnK w b' e2 k u m f→OwnK w' b' e2 k u m f:=fun u b' f hu ⟨h0,hr⟩=>by
   refine⟨h0,?_⟩
   rcases hr with hr|⟨g,cap,cur,e1,hb1,hh,h5⟩
   ·exact .inl hr
   ·have h6:=hu g (by rw[e1];rfl)
    exact .inr ⟨g,cap,cur,e1,hb1,(hkeep g h6.1 h6.2).trans hh,h5⟩
  have hnA:∀a,A=some a→v.ownBlock≠some a.block:=fun a ha he=>by have h5:=(hlt0 _ he).2;have h6:=hA a ha;omega
  refine h v' w' ⟨fun j=>if j=n then A else As j,fun j=>if j=n then c else cs j,?_,fun j hj=>?_,fun j a hj ha=>?_,fun i j a b hi hj hij ha hb'=>?_⟩ ((Below.refl _ _).grown hgr (L8 hbase hb.size) (fun k hk=>(hlt k hk).1))
  ·have e1:YE (fun j=>[.slice (if j=n then A else As j) m (if j=n then c else cs j)]) (n+1)=YE (fun j=>[.slice (As j) m (cs j)]) n++[.slice A m c]:=by
    show YE _ n++_=_
    rw[JF (g:=fun j=>[Value.slice (As j) m (cs j)]) (fun j hj=>by simp[show ¬ j=n by omega])]
    simp
   show World.ownsRow _ _ _ _ _ _ _
   rw[e1]
   exact hown'
  ·by_cases e:j=n
   ·subst e
    simp only[if_true]
    have h5:=hrk _ _ _ (fun g hg=>by
     cases hAA:A with
     | none=>rw[hAA]at hg;cases hg
     | some a =>
      rw[hAA]at hg
      injection hg with hg
      subst hg
      exact⟨(hA a hAA).2,hnA a hAA⟩) hrow
    exact h5.base_ hbase
   ·simp only[if_neg e]
    refine hrk _ _ _ (fun g hg=>?_) ((h2 j (by omega)).below hb)
    cases hAA:As j with
    | none=>rw[hAA]at hg;cases hg
    | some a =>
     rw[hAA]at hg
     injection hg with hg
     subst hg
     exact⟨Lb (hAs j a (by omega) hAA) hb.size,h3 j a (by omega) hAA⟩
  ·by_cases e:j=n
   ·subst e
    simp only[if_true]at ha
    exact hv' _ (hA a ha).2 (hnA a ha)
   ·simp only[if_neg e]at ha
    exact hv' _ (Lb (hAs j a (by omega) ha) hb.size) (h3 j a (by omega) ha)
  ·by_cases e:i=n<;>by_cases e':j=n
   ·omega
   ·simp only[if_pos e]at ha
    simp only[if_neg e']at hb'
    have h5:=hA a ha
    have h6:=hAs j b (by omega) hb'
    omega
   ·simp only[if_neg e]at ha
    simp only[if_pos e']at hb'
    have h5:=hA b hb'
    have h6:=hAs i a (by omega) ha
    omega
   ·simp only[if_neg e]at ha
    simp only[if_neg e']at hb'
    exact h4 i j a b (by omega) (by omega) hij ha hb'
end
def VX(f:Nat→Int)(j:Nat): List Value:=[.bool (neg (f j)),.string (Qh (f j))]
structure TabI (w:World) (base top g n:Nat) (e e2:TypeId) (As cs:Nat→Nat) (M:Nat→Nat→Int):Prop where
 tb:base≤g∧g<top
 tc:∃T G,Cel w g e T G∧n≤T∧∀i,i<n→G i=.slice (some ⟨As i,0,none⟩) n (cs i)
 rb:∀i,i<n→base≤As i∧As i<top∧As i≠g∧n≤cs i
 rc:∀i,i<n→∃T F,Cel w (As i) e2 T F∧n*2≤T∧∀j,j<n→F (j*2)=.bool (neg (M i j))∧F (j*2+1)=.string (Qh (M i j))
 inj:∀i j,i<n→j<n→i≠j→As i≠As j
section
variable {w w':World} {base top g n:Nat} {e e2:TypeId} {As cs:Nat→Nat} {M:Nat→Nat→Int}
theorem TabI.keep(h:TabI w base top g n e e2 As cs M)(hk:∀b,b<top→w'.heap[b]?=w.heap[b]?): TabI w' base top g n e e2 As cs M:=by
 obtain⟨h1,⟨T,G,hC,hT,hG⟩,h3,h4,h5⟩:=h
 have hc:∀b t T F,b<top→Cel w b t T F→Cel w' b t T F:=fun b t T F hb ⟨cs,hh,r⟩=>⟨cs,(hk b hb).trans hh,r⟩
 exact⟨h1,⟨T,G,hc _ _ _ _ h1.2 hC,hT,hG⟩,h3,fun i hi=>by
  obtain⟨T,F,hC,r⟩:=h4 i hi
  exact⟨T,F,hc _ _ _ _ (h3 i hi).2.1 hC,r⟩,h5⟩
theorem TabI.later(h:TabI w base top g n e e2 As cs M)(hb:Below w.heap.size w w')(ht:top≤w.heap.size): TabI w' base top g n e e2 As cs M:=h.keep fun b hb'=>hb.block b (by omega)
theorem TabI.far(h:TabI w base top g n e e2 As cs M){p:Addr}(hp:top≤p.block)(u:Value): TabI (w.setCell p u) base top g n e e2 As cs M:=h.keep fun b hb=>Sv w p u b (by omega)
theorem TabI.congr{M':Nat→Nat→Int}(h:TabI w base top g n e e2 As cs M)(hM:∀i j,i<n→j<n→M i j=M' i j): TabI w base top g n e e2 As cs M':=by
 obtain⟨h1,h2,h3,h4,h5⟩:=h
 refine⟨h1,h2,h3,fun i hi=>?_,h5⟩
 obtain⟨T,F,hC,hT,hF⟩:=h4 i hi
 exact⟨T,F,hC,hT,fun j hj=>by rw[← hM i j hi hj];exact hF j hj⟩
theorem TabI.row(h:TabI w base top g n e e2 As cs M){i:Nat}(hi:i<n): w.cell? ⟨g,i,none⟩=some (.slice (some ⟨As i,0,none⟩) n (cs i))∧w.frozen? ⟨g,i,none⟩=false:=by
 obtain⟨T,G,hC,hT,hG⟩:=h.tc
 rw[← hG i hi]
 exact⟨hC.cell (by omega),hC.frozen _⟩
theorem TabI.at(h:TabI w base top g n e e2 As cs M){i j:Nat}(hi:i<n)(hj:j<n): w.cell? ⟨As i,j*2,none⟩=some (.bool (neg (M i j)))∧w.cell? ⟨As i,j*2+1,none⟩=some (.string (Qh (M i j)))∧w.frozen? ⟨As i,j*2,none⟩=false∧w.frozen? ⟨As i,j*2+1,none⟩=false:=by
 obtain⟨T,F,hC,hT,hF⟩:=h.rc i hi
 obtain⟨h1,h2⟩:=hF j hj
 exact⟨h1▸hC.cell (by omega),h2▸hC.cell (by omega),hC.frozen _,hC.frozen _⟩
theorem TabI.put(h:TabI w base top g n e e2 As cs M){i j:Nat}(hi:i<n)(hj:j<n)(z:Int):
  TabI ((w.setCell ⟨As i,j*2,none⟩ (.bool (neg z))).setCell ⟨As i,j*2+1,none⟩ (.string (Qh z))) base top g n e e2 As cs (fun i' j'=>if i'=i∧j'=j then z else M i' j'):=by
 obtain⟨h1,⟨T,G,hC,hT,hG⟩,h3,h4,h5⟩:=h
 have hne:=h3 i hi
 refine⟨h1,⟨T,G,(hC.far (p:=⟨As i,j*2,none⟩) (fun e=>hne.2.2.1 e.symm) _).far (p:=⟨As i,j*2+1,none⟩) (fun e=>hne.2.2.1 e.symm) _,hT,hG⟩,h3,fun i' hi'=>?_,h5⟩
 obtain⟨T',F,hC',hT',hF⟩:=h4 i' hi'
 by_cases hii:i'=i
 ·subst hii
  refine⟨T',_,(hC'.set_ (j*2) _).set_ (j*2+1) _,hT',fun j' hj'=>?_⟩
  by_cases hjj:j'=j
  ·subst hjj
   simp
  ·obtain⟨f1,f2⟩:=hF j' hj'
   rw[if_neg (by omega),if_neg (by omega),if_neg (by omega),if_neg (by omega),if_neg (by omega)]
   exact⟨f1,f2⟩
 ·refine⟨T',F,(hC'.far (p:=⟨As i,j*2,none⟩) (h5 i' i hi' hi hii) _).far (p:=⟨As i,j*2+1,none⟩) (h5 i' i hi' hi hii) _,hT',fun j' hj'=>?_⟩
  rw[if_neg (by omega)]
  exact hF j' hj'
def KQ(k p i:Nat): Nat:=if i=k then p else if i=p then k else i
theorem Z8{k p i n:Nat}(hk:k<n)(hp:p<n)(hi:i<n): KQ k p i<n:=by unfold KQ;split<;>(try split)<;>omega
theorem lC{k p i j:Nat}(h:i≠j): KQ k p i≠KQ k p j:=by
 unfold KQ
 split<;>(try split)<;>(try split)<;>(try split)<;>omega
theorem TabI.swap(h:TabI w base top g n e e2 As cs M){k p:Nat}(hk:k<n)(hp:p<n):
  TabI ((w.setCell ⟨g,k,none⟩ (.slice (some ⟨As p,0,none⟩) n (cs p))).setCell ⟨g,p,none⟩ (.slice (some ⟨As k,0,none⟩) n (cs k))) base top g n e e2 (fun i=>As (KQ k p i)) (fun i=>cs (KQ k p i)) (fun i j=>M (KQ k p i) j):=by
 obtain⟨h1,⟨T,G,hC,hT,hG⟩,h3,h4,h5⟩:=h
 refine⟨h1,⟨T,_,(hC.set_ k _).set_ p _,hT,fun i hi=>?_⟩,fun i hi=>h3 _ (Z8 hk hp hi),fun i hi=>?_,fun i j hi hj hij=>h5 _ _ (Z8 hk hp hi) (Z8 hk hp hj) (lC hij)⟩
 ·unfold KQ
  by_cases a:i=k<;>by_cases b:i=p
  ·subst a;subst b;simp
  ·subst a;simp[b]
  ·subst b;simp[a]
  ·simp only[if_neg a,if_neg b];exact hG i hi
 ·have hs:=Z8 hk hp hi
  obtain⟨T',F,hC',r⟩:=h4 _ hs
  exact⟨T',F,(hC'.far (p:=⟨g,k,none⟩) (h3 _ hs).2.2.1 _).far (p:=⟨g,p,none⟩) (h3 _ hs).2.2.1 _,r⟩
theorem OwnTT.tab{v:Value}(h:OwnTT w base e e2 2 v n n (fun i=>VX (M i)))(hn:0<n): ∃g c As cs,v=.slice (some ⟨g,0,none⟩) n c∧n≤c∧TabI w base w.heap.size g n e e2 As cs M:=by
 obtain⟨As,cs,h1,h2,h3,h4⟩:=h
 obtain⟨g,c,rfl⟩:∃g c,v=.slice (some ⟨g,0,none⟩) n c:=by
  rcases h1.2 with⟨_,h0⟩|⟨g,cap,cur,rfl,_⟩
  ·omega
  ·exact⟨g,cap,rfl⟩
 obtain⟨G,hC,hnc,_,hbg,hG⟩:=OwnK.cel (k:=1) (fun _=>rfl) h1
 have key:∀i,i<n→∃b,As i=some ⟨b,0,none⟩:=fun i hi=>by
  rcases(h2 i hi).2 with⟨_,h0⟩|⟨b,cap,cur,e1,_⟩
  ·omega
  ·injection e1 with e1
   exact⟨b,e1⟩
 have hb:∀i,i<n→As i=some ⟨((As i).getD ⟨0,0,none⟩).block,0,none⟩:=fun i hi=>by
  obtain⟨b,e1⟩:=key i hi
  rw[e1];rfl
 refine⟨g,c,fun i=>((As i).getD ⟨0,0,none⟩).block,cs,rfl,hnc,⟨hbg,hC.lt⟩,⟨c*1,G,hC,by omega,fun i hi=>?_⟩,fun i hi=>?_,fun i hi=>?_,fun i j hi hj hij=>h4 i j ⟨_,0,none⟩ ⟨_,0,none⟩ hi hj hij (hb i hi) (hb j hj)⟩
 ·have h5:=hG i hi 0 (by decide)
  rw[Si,U2]at h5
  rw[← hb i hi]
  simpa using h5.symm
 ·have h6:=h2 i hi
  rw[hb i hi]at h6
  obtain⟨F,hC',hnc',_,hbb,_⟩:=OwnK.cel (k:=2) (fun _=>rfl) h6
  exact⟨hbb,hC'.lt,fun e1=>h3 i _ hi (hb i hi) (by rw[← e1];rfl),hnc'⟩
 ·have h6:=h2 i hi
  rw[hb i hi]at h6
  obtain⟨F,hC',hnc',_,_,hF⟩:=OwnK.cel (k:=2) (fun _=>rfl) h6
  refine⟨_,F,hC',Lo 2 hnc',fun j hj=>?_⟩
  have f1:=hF j hj 0 (by decide)
  have f2:=hF j hj 1 (by decide)
  exact⟨by simpa [VX]using f1.symm,by simpa [VX]using f2.symm⟩
end
def Bc(k:Nat)(l:Int)(M:Nat→Nat→Int)(i j:Nat): Int:=if k<i∧k<j then(M i j*M k k-M i k*M k j) / l else M i j
def ZM(k:Nat)(l:Int)(M:Nat→Nat→Int)(i j i' j':Nat): Int:=if k<i'∧k<j'∧(i'<i∨(i'=i∧j'<j))then(M i' j'*M k k-M i' k*M k j') / l else M i' j'
theorem I3(k i:Nat): KQ k k i=i:=by unfold KQ;split<;>(try split)<;>omega
theorem aW(k p:Nat): KQ k p k=p:=by unfold KQ;rw[if_pos rfl]
theorem fW{S k:Nat}{l a b c d:Int}(ha:Yj a+3≤2^k*(S+3))(hb:Yj b+3≤2^k*(S+3))(hc:Yj c+3≤2^k*(S+3))(hd:Yj d+3≤2^k*(S+3)): Yj ((a*b-c*d) / l)+3≤2^(k+1)*(S+3):=by
 obtain⟨T,hT⟩:∃T,T=2^k*(S+3):=⟨_,rfl⟩
 have e:2^(k+1)*(S+3)=2*T:=by rw[Lx,hT,Lh (2^k) 2,Lw]
 rw[← hT]at ha hb hc hd
 rw[e]
 have h1:Yj (a*b)≤T-3+(T-3):=Yy (by omega) (by omega)
 have h2:Yj (c*d)≤T-3+(T-3):=Yy (by omega) (by omega)
 have h3:=Cq h1 h2
 have h4:=X9 (Tn (a*b-c*d) l)
 omega
theorem ju{S k:Nat}{a:Int}(ha:Yj a+3≤2^k*(S+3)): Yj a+3≤2^(k+1)*(S+3):=by
 have e:2^(k+1)*(S+3)=2*(2^k*(S+3)):=by rw[Lx,Lh (2^k) 2,Lw]
 omega
theorem eO{S k:Nat}{a:Int}(hk:k≤8)(hS:256*(S+3)≤100000000)(ha:Yj a+3≤2^k*(S+3)): Yj a≤100000000:=by
 have h1:2^k≤2^8:=Le (by decide) hk
 have h2:2^k*(S+3)≤2^8*(S+3):=Lo _ h1
 omega
theorem Nc(k:Nat)(l:Int)(M:Nat→Nat→Int)(i' j':Nat): M i' j'=ZM k l M (k+1) (k+1) i' j':=by
 unfold ZM
 rw[if_neg (by omega)]
theorem RY(k:Nat)(l:Int)(M:Nat→Nat→Int)(i n i' j':Nat)(hj:j'<n): ZM k l M i n i' j'=ZM k l M (i+1) (k+1) i' j':=by
 unfold ZM
 by_cases h:k<i'∧k<j'∧(i'<i∨(i'=i∧j'<n))
 ·rw[if_pos h,if_pos (by omega)]
 ·rw[if_neg h,if_neg (by omega)]
theorem Um(k:Nat)(l:Int)(M:Nat→Nat→Int)(n i' j':Nat)(hi:i'<n): ZM k l M n (k+1) i' j'=Bc k l M i' j':=by
 unfold ZM Bc
 by_cases h:k<i'∧k<j'
 ·rw[if_pos h,if_pos (by omega)]
 ·rw[if_neg h,if_neg (by omega)]
theorem SE(k:Nat)(l:Int)(M:Nat→Nat→Int)(i j i' j':Nat)(hi:k<i)(hj:k<j): (if i'=i∧j'=j then(M i j*M k k-M i k*M k j) / l else ZM k l M i j i' j')=ZM k l M i (j+1) i' j':=by
 unfold ZM
 by_cases h:i'=i∧j'=j
 ·obtain⟨rfl,rfl⟩:=h
  rw[if_pos ⟨rfl,rfl⟩,if_pos (by omega)]
 ·rw[if_neg h]
  by_cases h2:k<i'∧k<j'∧(i'<i∨(i'=i∧j'<j))
  ·rw[if_pos h2,if_pos (by omega)]
  ·rw[if_neg h2,if_neg (by omega)]
theorem av(k:Nat)(l:Int)(M:Nat→Nat→Int)(i j:Nat): ZM k l M i j i j=M i j:=by unfold ZM;rw[if_neg (by omega)]
theorem SA(k:Nat)(l:Int)(M:Nat→Nat→Int)(i j i':Nat): ZM k l M i j i' k=M i' k:=by unfold ZM;rw[if_neg (by omega)]
theorem TN(k:Nat)(l:Int)(M:Nat→Nat→Int)(i j j':Nat): ZM k l M i j k j'=M k j':=by unfold ZM;rw[if_neg (by omega)]
theorem iW(k:Nat)(l:Int)(M:Nat→Nat→Int): Bc k l M k k=M k k:=by unfold Bc;rw[if_neg (by omega)]
theorem US(M:Nat→Nat→Int)(k m:Nat): ∃k0,k0≤m∧(∀j,j<k0→M (k+j) k=0)∧(k0<m→M (k+k0) k≠0):=by
 induction m with
 | zero=>exact⟨0,L3 _,fun j hj=>absurd hj (by omega),fun h=>absurd h (by omega)⟩
 | succ m ih =>
  obtain⟨k0,a,b,c⟩:=ih
  by_cases h:k0<m
  ·exact⟨k0,by omega,b,fun _=>c h⟩
  ·obtain rfl:k0=m:=by omega
   by_cases h2:M (k+k0) k=0
   ·refine⟨k0+1,L3 _,fun j hj=>?_,fun h=>absurd h (by omega)⟩
    by_cases e:j=k0
    ·subst e;exact h2
    ·exact b j (by omega)
   ·exact⟨k0,by omega,b,fun _=>h2⟩
