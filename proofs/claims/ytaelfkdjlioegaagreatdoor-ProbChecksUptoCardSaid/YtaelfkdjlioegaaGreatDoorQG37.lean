/- The walks and plain laws beneath the statements. -/
import Derived.Test.YtaelfkdjlioegaaGreatDoorQG34
import Derived.Test.YtaelfkdjlioegaaGreatDoorQG35
import Derived.Test.YtaelfkdjlioegaaGreatDoorQG36
namespace Go.Proofs.YtaelfkdjlioegaaGreatDoor
open Tryz
set_option maxHeartbeats 4000000
set_option maxRecDepth 100000
open Go Go.RowKit
variable{w:World}{g i j:Nat}{xs:Nat→Nat→Dyadic}
theorem bh(z:Int)(W:World): Calls prog 103 #[.agg #[.bool (neg z),.string (Qh z)]] W fun e w'=>e=.returned (.int .i64 (ZB z))∧Below W.heap.size W w':=by
 have c:=KZ (Qh z) (neg z) W
 rw[QR]at c
 exact c
theorem kV{z:Int}(h:z≠0): (ZB z != 0)=true:=by
 unfold ZB
 rcases U0 z 0 with h1|h1|h1
 ·rw[if_pos h1];rfl
 ·exact absurd h1 h
 ·rw[if_neg (by omega),if_neg (by omega)];rfl
theorem er(b n c k:Nat)(g6:Nat)(z:Int)(w:World)(hk:k<n)(hg:w.cell? ⟨g6,0,none⟩=some (.int .i64 (k:Nat)))(h1:w.cell? ⟨b,k*2,none⟩=some (.bool (neg z)))(h2:w.cell? ⟨b,k*2+1,none⟩=some (.string (Qh z))):
  Calls prog 152 #[.slice (some ⟨b,0,none⟩) n c,.pointer (some ⟨g6,0,none⟩)] w fun e w'=>(z=0→e=.returned (.bool false))∧(z≠0→e=.returned (.bool true))∧Below w.heap.size w w':=by
 have cS:=Lib.hid (bh z w)
 have hki:(k:Int)<(n:Int):=by omega
 have hkj:(0:Int)≤(k:Int):=by omega
 go_enter func152,ntmps152
 go_wp2_with fail
 refine cS.out.mono ?_
 rintro e w1 ⟨rfl,hb⟩
 have HB:=Lib.hid hb
 clear hb cS hg h1 h2
 by_cases hz:z=0
 ·have hs:ZB z=0:=by rw[hz];rfl
  have HZ:=Lib.hid hz
  clear hz
  rw[hs]
  go_wp2
  go_ret
  exact⟨fun _=>rfl,fun h=>absurd HZ.out h,HB.out⟩
 ·have hs:=kV hz
  have HZ:=Lib.hid hz
  clear hz
  generalize ZB z=s at *
  have hs2:¬ s=0:=by simpa using hs
  go_wp2
  go_ret
  exact⟨fun h=>absurd h HZ.out,fun _=>rfl,HB.out⟩
theorem ep(base top g n k m cc:Nat)(As cs:Nat→Nat)(M:Nat→Nat→Int)(g6 k0:Nat)(w:World)(hkm:k+m=n)(hm:0<m)(hn:n≤1000)(hk:k0≤m)(h1:∀j,j<k0→M (k+j) k=0)(h2:k0<m→M (k+k0) k≠0)(ht:TabI w base top g n 183 30 As cs M)(htop:top≤w.heap.size)(hg:w.cell? ⟨g6,0,none⟩=some (.int .i64 (k:Nat))):
  Calls prog 151 #[.slice (some ⟨g,k,none⟩) m cc,.func (Fn.func 152) #[] #[.pointer (some ⟨g6,0,none⟩)]] w fun e w'=>e=.returned (.int .i64 (if k0<m then(k0:Int)else -1))∧Below w.heap.size w w':=by
 have H1:=Lib.hid h1
 have H2:=Lib.hid h2
 have HT:=Lib.hid ht
 have HN:=Lib.hid (And.intro hkm (And.intro hn htop))
 have hm2:m≤1000:=by omega
 clear h1 h2 ht hkm htop
 go_enter func151,ntmps151
 go_wp2_with fail
 go_loopw [8] (fun i wr=>∃q:Nat,q≤k0∧i=.int .i64 (q:Nat)∧Below w.heap.size w wr) (fun i _=>m-(intOf i).toNat)
 case atStart=>exact⟨0,L9 _,rfl,Below.refl _ _⟩
 case round =>
  obtain⟨q,hqk,rfl,hB⟩:=hrel
  by_cases hlt:q<m
  ·have hT1:=HT.out.later hB HN.out.2.2
   have hkq:k+q<n:=by have:=HN.out;omega
   have g1:=(hT1.row hkq).1
   have hkn:k<n:=by have:=HN.out;omega
   obtain⟨a1,a2,_,_⟩:=hT1.at hkq hkn
   have c1:=Lib.hid (er (As (k+q)) n (cs (k+q)) k g6 (M (k+q) k) wr hkn (L7 hB hg) a1 a2)
   have hlti:(q:Int)<(m:Int):=by omega
   have hqj:(0:Int)≤(q:Int):=by omega
   have HB:=Lib.hid hB
   have HNK:=Lib.hid (And.intro hkq hkn)
   clear hT1 a1 a2 hB hkq hkn
   by_cases he:q=k0
   ·subst he
    go_wp2_with fail
    refine c1.out.mono ?_
    rintro e w1 ⟨_,e1,hb⟩
    obtain rfl:=e1 (H2.out hlt)
    have hB2:=nxt HB.out hb
    clear hb e1 c1
    go_wp2
    go_ret
    exact⟨rfl,hB2⟩
   ·go_wp2_with fail
    refine c1.out.mono ?_
    rintro e w1 ⟨e1,_,hb⟩
    obtain rfl:=e1 (H1.out q (by omega))
    have hB2:=nxt HB.out hb
    clear hb e1 c1
    go_wp2
    exact⟨⟨q+1,by omega,by go_num,hB2⟩,by simp[intOf];omega⟩
  ·obtain rfl:q=m:=by omega
   obtain rfl:q=k0:=by omega
   have hlti:¬(q:Int)<(q:Int):=by omega
   go_wp2
   go_ret
   exact⟨by simp,hB⟩
theorem mB{s t:ByteArray}{b b':Bool}(h:Bx w g 30 #[.bool b,.string s,.bool b',.string t]): mH w (some ⟨g,0,none⟩) 2 (fun j=>if j=0 then b else b') (fun j=>if j=0 then s else t):=fun _ =>
 ⟨g,0,rfl,fun j hj=>by
  have hj':j=0∨j=1:=by omega
  rcases hj' with rfl|rfl
  ·exact⟨h.cel 0,h.cel 1⟩
  ·exact⟨h.cel 2,h.cel 3⟩⟩
theorem PG{x y:Int}(W:World)(hx:Yj x≤134217728)(hy:Yj y≤134217728)(h:Bx W g 30 #[.bool (neg x),.string (Qh x),.bool (neg y),.string (Qh y)]):
  Calls prog 153 #[.slice (some ⟨g,0,none⟩) 2 2] W fun e w'=>e=.returned (.agg #[.bool (neg (x*y)),.string (Qh (x*y))])∧Below W.heap.size W w':=by
 have h:=dH _ 2 2 _ _ 134217728 W (by decide) (by decide) (fun j=>by split<;>(rw[QM];assumption)) (by decide) (mB h)
 have e:Jo (fun j=>Qb (if j=0 then neg x else neg y) (Qa (if j=0 then Qh x else Qh y))) 2=x*y:=by
  show(1*Qb (neg x) (Qa (Qh x)))*Qb (neg y) (Qa (Qh y))=_
  rw[Int.one_mul,QR,QR]
 rwa [e]at h
theorem gq{x y:Int}(W:World)(hx:Yj x≤536870912)(hy:Yj y≤536870912):
  Calls prog 131 #[.agg #[.bool (neg x),.string (Qh x)],.agg #[.bool (neg y),.string (Qh y)]] W fun e w'=>e=.returned (.agg #[.bool (neg (x-y)),.string (Qh (x-y))])∧Below W.heap.size W w':=by
 have c:=El (Qh x) (Qh y) (neg x) (neg y) W (by rw[QM];exact hx) (by rw[QM];exact hy)
 rw[QR,QR]at c
 exact c
theorem i9(x:Int)(W:World): Calls prog 155 #[.agg #[.bool (neg x),.string (Qh x)]] W fun e w'=>e=.returned (.agg #[.bool (neg (-x)),.string (Qh (-x))])∧Below W.heap.size W w':=by
 have c:=Bh (Qh x) (neg x) W
 rw[QR]at c
 exact c
theorem TabI.far2{base top n:Nat}{e e2:TypeId}{As cs:Nat→Nat}{M:Nat→Nat→Int}(h:TabI w base top g n e e2 As cs M){b:Nat}(hp:top≤b)(u v:Value): TabI ((w.setCell ⟨b,i,none⟩ u).setCell ⟨b,j,none⟩ v) base top g n e e2 As cs M:=(h.far (p:=⟨b,i,none⟩) hp u).far (p:=⟨b,j,none⟩) hp v
theorem oa{B:Nat}{a:World}(h:Below B a w)(hg:B≤g)(u v:Value): Below B a ((w.setCell ⟨g,i,none⟩ u).setCell ⟨g,j,none⟩ v):=(h.setCell hg u).setCell hg v
theorem M6(base g n c S:Nat)(As0 cs0:Nat→Nat)(M0:Nat→Nat→Int)(w:World)(hn:0<n)(hn4:n≤4)(hS:256*(S+3)≤100000000)(hS1:1≤S)(hsz:∀i j,i<n→j<n→Yj (M0 i j)≤S)(hbase:base≤w.heap.size)(hnc:n≤c)(ht:TabI w base w.heap.size g n 183 30 As0 cs0 M0):
  Calls prog 127 #[.slice (some ⟨g,0,none⟩) n c] w fun e w'=>e=.returned (.agg #[.bool (neg (ZF n M0)),.string (Qh (ZF n M0))])∧Below base w w':=by
 have HS:=Lib.hid (And.intro hS (And.intro hS1 hsz))
 have HBS:=Lib.hid hbase
 have HST:=Lib.hid (BInv.start hS1 hsz)
 have cO:=Lib.hid (fun W=>AX 1 W (by decide) (by decide))
 clear hS hS1 hsz hbase
 go_enter func127,ntmps127
 have X2:=Bx.new w 30 #[.bool false,.string ⟨#[]⟩]
 have hT:=ht.later (b1 w (.cells #[.bool false,.string ⟨#[]⟩] 30)) (L3 _)
 have hB:=b1 w (.cells #[.bool false,.string ⟨#[]⟩] 30)
 clear ht
 go_wp2_with fail
 generalize w.alloc (.cells #[.bool false,.string ⟨#[]⟩] 30)=w0 at *
 refine(cO.out _).mono ?_
 rintro e w1 ⟨rfl,hb⟩
 replace hT:=hT.later hb (by have:=hB.size;omega)
 replace X2:=X2.later hb
 replace hB:=nxt hB hb
 clear hb cO w0
 have L4:=X2.lt
 have X4:=Bx.new w1 30 #[.bool (neg (1)),.string (Qh (1))]
 replace hT:=hT.later (b1 w1 (.cells #[.bool (neg (1)),.string (Qh (1))] 30)) (by omega)
 replace X2:=X2.alloc (.cells #[.bool (neg (1)),.string (Qh (1))] 30)
 replace hB:=JJ hB (.cells #[.bool (neg (1)),.string (Qh (1))] 30)
 have HX:=Lib.hid (And.intro hT (And.intro X2 (And.intro X4 (And.intro (hB.mono HBS.out) L4))))
 clear hT X2 X4 hB L4
 go_wp2_with fail
 obtain⟨hT,X2,X4,hB,L4⟩:=HX.out
 clear HX
 generalize w1.alloc (.cells #[.bool (neg (1)),.string (Qh (1))] 30)=w2 at *
 generalize w1.heap.size=g4 at *
 have HL4:=Lib.hid L4
 clear L4
 go_loopw [5,15] (fun t i wr=>∃(k:Nat) (M:Nat→Nat→Int) (As cs:Nat→Nat) (l:Int) (tb:Bool),k≤n∧i=.int .i64 (k:Nat)∧t=.bool tb∧TabI wr base w.heap.size g n 183 30 As cs M∧Bx wr w.heap.size 30 #[.bool false,.string ⟨#[]⟩]∧Bx wr g4 30 #[.bool (neg l),.string (Qh l)]∧Below base w wr∧Hid (BInv n S M0 k M l tb)) (fun _ i _=>n-(RowKit.intOf i).toNat)
 case atStart=>exact⟨0,M0,As0,cs0,1,false,L9 _,rfl,rfl,hT,X2,X4,hB,HST⟩
 case round =>
  clear hT X2 X4 hB HST
  obtain⟨k,M,As,cs,l,tb,hk,rfl,rfl,hT,Y2,Y4,hB,HI⟩:=hrel
  by_cases hlt:k<n
  ·have hki:(k:Int)<(n:Int):=by omega
   have hkj:(0:Int)≤(k:Int):=by omega
   have hkn:(k:Int)≤(n:Int):=by omega
   have hck:¬ c=k:=by omega
   obtain⟨k0,hk0,h1,h2⟩:=US M k (n-k)
   have Y6:=Bx.new wr 3 #[.int .i64 (k:Nat)]
   have L2:=Y2.lt
   have L5:=Y4.lt
   replace hT:=hT.later (b1 wr (.cells #[.int .i64 (k:Nat)] 3)) (by omega)
   replace Y2:=Y2.alloc (.cells #[.int .i64 (k:Nat)] 3)
   replace Y4:=Y4.alloc (.cells #[.int .i64 (k:Nat)] 3)
   replace hB:=Qj hB (b1 wr (.cells #[.int .i64 (k:Nat)] 3)) (by have:=HBS.out;omega)
   have HX:=Lib.hid (And.intro hT (And.intro Y2 (And.intro Y4 (And.intro Y6 (And.intro hB (And.intro L2 L5))))))
   clear hT Y2 Y4 Y6 hB L2 L5
   go_upto_region 6 with(fail)
   obtain⟨hT,Y2,Y4,Y6,hB,L2,L5⟩:=HX.out
   clear HX
   generalize wr.alloc (.cells #[.int .i64 (k:Nat)] 3)=w1 at *
   generalize wr.heap.size=g6 at *
   have hs1:=Y2.lt
   have c1:=Lib.hid (ep base w.heap.size g n k (n-k) (c-k) As cs M g6 k0 w1 (by omega) (by omega) (by omega) hk0 h1 h2 hT (by omega) (Y6.cel 0))
   have HP:=Lib.hid (And.intro h1 h2)
   obtain⟨p1,_⟩:=Y6.k1
   have HL:=Lib.hid (And.intro L2 L5)
   have HX:=Lib.hid (And.intro hT (And.intro Y2 (And.intro Y4 (And.intro Y6 hB))))
   clear hT Y2 Y4 Y6 hB h1 h2 hs1 L2 L5
   by_cases hp:k0<n-k
   ·rw[if_pos hp]at c1
    have hk00:¬(k0:Int)<0:=by omega
    go_wp2_with fail
    refine c1.out.mono ?_
    rintro e w3 ⟨rfl,hb⟩
    obtain⟨hT,Y2,Y4,Y6,hB⟩:=HX.out
    have hs1:=Y2.lt
    replace hT:=hT.later hb (by omega)
    replace Y2:=Y2.later hb
    replace Y4:=Y4.later hb
    replace Y6:=Y6.later hb
    replace hB:=Qj hB hb (by have:=HBS.out;omega)
    clear hb HX hs1
    clear c1 p1
    have HX:=Lib.hid (And.intro hT (And.intro Y2 (And.intro Y4 (And.intro Y6 hB))))
    clear hT Y2 Y4 Y6 hB
    go_upto_if 27 with(fail)
    go_cut [5] (fun s5 wx=>∃(As' cs':Nat→Nat),s5=.bool (if k+k0=k then tb else !tb)∧TabI wx base w.heap.size g n 183 30 As' cs' (fun i j=>M (KQ k (k+k0) i) j)∧Bx wx w.heap.size 30 #[.bool false,.string ⟨#[]⟩]∧Bx wx g4 30 #[.bool (neg l),.string (Qh l)]∧Bx wx g6 3 #[.int .i64 (k:Nat)]∧Below base w wx)
    case first =>
     by_cases h0:k0=0
     ·have hg0:¬(0:Int)<(k0:Int):=by omega
      have H0:=Lib.hid h0
      clear h0
      go_wp2_with fail
      go_meet
      obtain⟨hT,Y2,Y4,Y6,hB⟩:=HX.out
      obtain rfl:=H0.out
      exact⟨As,cs,by simp,hT.congr (fun i j _ _=>by rw[U2,I3]),Y2,Y4,Y6,hB⟩
     ·have hg0:(0:Int)<(k0:Int):=by omega
      have hkk:(k:Int)+(k0:Int)<(n:Int):=by omega
      have hkk0:(0:Int)≤(k:Int)+(k0:Int):=by omega
      have hkk8:(k:Int)+(k0:Int)≤8:=by omega
      have hkt:((k:Int)+(k0:Int)).toNat=k+k0:=by omega
      obtain⟨hT,Y2,Y4,Y6,hB⟩:=HX.out
      have hkkn:k+k0<n:=by omega
      obtain⟨r1,r2⟩:=hT.row hlt
      obtain⟨r3,r4⟩:=hT.row hkkn
      obtain⟨p1,_⟩:=Y6.k1
      have hgl:=hT.tb.2
      have hl2:=HL.out.1
      have hne1:¬ g6=g:=by omega
      have hne2:¬ g=g6:=by omega
      have hw:IntKind.i64.wrap ((k:Int)+(k0:Int))=(k:Int)+(k0:Int):=Ln _ (by omega)
      have hke:¬ k+k0=k:=by omega
      clear hT Y2 Y4 Y6 hB hgl hl2
      go_upto_region 10 with(fail)
      go_region
      obtain⟨hT,Y2,Y4,Y6,hB⟩:=HX.out
      have hgl:=hT.tb
      have hl4:=HL4.out
      have hbs:=HBS.out
      have hT2:TabI ((w3.setCell ⟨g,k,none⟩ (.slice (some ⟨As (k+k0),0,none⟩) n (cs (k+k0)))).setCell ⟨g,k+k0,none⟩ (.slice (some ⟨As k,0,none⟩) n (cs k))).drew base w.heap.size g n 183 30 (fun i=>As (KQ k (k+k0) i)) (fun i=>cs (KQ k (k+k0) i)) (fun i j=>M (KQ k (k+k0) i) j):=(hT.swap hlt hkkn).keep fun _ _=>rfl
      have Y22:Bx ((w3.setCell ⟨g,k,none⟩ (.slice (some ⟨As (k+k0),0,none⟩) n (cs (k+k0)))).setCell ⟨g,k+k0,none⟩ (.slice (some ⟨As k,0,none⟩) n (cs k))).drew w.heap.size 30 #[.bool false,.string ⟨#[]⟩]:=(Y2.far2 (by omega) _ _).drew
      have Y42:Bx ((w3.setCell ⟨g,k,none⟩ (.slice (some ⟨As (k+k0),0,none⟩) n (cs (k+k0)))).setCell ⟨g,k+k0,none⟩ (.slice (some ⟨As k,0,none⟩) n (cs k))).drew g4 30 #[.bool (neg l),.string (Qh l)]:=(Y4.far2 (by omega) _ _).drew
      have Y62:Bx ((w3.setCell ⟨g,k,none⟩ (.slice (some ⟨As (k+k0),0,none⟩) n (cs (k+k0)))).setCell ⟨g,k+k0,none⟩ (.slice (some ⟨As k,0,none⟩) n (cs k))).drew g6 3 #[.int .i64 (k:Nat)]:=(Y6.far2 hne1 _ _).drew
      have hB2:Below base w ((w3.setCell ⟨g,k,none⟩ (.slice (some ⟨As (k+k0),0,none⟩) n (cs (k+k0)))).setCell ⟨g,k+k0,none⟩ (.slice (some ⟨As k,0,none⟩) n (cs k))).drew:=(oa hB hgl.1 _ _).drew
      generalize ((w3.setCell ⟨g,k,none⟩ (.slice (some ⟨As (k+k0),0,none⟩) n (cs (k+k0)))).setCell ⟨g,k+k0,none⟩ (.slice (some ⟨As k,0,none⟩) n (cs k))).drew=w4 at *
      have HX2:=Lib.hid (And.intro hT2 (And.intro Y22 (And.intro Y42 (And.intro Y62 hB2))))
      clear hT2 Y22 Y42 Y62 hB2 hT Y2 Y4 Y6 hB hgl hl4 hbs r1 r2 r3 r4 p1 hne1 hne2
      have hif:(if k+k0=k then tb else !tb)=!tb:=if_neg hke
      have HIF:=Lib.hid hif
      clear hif
      go_wp2_with fail
      go_meet
      obtain⟨hT,Y2,Y4,Y6,hB⟩:=HX2.out
      exact⟨_,_,by rw[HIF.out],hT,Y2,Y4,Y6,hB⟩
    case rest =>
     clear HX
     obtain⟨As',cs',rfl,hT,Y2,Y4,Y6,hB⟩:=hcut
     obtain⟨M',hM'⟩:∃x,x=(fun i j=>M (KQ k (k+k0) i) j):=⟨_,rfl⟩
     rw[← hM']at hT
     have hpn:M (k+k0) k≠0:=HP.out.2 hp
     have HI2:Hid ((∀i j,k<i→i<n→k<j→j<n→(M' i j*M' k k-M' i k*M' k j) % l=0)∧BInv n S M0 (k+1) (Bc k l M') (M' k k) (if k+k0=k then tb else !tb)):=Lib.hid (by
      have h3:=HI.out.step hn4 hlt (show k≤k+k0 by omega) (by omega) hpn
      rw[hM']
      refine⟨h3.1,?_⟩
      show BInv n S M0 (k+1) _ (M (KQ k (k+k0) k) k) _
      rw[aW]
      exact h3.2)
     have HSZ:Hid (∀i j,i<n→j<n→Yj (M' i j)≤100000000):=Lib.hid fun i j hi hj=>by
      rw[hM']
      exact eO (by omega) HS.out.1 (HI.out.sm _ _ (Z8 hlt (by omega) hi) hj)
     have HSL:Hid (Yj l≤100000000∧l≠0):=Lib.hid ⟨eO (by omega) HS.out.1 HI.out.sl,HI.out.ne⟩
     clear hM' hpn HP HI
     generalize (if k+k0=k then tb else !tb)=tb2 at *
     obtain⟨w5,hw5⟩:∃x,x=wc:=⟨_,rfl⟩
     subst hw5
     obtain⟨p1,_⟩:=Y6.k1
     have HX:=Lib.hid (And.intro hT (And.intro Y2 (And.intro Y4 (And.intro Y6 hB))))
     clear hT Y2 Y4 Y6 hB
     go_wp2_with fail
     obtain⟨hT,Y2,Y4,Y6,hB⟩:=HX.out
     clear HX
     clear p1
     go_loopw [8] (fun i wr=>∃ii:Nat,k<ii∧ii≤n∧i=.int .i64 (ii:Nat)∧TabI wr base w.heap.size g n 183 30 As' cs' (ZM k l M' ii (k+1))∧Bx wr w.heap.size 30 #[.bool false,.string ⟨#[]⟩]∧Bx wr g4 30 #[.bool (neg l),.string (Qh l)]∧Bx wr g6 3 #[.int .i64 (k:Nat)]∧Below base w wr) (fun i _=>n-(RowKit.intOf i).toNat)
     case atStart=>exact⟨k+1,by omega,by omega,by go_num,hT.congr (fun i j _ _=>Nc k l M' i j),Y2,Y4,Y6,hB⟩
     case round =>
      clear hT Y2 Y4 Y6 hB
      obtain⟨ii,hkii,hin,rfl,hT,Y2,Y4,Y6,hB⟩:=hrel
      by_cases hlt2:ii<n
      ·have hii:(ii:Int)<(n:Int):=by omega
       have hij:(0:Int)≤(ii:Int):=by omega
       obtain⟨p1,_⟩:=Y6.k1
       have HX:=Lib.hid (And.intro hT (And.intro Y2 (And.intro Y4 (And.intro Y6 hB))))
       clear hT Y2 Y4 Y6 hB
       go_wp2_with fail
       obtain⟨hT,Y2,Y4,Y6,hB⟩:=HX.out
       clear HX
       clear p1
       obtain⟨wo,hwo⟩:∃x,x=wr:=⟨_,rfl⟩
       subst hwo
       go_loopw [9] (fun i wr=>∃jj:Nat,k<jj∧jj≤n∧i=.int .i64 (jj:Nat)∧TabI wr base w.heap.size g n 183 30 As' cs' (ZM k l M' ii jj)∧Bx wr w.heap.size 30 #[.bool false,.string ⟨#[]⟩]∧Bx wr g4 30 #[.bool (neg l),.string (Qh l)]∧Bx wr g6 3 #[.int .i64 (k:Nat)]∧Below base w wr) (fun i _=>n-(RowKit.intOf i).toNat)
       case atStart=>exact⟨k+1,by omega,by omega,by go_num,hT,Y2,Y4,Y6,hB⟩
       case round =>
        clear hT Y2 Y4 Y6 hB
        obtain⟨jj,hkjj,hjn,rfl,hT,Y2,Y4,Y6,hB⟩:=hrel
        by_cases hlt3:jj<n
        ·have hji:(jj:Int)<(n:Int):=by omega
         have hjj0:(0:Int)≤(jj:Int):=by omega
         have r1:=(hT.row hlt2).1
         have r2:=(hT.row hlt).1
         obtain⟨a1,a2,_,_⟩:=hT.at hlt2 hlt3
         obtain⟨b1,b2,_,_⟩:=hT.at hlt hlt
         obtain⟨c1,c2,_,_⟩:=hT.at hlt2 hlt
         obtain⟨d1,d2,_,_⟩:=hT.at hlt hlt3
         rw[av]at a1 a2
         rw[SA]at b1 b2 c1 c2
         rw[TN]at d1 d2
         have hs1:=Y2.lt
         have HS1:=Lib.hid hs1
         have HX:=Lib.hid (And.intro hT (And.intro Y2 (And.intro Y4 hB)))
         clear hT Y2 Y4 hB hs1
         go_upto_region 18 with(fail)
         refine Kx [62,63,64,65,66,67,68,69,70,71,72,73,74,75,76,77,78,79,80,81,82,83,84,85,86,87,88,89,90,91,92,93,94,10] [.eq (.slice (some ⟨g,0,none⟩) n c),.eq (.int .i64 (ii:Nat)),.eq (.pointer (some ⟨g,ii,none⟩)),.eq (.slice (some ⟨As' ii,0,none⟩) n (cs' ii)),.eq (.int .i64 (jj:Nat)),.eq (.pointer (some ⟨As' ii,jj*2,none⟩)),.eq (.agg #[.bool (neg (M' ii jj)),.string (Qh (M' ii jj))]),.eq (.slice (some ⟨g,0,none⟩) n c),.eq (.int .i64 (k:Nat)),.eq (.pointer (some ⟨g,k,none⟩)),.eq (.slice (some ⟨As' k,0,none⟩) n (cs' k)),.eq (.int .i64 (k:Nat)),.eq (.pointer (some ⟨As' k,k*2,none⟩)),.eq (.agg #[.bool (neg (M' k k)),.string (Qh (M' k k))]),.sli wr.heap.size 30 2 #[.bool (neg (M' ii jj)),.string (Qh (M' ii jj)),.bool (neg (M' k k)),.string (Qh (M' k k))],.eq (.agg #[.bool (neg ((M' ii jj*M' k k))),.string (Qh ((M' ii jj*M' k k)))]),.eq (.slice (some ⟨g,0,none⟩) n c),.eq (.int .i64 (ii:Nat)),.eq (.pointer (some ⟨g,ii,none⟩)),.eq (.slice (some ⟨As' ii,0,none⟩) n (cs' ii)),.eq (.int .i64 (k:Nat)),.eq (.pointer (some ⟨As' ii,k*2,none⟩)),.eq (.agg #[.bool (neg (M' ii k)),.string (Qh (M' ii k))]),.eq (.slice (some ⟨g,0,none⟩) n c),.eq (.int .i64 (k:Nat)),.eq (.pointer (some ⟨g,k,none⟩)),.eq (.slice (some ⟨As' k,0,none⟩) n (cs' k)),.eq (.int .i64 (jj:Nat)),.eq (.pointer (some ⟨As' k,jj*2,none⟩)),.eq (.agg #[.bool (neg (M' k jj)),.string (Qh (M' k jj))]),.sli wr.heap.size 30 2 #[.bool (neg (M' ii k)),.string (Qh (M' ii k)),.bool (neg (M' k jj)),.string (Qh (M' k jj))],.eq (.agg #[.bool (neg ((M' ii k*M' k jj))),.string (Qh ((M' ii k*M' k jj)))]),.eq (.agg #[.bool (neg ((M' ii jj*M' k k-M' ii k*M' k jj))),.string (Qh ((M' ii jj*M' k k-M' ii k*M' k jj)))]),.ptr wr.heap.size 30 #[.bool false,.string ⟨#[]⟩]] 120 (by kernel_rfl) (by exact fun _ _ _ _ _ h=>h) (by kernel_rfl) (by rfl) ?hop ?htail
         case hop =>
          intro A hA
          have hN:A.tmps.size=120:=by rw[hA];rfl
          have q0:A.tmps.getD 0 undef=.slice (some ⟨g,0,none⟩) n c:=by rw[hA];rfl
          have q8:A.tmps.getD 8 undef=.int .i64 (ii:Nat):=by rw[hA];rfl
          have q9:A.tmps.getD 9 undef=.int .i64 (jj:Nat):=by rw[hA];rfl
          have q6:A.tmps.getD 6 undef=.pointer (some ⟨g6,0,none⟩):=by rw[hA];rfl
          clear hA
          refine⟨?_,?_,?_,?_,?_,?_,?_,?_,?_,?_,?_,?_,?_,?_,?_,?_,?_,?_,?_,?_,?_,?_,?_,?_,?_,?_,?_,?_,?_,?_,?_,?_,?_,?_,trivial⟩
          ·refine YT hN fun u W ev ec ef E B hG hf=>?_
           exact QV _ rfl rfl hG (by simp[go_sem,B 0 rfl rfl q0]) rfl
          ·refine YT hN fun u W ev ec ef E B hG hf=>?_
           exact QV _ rfl rfl hG (by simp[go_sem,B 8 rfl rfl q8]) rfl
          ·refine YT hN fun u W ev ec ef E B hG hf=>?_
           exact QV _ rfl rfl hG (by simp[go_sem,E 62 0 rfl rfl (hf 0 rfl),E 63 1 rfl rfl (hf 1 rfl),hii,hij]) rfl
          ·refine YT hN fun u W ev ec ef E B hG hf=>?_
           exact QV _ rfl rfl hG (by simp[go_sem,E 64 2 rfl rfl (hf 2 rfl),L7 hG r1]) rfl
          ·refine YT hN fun u W ev ec ef E B hG hf=>?_
           exact QV _ rfl rfl hG (by simp[go_sem,B 9 rfl rfl q9]) rfl
          ·refine YT hN fun u W ev ec ef E B hG hf=>?_
           exact QV _ rfl rfl hG (by simp[go_sem,E 65 3 rfl rfl (hf 3 rfl),E 66 4 rfl rfl (hf 4 rfl),hji,hjj0]) rfl
          ·refine YT hN fun u W ev ec ef E B hG hf=>?_
           exact QV _ rfl rfl hG (by simp[go_sem,E 67 5 rfl rfl (hf 5 rfl),L7 hG a1,L7 hG a2]) rfl
          ·refine YT hN fun u W ev ec ef E B hG hf=>?_
           exact QV _ rfl rfl hG (by simp[go_sem,B 0 rfl rfl q0]) rfl
          ·refine YT hN fun u W ev ec ef E B hG hf=>?_
           exact QV _ rfl rfl hG (by simp[go_sem,B 6 rfl rfl q6,(Y6.later hG).cel]) rfl
          ·refine YT hN fun u W ev ec ef E B hG hf=>?_
           exact QV _ rfl rfl hG (by simp[go_sem,E 69 7 rfl rfl (hf 7 rfl),E 70 8 rfl rfl (hf 8 rfl),hki,hkj]) rfl
          ·refine YT hN fun u W ev ec ef E B hG hf=>?_
           exact QV _ rfl rfl hG (by simp[go_sem,E 71 9 rfl rfl (hf 9 rfl),L7 hG r2]) rfl
          ·refine YT hN fun u W ev ec ef E B hG hf=>?_
           exact QV _ rfl rfl hG (by simp[go_sem,B 6 rfl rfl q6,(Y6.later hG).cel]) rfl
          ·refine YT hN fun u W ev ec ef E B hG hf=>?_
           exact QV _ rfl rfl hG (by simp[go_sem,E 72 10 rfl rfl (hf 10 rfl),E 73 11 rfl rfl (hf 11 rfl),hki,hkj]) rfl
          ·refine YT hN fun u W ev ec ef E B hG hf=>?_
           exact QV _ rfl rfl hG (by simp[go_sem,E 74 12 rfl rfl (hf 12 rfl),L7 hG b1,L7 hG b2]) rfl
          ·refine YT hN fun u W ev ec ef E B hG hf=>?_
           exact MW _ _ rfl (by simp[go_sem,E 68 6 rfl rfl (hf 6 rfl),E 75 13 rfl rfl (hf 13 rfl)]) (JJ hG _) ⟨_,rfl,V9 hG,Bx.new _ _ _⟩ rfl
          ·refine YT hN fun u W ev ec ef E B hG hf=>?_
           obtain⟨g76,f76,hb76,hx76⟩:=hf 14 rfl
           exact EL rfl rfl (by simp[go_sem,ef,E 76 14 rfl rfl f76]) (PG W (L8 (HSZ.out _ _ hlt2 hlt3) (by decide)) (L8 (HSZ.out _ _ hlt hlt) (by decide)) hx76) hG (fun _ _=>rfl)
          ·refine YT hN fun u W ev ec ef E B hG hf=>?_
           exact QV _ rfl rfl hG (by simp[go_sem,B 0 rfl rfl q0]) rfl
          ·refine YT hN fun u W ev ec ef E B hG hf=>?_
           exact QV _ rfl rfl hG (by simp[go_sem,B 8 rfl rfl q8]) rfl
          ·refine YT hN fun u W ev ec ef E B hG hf=>?_
           exact QV _ rfl rfl hG (by simp[go_sem,E 78 16 rfl rfl (hf 16 rfl),E 79 17 rfl rfl (hf 17 rfl),hii,hij]) rfl
          ·refine YT hN fun u W ev ec ef E B hG hf=>?_
           exact QV _ rfl rfl hG (by simp[go_sem,E 80 18 rfl rfl (hf 18 rfl),L7 hG r1]) rfl
          ·refine YT hN fun u W ev ec ef E B hG hf=>?_
           exact QV _ rfl rfl hG (by simp[go_sem,B 6 rfl rfl q6,(Y6.later hG).cel]) rfl
          ·refine YT hN fun u W ev ec ef E B hG hf=>?_
           exact QV _ rfl rfl hG (by simp[go_sem,E 81 19 rfl rfl (hf 19 rfl),E 82 20 rfl rfl (hf 20 rfl),hki,hkj]) rfl
          ·refine YT hN fun u W ev ec ef E B hG hf=>?_
           exact QV _ rfl rfl hG (by simp[go_sem,E 83 21 rfl rfl (hf 21 rfl),L7 hG c1,L7 hG c2]) rfl
          ·refine YT hN fun u W ev ec ef E B hG hf=>?_
           exact QV _ rfl rfl hG (by simp[go_sem,B 0 rfl rfl q0]) rfl
          ·refine YT hN fun u W ev ec ef E B hG hf=>?_
           exact QV _ rfl rfl hG (by simp[go_sem,B 6 rfl rfl q6,(Y6.later hG).cel]) rfl
          ·refine YT hN fun u W ev ec ef E B hG hf=>?_
           exact QV _ rfl rfl hG (by simp[go_sem,E 85 23 rfl rfl (hf 23 rfl),E 86 24 rfl rfl (hf 24 rfl),hki,hkj]) rfl
          ·refine YT hN fun u W ev ec ef E B hG hf=>?_
           exact QV _ rfl rfl hG (by simp[go_sem,E 87 25 rfl rfl (hf 25 rfl),L7 hG r2]) rfl
          ·refine YT hN fun u W ev ec ef E B hG hf=>?_
           exact QV _ rfl rfl hG (by simp[go_sem,B 9 rfl rfl q9]) rfl
          ·refine YT hN fun u W ev ec ef E B hG hf=>?_
           exact QV _ rfl rfl hG (by simp[go_sem,E 88 26 rfl rfl (hf 26 rfl),E 89 27 rfl rfl (hf 27 rfl),hji,hjj0]) rfl
          ·refine YT hN fun u W ev ec ef E B hG hf=>?_
           exact QV _ rfl rfl hG (by simp[go_sem,E 90 28 rfl rfl (hf 28 rfl),L7 hG d1,L7 hG d2]) rfl
          ·refine YT hN fun u W ev ec ef E B hG hf=>?_
           exact MW _ _ rfl (by simp[go_sem,E 84 22 rfl rfl (hf 22 rfl),E 91 29 rfl rfl (hf 29 rfl)]) (JJ hG _) ⟨_,rfl,V9 hG,Bx.new _ _ _⟩ rfl
          ·refine YT hN fun u W ev ec ef E B hG hf=>?_
           obtain⟨g92,f92,hb92,hx92⟩:=hf 30 rfl
           exact EL rfl rfl (by simp[go_sem,ef,E 92 30 rfl rfl f92]) (PG W (L8 (HSZ.out _ _ hlt2 hlt) (by decide)) (L8 (HSZ.out _ _ hlt hlt3) (by decide)) hx92) hG (fun _ _=>rfl)
          ·refine YT hN fun u W ev ec ef E B hG hf=>?_
           exact EL rfl rfl (by simp[go_sem,ef,E 77 15 rfl rfl (hf 15 rfl),E 93 31 rfl rfl (hf 31 rfl)]) (gq W (L8 (Yy (HSZ.out _ _ hlt2 hlt3) (HSZ.out _ _ hlt hlt)) (by decide)) (L8 (Yy (HSZ.out _ _ hlt2 hlt) (HSZ.out _ _ hlt hlt3)) (by decide))) hG (fun _ _=>rfl)
          ·refine YT hN fun u W ev ec ef E B hG hf=>?_
           exact MW _ _ rfl (by simp[go_sem]) (JJ hG _) ⟨_,rfl,V9 hG,Bx.new _ _ _⟩ rfl
         case htail =>
         intro u w6 hG hP _
         have f94:u 32=.agg #[.bool (neg ((M' ii jj*M' k k-M' ii k*M' k jj))),.string (Qh ((M' ii jj*M' k k-M' ii k*M' k jj)))]:=hP 32 (by decide)
         obtain⟨g10,f10,hb10,hx10⟩:=hP 33 (by decide)
         simp only[Z5,Act.put,Rp,Ti,Tj,Rb,Rs,Nat.reduceAdd,Td,Te,f94,f10]
         obtain⟨hT,Y2,Y4,hB⟩:=HX.out
         have l2:=Y2.lt
         have l4:=Y4.lt
         have l6:=Y6.lt
         have hbs:=HBS.out
         replace hT:=hT.later hG (by omega)
         replace Y2:=Y2.later hG
         replace Y4:=Y4.later hG
         replace Y6:=Y6.later hG
         replace hB:=Qj hB hG (by omega)
         have Y10:=hx10
         clear hP hG f94 f10 hx10 r1 r2 a1 a2 b1 b2 c1 c2 d1 d2 HX
         obtain⟨q1,q2,q3,q4⟩:=Y10.two
         have HX:=Lib.hid (And.intro hT (And.intro Y2 (And.intro Y4 (And.intro Y6 (And.intro hB (And.intro l2 (And.intro l4 (And.intro l6 hb10))))))))
         clear hT Y2 Y4 Y6 hB l2 l4 l6 hb10 hbs
         go_upto_region 19 with(fail)
         obtain⟨hT,Y2,Y4,Y6,hB,l2,l4,l6,hb10⟩:=HX.out
         have hbs:=HBS.out
         replace hT:TabI ((w6.setCell ⟨g10,0,none⟩ (.bool (neg ((M' ii jj*M' k k-M' ii k*M' k jj))))).setCell ⟨g10,1,none⟩ (.string (Qh ((M' ii jj*M' k k-M' ii k*M' k jj))))) base w.heap.size g n 183 30 As' cs' (ZM k l M' ii jj):=hT.far2 (by omega) _ _
         replace Y2:Bx ((w6.setCell ⟨g10,0,none⟩ (.bool (neg ((M' ii jj*M' k k-M' ii k*M' k jj))))).setCell ⟨g10,1,none⟩ (.string (Qh ((M' ii jj*M' k k-M' ii k*M' k jj))))) w.heap.size 30 #[.bool false,.string ⟨#[]⟩]:=Y2.far2 (by omega) _ _
         replace Y4:Bx ((w6.setCell ⟨g10,0,none⟩ (.bool (neg ((M' ii jj*M' k k-M' ii k*M' k jj))))).setCell ⟨g10,1,none⟩ (.string (Qh ((M' ii jj*M' k k-M' ii k*M' k jj))))) g4 30 #[.bool (neg l),.string (Qh l)]:=Y4.far2 (by omega) _ _
         replace Y6:Bx ((w6.setCell ⟨g10,0,none⟩ (.bool (neg ((M' ii jj*M' k k-M' ii k*M' k jj))))).setCell ⟨g10,1,none⟩ (.string (Qh ((M' ii jj*M' k k-M' ii k*M' k jj))))) g6 3 #[.int .i64 (k:Nat)]:=Y6.far2 (by omega) _ _
         replace Y10:Bx ((w6.setCell ⟨g10,0,none⟩ (.bool (neg ((M' ii jj*M' k k-M' ii k*M' k jj))))).setCell ⟨g10,1,none⟩ (.string (Qh ((M' ii jj*M' k k-M' ii k*M' k jj))))) g10 30 #[.bool (neg ((M' ii jj*M' k k-M' ii k*M' k jj))),.string (Qh ((M' ii jj*M' k k-M' ii k*M' k jj)))]:=Y10.set2 _ _
         replace hB:Below base w ((w6.setCell ⟨g10,0,none⟩ (.bool (neg ((M' ii jj*M' k k-M' ii k*M' k jj))))).setCell ⟨g10,1,none⟩ (.string (Qh ((M' ii jj*M' k k-M' ii k*M' k jj))))):=oa hB (by omega) _ _
         generalize ((w6.setCell ⟨g10,0,none⟩ (.bool (neg ((M' ii jj*M' k k-M' ii k*M' k jj))))).setCell ⟨g10,1,none⟩ (.string (Qh ((M' ii jj*M' k k-M' ii k*M' k jj)))))=w7 at *
         clear HX q1 q2 q3 q4 l2 l4 l6 hb10 hbs
         have r1:=(hT.row hlt2).1
         have HX:=Lib.hid (And.intro hT (And.intro Y2 (And.intro Y6 hB)))
         clear hT Y2 Y6 hB
         have HXS:Hid (Yj (M' ii jj*M' k k-M' ii k*M' k jj)≤536870912):=Lib.hid (L8 (Cq (Yy (HSZ.out _ _ hlt2 hlt3) (HSZ.out _ _ hlt hlt)) (Yy (HSZ.out _ _ hlt2 hlt) (HSZ.out _ _ hlt hlt3))) (by decide))
         refine Vl [96,97,98,99,100,101,102,103,95,104,105,106,107] [.eq (.slice (some ⟨g,0,none⟩) n c),.eq (.int .i64 (ii:Nat)),.eq (.pointer (some ⟨g,ii,none⟩)),.eq (.slice (some ⟨As' ii,0,none⟩) n (cs' ii)),.eq (.int .i64 (jj:Nat)),.eq (.agg #[.bool (neg ((M' ii jj*M' k k-M' ii k*M' k jj))),.string (Qh ((M' ii jj*M' k k-M' ii k*M' k jj)))]),.eq (.agg #[.bool (neg l),.string (Qh l)]),.eq (.tuple #[.agg #[.bool (neg ((M' ii jj*M' k k-M' ii k*M' k jj) / l)),.string (Qh ((M' ii jj*M' k k-M' ii k*M' k jj) / l))],.agg #[.bool (neg ((M' ii jj*M' k k-M' ii k*M' k jj) % l)),.string (Qh ((M' ii jj*M' k k-M' ii k*M' k jj) % l))],.bool true]),.eq (.tuple #[.agg #[.bool (neg ((M' ii jj*M' k k-M' ii k*M' k jj) / l)),.string (Qh ((M' ii jj*M' k k-M' ii k*M' k jj) / l))],.agg #[.bool (neg ((M' ii jj*M' k k-M' ii k*M' k jj) % l)),.string (Qh ((M' ii jj*M' k k-M' ii k*M' k jj) % l))],.bool true]),.eq (.agg #[.bool (neg ((M' ii jj*M' k k-M' ii k*M' k jj) / l)),.string (Qh ((M' ii jj*M' k k-M' ii k*M' k jj) / l))]),.eq (.agg #[.bool (neg ((M' ii jj*M' k k-M' ii k*M' k jj) % l)),.string (Qh ((M' ii jj*M' k k-M' ii k*M' k jj) % l))]),.eq (.bool true),.eq (.pointer (some ⟨As' ii,jj*2,none⟩))] [10,11] 120 (by kernel_rfl) (by exact fun _ _ _ _ _ h=>h) (by kernel_rfl) (by rfl) ?hop ?hlate ?htail
         case hop =>
          intro A hA
          have hN:A.tmps.size=120:=by rw[hA];rfl
          have q0:A.tmps.getD 0 undef=.slice (some ⟨g,0,none⟩) n c:=by rw[hA];rfl
          have q8:A.tmps.getD 8 undef=.int .i64 (ii:Nat):=by rw[hA];rfl
          have q9:A.tmps.getD 9 undef=.int .i64 (jj:Nat):=by rw[hA];rfl
          have q10:A.tmps.getD 10 undef=.pointer (some ⟨g10,0,none⟩):=by rw[hA];rfl
          have q4:A.tmps.getD 4 undef=.pointer (some ⟨g4,0,none⟩):=by rw[hA];rfl
          clear hA
          refine⟨?_,?_,?_,?_,?_,?_,?_,?_,?_,?_,?_,?_,?_,trivial⟩
          ·refine YT hN fun u W ev ec ef E B hG hf=>?_
           exact QV _ rfl rfl hG (by simp[go_sem,B 0 rfl rfl q0]) rfl
          ·refine YT hN fun u W ev ec ef E B hG hf=>?_
           exact QV _ rfl rfl hG (by simp[go_sem,B 8 rfl rfl q8]) rfl
          ·refine YT hN fun u W ev ec ef E B hG hf=>?_
           exact QV _ rfl rfl hG (by simp[go_sem,E 96 0 rfl rfl (hf 0 rfl),E 97 1 rfl rfl (hf 1 rfl),hii,hij]) rfl
          ·refine YT hN fun u W ev ec ef E B hG hf=>?_
           exact QV _ rfl rfl hG (by simp[go_sem,E 98 2 rfl rfl (hf 2 rfl),L7 hG r1]) rfl
          ·refine YT hN fun u W ev ec ef E B hG hf=>?_
           exact QV _ rfl rfl hG (by simp[go_sem,B 9 rfl rfl q9]) rfl
          ·refine YT hN fun u W ev ec ef E B hG hf=>?_
           exact QV _ rfl rfl hG (by simp[go_sem,B 10 rfl rfl q10,(Y10.later hG).cel]) rfl
          ·refine YT hN fun u W ev ec ef E B hG hf=>?_
           exact QV _ rfl rfl hG (by simp[go_sem,B 4 rfl rfl q4,(Y4.later hG).cel]) rfl
          ·refine YT hN fun u W ev ec ef E B hG hf=>?_
           exact EL rfl rfl (by simp[go_sem,ef,E 101 5 rfl rfl (hf 5 rfl),E 102 6 rfl rfl (hf 6 rfl)]) (iC W HXS.out (L8 HSL.out.1 (by decide)) HSL.out.2 (HI2.out.1 ii jj hkii hlt2 hkjj hlt3)) hG (fun _ _=>rfl)
          ·refine YT hN fun u W ev ec ef E B hG hf=>?_
           exact QV _ rfl rfl hG (by simp[go_sem,E 103 7 rfl rfl (hf 7 rfl)]) rfl
          ·refine YT hN fun u W ev ec ef E B hG hf=>?_
           exact QV _ rfl rfl hG (by simp[go_sem,E 95 8 rfl rfl (hf 8 rfl)]) rfl
          ·refine YT hN fun u W ev ec ef E B hG hf=>?_
           exact QV _ rfl rfl hG (by simp[go_sem,E 95 8 rfl rfl (hf 8 rfl)]) rfl
          ·refine YT hN fun u W ev ec ef E B hG hf=>?_
           exact QV _ rfl rfl hG (by simp[go_sem,E 95 8 rfl rfl (hf 8 rfl)]) rfl
          ·refine YT hN fun u W ev ec ef E B hG hf=>?_
           exact QV _ rfl rfl hG (by simp[go_sem,E 99 3 rfl rfl (hf 3 rfl),E 100 4 rfl rfl (hf 4 rfl),hji,hjj0]) rfl
         case hlate =>
          intro A hA
          have hN:A.tmps.size=120:=by rw[hA];rfl
          clear hA
          refine⟨trivial,trivial,trivial,trivial,trivial,trivial,trivial,trivial,trivial,trivial,⟨rfl,?_⟩,⟨rfl,?_⟩,trivial,trivial⟩
          ·intro u W hf
           have e95:=Kd (a:=A) (ds:=[96,97,98,99,100,101,102,103,95,104,105,106,107]) (u:=u) (k:=95) (i:=8) (by rw[hN];decide) rfl (hf 8 (by decide))
           generalize (Gl A [96,97,98,99,100,101,102,103,95,104,105,106,107] u).eval=ev at *
           exact⟨_,rfl,fun w=>(by simp[go_sem,e95]),rfl⟩
          ·intro u W hf
           have e95:=Kd (a:=A) (ds:=[96,97,98,99,100,101,102,103,95,104,105,106,107]) (u:=u) (k:=95) (i:=8) (by rw[hN];decide) rfl (hf 8 (by decide))
           generalize (Gl A [96,97,98,99,100,101,102,103,95,104,105,106,107] u).eval=ev at *
           exact⟨_,rfl,fun w=>(by simp[go_sem,e95]),rfl⟩
         case htail =>
         intro u w8 hG hP _
         have f104:u 9=.agg #[.bool (neg ((M' ii jj*M' k k-M' ii k*M' k jj) / l)),.string (Qh ((M' ii jj*M' k k-M' ii k*M' k jj) / l))]:=hP 9 (by decide)
         have f107:u 12=.pointer (some ⟨As' ii,jj*2,none⟩):=hP 12 (by decide)
         simp only[Z5,Act.put,Rp,Ti,Tj,Rb,Rs,Nat.reduceAdd,Td,Te,f104,f107]
         obtain⟨hT,Y2,Y6,hB⟩:=HX.out
         have l2:=Y2.lt
         have l4:=Y4.lt
         have hbs:=HBS.out
         have hl:=HL.out
         have hl4:=HL4.out
         replace hT:=hT.later hG (by omega)
         replace Y2:=Y2.later hG
         replace Y4:=Y4.later hG
         replace Y6:=Y6.later hG
         replace hB:=Qj hB hG (by omega)
         clear hP hG f104 f107 r1 HX Y10
         obtain⟨q1,q2,q3,q4⟩:=hT.at hlt2 hlt3
         have hA:=hT.rb ii hlt2
         have hT2:TabI ((w8.setCell ⟨As' ii,jj*2,none⟩ (.bool (neg ((M' ii jj*M' k k-M' ii k*M' k jj) / l)))).setCell ⟨As' ii,jj*2+1,none⟩ (.string (Qh ((M' ii jj*M' k k-M' ii k*M' k jj) / l)))) base w.heap.size g n 183 30 As' cs' (ZM k l M' ii (jj+1)):=(hT.put hlt2 hlt3 ((M' ii jj*M' k k-M' ii k*M' k jj) / l)).congr (fun i j _ _=>SE k l M' ii jj i j hkii hkjj)
         have Y22:Bx ((w8.setCell ⟨As' ii,jj*2,none⟩ (.bool (neg ((M' ii jj*M' k k-M' ii k*M' k jj) / l)))).setCell ⟨As' ii,jj*2+1,none⟩ (.string (Qh ((M' ii jj*M' k k-M' ii k*M' k jj) / l)))) w.heap.size 30 #[.bool false,.string ⟨#[]⟩]:=Y2.far2 (by omega) _ _
         have Y42:Bx ((w8.setCell ⟨As' ii,jj*2,none⟩ (.bool (neg ((M' ii jj*M' k k-M' ii k*M' k jj) / l)))).setCell ⟨As' ii,jj*2+1,none⟩ (.string (Qh ((M' ii jj*M' k k-M' ii k*M' k jj) / l)))) g4 30 #[.bool (neg l),.string (Qh l)]:=Y4.far2 (by omega) _ _
         have Y62:Bx ((w8.setCell ⟨As' ii,jj*2,none⟩ (.bool (neg ((M' ii jj*M' k k-M' ii k*M' k jj) / l)))).setCell ⟨As' ii,jj*2+1,none⟩ (.string (Qh ((M' ii jj*M' k k-M' ii k*M' k jj) / l)))) g6 3 #[.int .i64 (k:Nat)]:=Y6.far2 (by omega) _ _
         have hB2:Below base w ((w8.setCell ⟨As' ii,jj*2,none⟩ (.bool (neg ((M' ii jj*M' k k-M' ii k*M' k jj) / l)))).setCell ⟨As' ii,jj*2+1,none⟩ (.string (Qh ((M' ii jj*M' k k-M' ii k*M' k jj) / l)))):=oa hB hA.1 _ _
         have HZ:=Lib.hid (And.intro hT2 (And.intro Y22 (And.intro Y42 (And.intro Y62 hB2))))
         clear hT Y2 Y4 Y6 hB hT2 Y22 Y42 Y62 hB2 l2 l4 hbs hA hl hl4
         go_wp2
         exact⟨⟨jj+1,by omega,by omega,by go_num,HZ.out.1,HZ.out.2.1,HZ.out.2.2.1,HZ.out.2.2.2.1,HZ.out.2.2.2.2⟩,by simp[RowKit.intOf];omega⟩
        ·obtain rfl:jj=n:=by omega
         have hji:¬(jj:Int)<(jj:Int):=by omega
         replace hT:=hT.congr (fun i j _ hj=>RY k l M' ii jj i j hj)
         have HX:=Lib.hid (And.intro hT (And.intro Y2 (And.intro Y4 (And.intro Y6 hB))))
         clear hT Y2 Y4 Y6 hB
         go_wp2
         obtain⟨hT,Y2,Y4,Y6,hB⟩:=HX.out
         exact⟨⟨ii+1,by omega,by omega,by go_num,hT,Y2,Y4,Y6,hB⟩,by simp[RowKit.intOf];omega⟩
      ·obtain rfl:ii=n:=by omega
       have hii:¬(ii:Int)<(ii:Int):=by omega
       replace hT:=hT.congr (fun i j hi _=>Um k l M' ii i j hi)
       have r2:=(hT.row hlt).1
       obtain⟨b1,b2,_,_⟩:=hT.at hlt hlt
       rw[iW]at b1 b2
       have HX:=Lib.hid (And.intro hT (And.intro Y2 (And.intro Y4 hB)))
       clear hT Y2 Y4 hB
       go_upto_region 20 with(fail)
       refine Kx [108,109,110,111,112,113,114] [.eq (.slice (some ⟨g,0,none⟩) ii c),.eq (.int .i64 (k:Nat)),.eq (.pointer (some ⟨g,k,none⟩)),.eq (.slice (some ⟨As' k,0,none⟩) ii (cs' k)),.eq (.int .i64 (k:Nat)),.eq (.pointer (some ⟨As' k,k*2,none⟩)),.eq (.agg #[.bool (neg (M' k k)),.string (Qh (M' k k))])] 120 (by kernel_rfl) (by exact fun _ _ _ _ _ h=>h) (by kernel_rfl) (by rfl) ?hop ?htail
       case hop =>
        intro A hA
        have hN:A.tmps.size=120:=by rw[hA];rfl
        have q0:A.tmps.getD 0 undef=.slice (some ⟨g,0,none⟩) ii c:=by rw[hA];rfl
        have q6:A.tmps.getD 6 undef=.pointer (some ⟨g6,0,none⟩):=by rw[hA];rfl
        clear hA
        refine⟨?_,?_,?_,?_,?_,?_,?_,trivial⟩
        ·refine YT hN fun u W ev ec ef E B hG hf=>?_
         exact QV _ rfl rfl hG (by simp[go_sem,B 0 rfl rfl q0]) rfl
        ·refine YT hN fun u W ev ec ef E B hG hf=>?_
         exact QV _ rfl rfl hG (by simp[go_sem,B 6 rfl rfl q6,(Y6.later hG).cel]) rfl
        ·refine YT hN fun u W ev ec ef E B hG hf=>?_
         exact QV _ rfl rfl hG (by simp[go_sem,E 108 0 rfl rfl (hf 0 rfl),E 109 1 rfl rfl (hf 1 rfl),hki,hkj]) rfl
        ·refine YT hN fun u W ev ec ef E B hG hf=>?_
         exact QV _ rfl rfl hG (by simp[go_sem,E 110 2 rfl rfl (hf 2 rfl),L7 hG r2]) rfl
        ·refine YT hN fun u W ev ec ef E B hG hf=>?_
         exact QV _ rfl rfl hG (by simp[go_sem,B 6 rfl rfl q6,(Y6.later hG).cel]) rfl
        ·refine YT hN fun u W ev ec ef E B hG hf=>?_
         exact QV _ rfl rfl hG (by simp[go_sem,E 111 3 rfl rfl (hf 3 rfl),E 112 4 rfl rfl (hf 4 rfl),hki,hkj]) rfl
        ·refine YT hN fun u W ev ec ef E B hG hf=>?_
         exact QV _ rfl rfl hG (by simp[go_sem,E 113 5 rfl rfl (hf 5 rfl),L7 hG b1,L7 hG b2]) rfl
       case htail =>
       intro u w8 hG hP _
       have f114:u 6=.agg #[.bool (neg (M' k k)),.string (Qh (M' k k))]:=hP 6 (by decide)
       simp only[Z5,Act.put,Rp,Ti,Tj,Rb,Rs,Nat.reduceAdd,Td,Te,f114]
       obtain⟨hT,Y2,Y4,hB⟩:=HX.out
       have l2:=Y2.lt
       have hbs:=HBS.out
       have hl4:=HL4.out
       replace hT:=hT.later hG (by omega)
       replace Y2:=Y2.later hG
       replace Y4:=Y4.later hG
       replace hB:=Qj hB hG (by omega)
       clear hP hG f114 r2 b1 b2 HX Y6
       obtain⟨q1,q2,q3,q4⟩:=Y4.two
       have hT2:TabI ((w8.setCell ⟨g4,0,none⟩ (.bool (neg (M' k k)))).setCell ⟨g4,1,none⟩ (.string (Qh (M' k k)))) base w.heap.size g ii 183 30 As' cs' (Bc k l M'):=hT.far2 (by omega) _ _
       have Y22:Bx ((w8.setCell ⟨g4,0,none⟩ (.bool (neg (M' k k)))).setCell ⟨g4,1,none⟩ (.string (Qh (M' k k)))) w.heap.size 30 #[.bool false,.string ⟨#[]⟩]:=Y2.far2 (by omega) _ _
       have Y42:Bx ((w8.setCell ⟨g4,0,none⟩ (.bool (neg (M' k k)))).setCell ⟨g4,1,none⟩ (.string (Qh (M' k k)))) g4 30 #[.bool (neg (M' k k)),.string (Qh (M' k k))]:=Y4.set2 _ _
       have hB2:Below base w ((w8.setCell ⟨g4,0,none⟩ (.bool (neg (M' k k)))).setCell ⟨g4,1,none⟩ (.string (Qh (M' k k)))):=oa hB (by omega) _ _
       have HZ:=Lib.hid (And.intro hT2 (And.intro Y22 (And.intro Y42 hB2)))
       clear hT Y2 Y4 hB hT2 Y22 Y42 hB2 l2 hbs hl4
       go_wp2
       exact⟨⟨k+1,_,As',cs',_,tb2,by omega,by go_num,rfl,HZ.out.1,HZ.out.2.1,HZ.out.2.2.1,HZ.out.2.2.2,Lib.hid HI2.out.2⟩,by simp[RowKit.intOf];omega⟩
   ·rw[if_neg hp]at c1
    go_wp2_with fail
    refine c1.out.mono ?_
    rintro e w3 ⟨rfl,hb⟩
    obtain⟨hT,Y2,Y4,Y6,hB⟩:=HX.out
    have hs1:=Y2.lt
    replace hT:=hT.later hb (by omega)
    replace Y2:=Y2.later hb
    replace Y4:=Y4.later hb
    replace Y6:=Y6.later hb
    replace hB:=Qj hB hb (by have:=HBS.out;omega)
    clear hb HX hs1
    obtain⟨q1,q2,q3,q4⟩:=Y2.two
    have hz:ZF n M0=0:=HI.out.zero hn4 hlt fun q h1 h2=>by
     have h3:=HP.out.1 (q-k) (by omega)
     rwa [show k+(q-k)=q by omega]at h3
    have HZ:=Lib.hid (And.intro hz (And.intro Y2 hB))
    clear hT Y2 Y4 Y6 hB hz c1 p1
    go_wp2
    exact bodyPost_ret (v:=.agg #[.bool false,.string ⟨#[]⟩]) (by simp[results,results127,go_sem,(HZ.out.2.1.set2 _ _).cel]) rfl ⟨by rw[HZ.out.1,show neg 0=false from rfl,IY],Kq HZ.out.2.2 HBS.out _ _⟩
  ·obtain rfl:k=n:=by omega
   have hki:¬(k:Int)<(k:Int):=by omega
   obtain⟨q1,q2,q3,q4⟩:=Y2.two
   obtain⟨r1,r2,_,_⟩:=Y4.two
   cases tb with
   | false =>
    have HZ:=Lib.hid (And.intro (HI.out.done hn4) (And.intro Y2 hB))
    clear hT Y2 Y4 hB HI
    go_wp2
    exact bodyPost_ret (v:=.agg #[.bool (neg l),.string (Qh l)]) (by simp[results,results127,go_sem,(HZ.out.2.1.set2 _ _).cel]) rfl ⟨by rw[HZ.out.1];rfl,Kq HZ.out.2.2 HBS.out _ _⟩
   | true =>
    have cN:=Lib.hid (fun W=>i9 l W)
    have HZ:=Lib.hid (And.intro (HI.out.done hn4) (And.intro Y2 hB))
    have hs1:=Y2.lt
    have HS1:=Lib.hid hs1
    clear hT Y2 Y4 hB HI hs1 q1 q2 q3 q4
    go_wp2_with fail
    refine(cN.out _).mono ?_
    rintro e w3 ⟨rfl,hb⟩
    obtain⟨h1,Y2,hB⟩:=HZ.out
    replace Y2:=Y2.later hb
    replace hB:=Qj hB hb (by have:=HBS.out;have:=HS1.out;omega)
    clear hb cN r1 r2 HZ
    obtain⟨q1,q2,q3,q4⟩:=Y2.two
    have HZ:=Lib.hid (And.intro h1 (And.intro Y2 hB))
    clear h1 Y2 hB
    go_wp2
    exact bodyPost_ret (v:=.agg #[.bool (neg (-l)),.string (Qh (-l))]) (by simp[results,results127,go_sem,(HZ.out.2.1.set2 _ _).cel]) rfl ⟨by rw[HZ.out.1];rfl,Kq HZ.out.2.2 HBS.out _ _⟩
theorem HW(A:Option Addr)(c:Nat)(w:World):
  Calls prog 127 #[.slice A 0 c] w fun e w'=>e=.returned (.agg #[.bool (neg (1)),.string (Qh (1))])∧Below w.heap.size w w':=by
 have cO:=Lib.hid (fun W=>AX 1 W (by decide) (by decide))
 go_enter func127,ntmps127
 have X2:=Bx.new w 30 #[.bool false,.string ⟨#[]⟩]
 have hB:=b1 w (.cells #[.bool false,.string ⟨#[]⟩] 30)
 go_wp2_with fail
 generalize w.alloc (.cells #[.bool false,.string ⟨#[]⟩] 30)=w0 at *
 refine(cO.out _).mono ?_
 rintro e w1 ⟨rfl,hb⟩
 replace X2:=X2.later hb
 replace hB:=nxt hB hb
 clear hb cO
 have X4:=Bx.new w1 30 #[.bool (neg (1)),.string (Qh (1))]
 replace X2:=X2.alloc (.cells #[.bool (neg (1)),.string (Qh (1))] 30)
 replace hB:=JJ hB (.cells #[.bool (neg (1)),.string (Qh (1))] 30)
 have HX:=Lib.hid (And.intro X2 (And.intro X4 hB))
 clear X2 X4 hB
 go_wp2_with fail
 obtain⟨X2,X4,hB⟩:=HX.out
 clear HX
 generalize w1.alloc (.cells #[.bool (neg (1)),.string (Qh (1))] 30)=w2 at *
 generalize w1.heap.size=g4 at *
 go_loopw [5,15] (fun t i wr=>t=.bool false∧i=.int .i64 0∧wr=w2) (fun _ _ _=>0)
 case atStart=>exact⟨rfl,rfl,rfl⟩
 case round =>
  obtain⟨rfl,rfl,rfl⟩:=hrel
  obtain⟨q1,q2,q3,q4⟩:=X2.two
  obtain⟨r1,r2,_,_⟩:=X4.two
  have HZ:=Lib.hid (And.intro X2 hB)
  clear X2 X4 hB
  go_wp2
  exact bodyPost_ret (v:=.agg #[.bool (neg (1)),.string (Qh (1))]) (by simp[results,results127,go_sem,(HZ.out.1.set2 _ _).cel]) rfl ⟨rfl,Kq HZ.out.2 (L3 _) _ _⟩
theorem Nz(z n:Int): Yj (Q6 z n)≤Yj z+n.toNat / 8+1:=by
 unfold Q6
 split
 ·exact Vj (L3 _)
 ·exact L8 (X9 (Tn z _)) (by omega)
theorem WW{z e:Int}{W:World}(hz:Yj z≤536870912)(he1:-4611686018427387904≤e)(he2:e≤4611686018427387904)(hT:TabAt 0 Lib.deBruijn64tab W):
  Calls prog 96 #[.agg #[.bool (neg z),.string (Qh z)],.int .i64 e] W fun r w'=>r=.returned (.agg #[.bool (neg (dm (dy z e))),.string (Qh (dm (dy z e))),.int .i64 (de (dy z e))])∧Below W.heap.size W w':=by
 have c:=GA (Qh z) (neg z) e W (by rw[QM];exact hz) he1 he2 hT
 rw[QR]at c
 exact c
theorem mD{low:Int}(h:low≤de (xs i j)): dy (zI low xs i j) low=xs i j:=by
 unfold zI Q6
 rw[if_pos (by omega),VE,show low+((de (xs i j)-low).toNat:Int)=de (xs i j)by omega,DR]
theorem CW{n:Nat}: ∀ {xs ys:Nat→Nat→Dyadic},(∀i j,i<n→j<n→xs i j=ys i j)→Xd n xs=Xd n ys:=by
 induction n with
 | zero=>intro _ _ _;rfl
 | succ n ih =>
  intro xs ys h
  have key:∀m,m≤n+1→Ke (fun k=>B6 k (xs 0 k*Xd n (G1 0 k xs))) m=Ke (fun k=>B6 k (ys 0 k*Xd n (G1 0 k ys))) m:=by
   intro m
   induction m with
   | zero=>intro _;rfl
   | succ m ihm =>
    intro hm
    show Ke _ m+B6 m (xs 0 m*Xd n (G1 0 m xs))=Ke _ m+B6 m (ys 0 m*Xd n (G1 0 m ys))
    rw[ihm (by omega),h 0 m (by omega) (by omega),ih (xs:=G1 0 m xs) (ys:=G1 0 m ys) (fun i j hi hj=>by
     unfold G1 EE
     exact h _ _ (by split<;>omega) (by split<;>omega))]
  exact key (n+1) (L3 _)
theorem aM(L T0:Nat)(hLT:L+T0≤1000000)(N:Nat)(hn:N≤4)(A:Option Addr)(c:Nat)(bs:Nat→Nat→Bool)(ss:Nat→Nat→ByteArray)(es:Nat→Nat→Int)(xs:Nat→Nat→Dyadic)(w:World)(hx:∀i j,ND (bs i j) (ss i j) (es i j) (xs i j))(hdb:∀i j,DB L T0 (xs i j))(hr:RdM w A N (fun _=>N) bs ss es)(hT:TabAt 0 Lib.deBruijn64tab w):
  Calls prog 101 #[.slice A N c] w fun r w'=>r=.returned (.tuple #[.agg #[.bool (neg (dm (Xd N xs))),.string (Qh (dm (Xd N xs))),.int .i64 (de (Xd N xs))],.int .i64 0])∧Below w.heap.size w w':=by
 have HR:=Lib.hid hr
 have HX:=Lib.hid hx
 have HDB:=Lib.hid hdb
 have HT:=Lib.hid hT
 have HLT:=Lib.hid hLT
 have cc:=Lib.hid (fun W h=>OW A N c (fun _=>N) W (by omega) h)
 have HSQ:=Lib.hid (show oc N (fun _=>N)from⟨by omega,fun _ _=>rfl⟩)
 clear hr hx hdb hT hLT
 go_enter func101,ntmps101
 have X2:=Bx.new w 32 #[.bool false,.string ⟨#[]⟩,.int .i64 0]
 have hB:=b1 w (.cells #[.bool false,.string ⟨#[]⟩,.int .i64 0] 32)
 go_wp2_with fail
 generalize w.alloc (.cells #[.bool false,.string ⟨#[]⟩,.int .i64 0] 32)=w0 at *
 refine(cc.out _ (HR.out.below hB).len).mono ?_
 rintro e w1 ⟨h1,_,hb⟩
 obtain rfl:=h1 HSQ.out
 replace X2:=X2.later hb
 replace hB:=nxt hB hb
 have HXL:=Lib.hid X2.lt
 clear hb h1 cc
 have cs:=Lib.hid (NN N L T0 HLT.out (by omega) A c bs ss es xs w1 HX.out HDB.out (HR.out.below hB) (Qn HT.out hB))
 have HK:=Lib.hid (And.intro X2 hB)
 clear X2 hB
 go_wp2_with fail
 refine cs.out.mono ?_
 rintro e w2 ⟨⟨v,low,rfl,hl1,hl2,hl3,ho⟩,hb⟩
 obtain⟨X2,hB⟩:=HK.out
 replace X2:=X2.later hb
 have hB2:=nxt hB hb
 clear cs HK
 have HL:=Lib.hid (And.intro hl1 (And.intro hl2 hl3))
 have hlA:-1000000≤low:=by have:=HLT.out;omega
 have HSZ:Hid (∀i j,Yj (zI low xs i j)≤380000):=Lib.hid fun i j=>by
  have h1:=ZZ (HDB.out i j)
  have h2:=Vu (HDB.out i j)
  have h4:=HLT.out
  have h3:=Nz (dm (xs i j)) (de (xs i j)-low)
  rw[QM]at h2
  have h6:(de (xs i j)-low).toNat≤1000000:=by have:=h1.2.1;have:=HL.out.1;omega
  show Yj (Q6 _ _)≤_
  omega
 have cb:Hid (Calls prog 127 #[v] w2 fun e w'=>e=.returned (.agg #[.bool (neg (ZF N (zI low xs))),.string (Qh (ZF N (zI low xs)))])∧Below w1.heap.size w2 w'):=Lib.hid (by
  rcases Ss N with h0|h0
  ·subst h0
   rcases ho with⟨As,cs,h1,_⟩
   obtain⟨A',c',rfl,_⟩:=OwnK.rd (k:=1) (fun _=>rfl) h1
   exact(HW A' c' w2).mono fun e w' ⟨h2,h3⟩=>⟨h2,h3.mono hb.size⟩
  ·obtain⟨g,c',As,cs,rfl,hnc,hT⟩:=ho.tab h0
   exact(M6 w1.heap.size g N c' 380000 As cs (zI low xs) w2 h0 (by omega) (by decide) (by decide) (fun i j _ _=>HSZ.out i j) hb.size hnc hT).mono fun e w' h=>h)
 have HLO:=Lib.hid (show w.heap.size<w1.heap.size∧w1.heap.size≤w2.heap.size from⟨by have h1:=hB.size;have h2:=HXL.out;omega,hb.size⟩)
 have HK:=Lib.hid (And.intro X2 hB2)
 clear X2 hB2 hB hb ho hl1 hl2 hl3
 have hlow0:low≤0:=HL.out.2.1
 go_wp2_with fail
 refine cb.out.mono ?_
 rintro e w3 ⟨rfl,hb⟩
 obtain⟨X2,hB⟩:=HK.out
 replace X2:Bx w3 w.heap.size 32 #[.bool false,.string ⟨#[]⟩,.int .i64 0]:=(hb.block w.heap.size (by have:=HLO.out;omega)).trans X2
 replace hB:=jJ hB hb (by have:=HLO.out;omega)
 clear hb cb HK
 have hdd:DB (L*N) ((T0+8)*N+1) (Xd N xs):=Dk N xs (by omega) HDB.out
 have hval:dy (ZF N (zI low xs)) (low*N)=Xd N xs:=by
  rw[← aS]
  exact CW fun i j hi hj=>mD (HL.out.2.2 i j hi hj)
 have HV:=Lib.hid hval
 have hNi:(N:Int)≤4:=by omega
 have hN0:(0:Int)≤(N:Int):=by omega
 have hmul:low*(N:Int)≤0:=Int.mul_nonpos_of_nonpos_of_nonneg hlow0 hN0
 have hmul2:-4000000≤low*(N:Int):=by
  have h1:(-1000000)*4≤low*(N:Int):=by
   have h2:low*4≤low*(N:Int):=Int.mul_le_mul_of_nonpos_left hlow0 hNi
   omega
  omega
 have hdz:Yj (ZF N (zI low xs))≤536870912:=L8 (Pd N _ HSZ.out) (by
  have h1:380000*N≤380000*4:=Lt _ hn
  have h2:N*N≤4*4:=Nat.mul_le_mul hn hn
  omega)
 have cM:=Lib.hid (fun W h=>WW (e:=low*(N:Int)) (W:=W) hdz (by omega) (by omega) h)
 have HK:=Lib.hid (And.intro X2 hB)
 clear X2 hB hdd hval hdz
 go_wp2_with fail
 refine(cM.out _ (Qn HT.out HK.out.2)).mono ?_
 rintro e w4 ⟨rfl,hb⟩
 rw[HV.out]
 obtain⟨X2,hB⟩:=HK.out
 replace X2:=X2.later hb
 replace hB:=nxt hB hb
 clear hb cM HK
 obtain⟨q1,q2,q3,q4,q5,q6⟩:=X2.three
 have HZ:=Lib.hid (And.intro X2 hB)
 clear X2 hB
 go_wp2
 exact bodyPost_ret (v:=.tuple #[.agg #[.bool (neg (dm (Xd N xs))),.string (Qh (dm (Xd N xs))),.int .i64 (de (Xd N xs))],.int .i64 0]) (by simp[results,results101,go_sem,(HZ.out.1.set3 _ _ _).cel]) rfl ⟨rfl,cx HZ.out.2 (L3 _) _ _ _⟩
