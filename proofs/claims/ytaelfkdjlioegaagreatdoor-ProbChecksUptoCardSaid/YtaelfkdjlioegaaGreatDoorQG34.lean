/- The walks and plain laws beneath the statements. -/
import Derived.Test.YtaelfkdjlioegaaGreatDoorQG33
import Derived.Test.YtaelfkdjlioegaaGreatDoorQG22
namespace Go.Proofs.YtaelfkdjlioegaaGreatDoor
open Tryz
set_option maxHeartbeats 4000000
set_option maxRecDepth 100000
open Go Go.RowKit
theorem aL:(prog.info? 30).map (fun i=>(i.zero,i.size,i.bytes))=some (some (.agg #[.bool false,.string ⟨#[]⟩]),2,24):=by kernel_rfl
theorem SD:(prog.info? 183).map (fun i=>(i.zero,i.size,i.bytes))=some (some (.slice none 0 0),1,24):=by kernel_rfl
theorem Mt(b:Bool)(s:ByteArray)(e:Int)(W:World): (Instr.field 32 (.agg #[.bool b,.string s,.int .i64 e]) 1).run prog W=.ok (.int .i64 e) W:=by kernel_rfl
theorem ao(f:Nat→Int)(j:Nat)(u:Value)(h:u∈VX f j): u.oneCell'=true:=by
 simp[VX]at h
 rcases h with rfl|rfl<;>rfl
theorem I5{b:Bool}{s:ByteArray}{e:Int}{x:Dyadic}(n1:ND b s e x)(W:World)(hT:TabAt 0 Lib.deBruijn64tab W):
  Calls prog 61 #[.agg #[.bool b,.string s,.int .i64 e]] W fun r w'=>r=.returned (.agg #[.bool (neg (dm x)),.string (Qh (dm x)),.int .i64 (de x)])∧Below W.heap.size W w':=by
 have h1:=n1.size
 have h2:=n1.lo
 have h3:=n1.hi
 have c:=Vg s b e W (by omega) (by omega) (by omega) hT
 rw[n1.val]at c
 exact c
def zI(low:Int)(xs:Nat→Nat→Dyadic)(i j:Nat): Int:=Q6 (dm (xs i j)) (de (xs i j)-low)
theorem aU{z n:Int}{W:World}(hz:(Qh z).size≤536870912)(hn:n≤68719476736)(hn2:0≤n)(hT:TabAt 0 Lib.deBruijn64tab W):
  Calls prog 122 #[.agg #[.bool (neg z),.string (Qh z)],.int .i64 n] W fun e w'=>e=.returned (.agg #[.bool (neg (Q6 z n)),.string (Qh (Q6 z n))])∧Below W.heap.size W w':=by
 have c:=Dj (Qh z) (neg z) n W hz hn (by omega) hT
 rw[QR]at c
 exact c
theorem NN(N:Nat)(L T0:Nat)(hLT:L+T0≤1000000)(hn:N≤8)(A:Option Addr)(c:Nat)(bs:Nat→Nat→Bool)(ss:Nat→Nat→ByteArray)(es:Nat→Nat→Int)(xs:Nat→Nat→Dyadic)(w:World)(hx:∀i j,ND (bs i j) (ss i j) (es i j) (xs i j))(hdb:∀i j,DB L T0 (xs i j))(hr:RdM w A N (fun _=>N) bs ss es)(hT:TabAt 0 Lib.deBruijn64tab w):
  Calls prog 126 #[.slice A N c] w fun e w'=>(∃v low,e=.returned (.tuple #[v,.int .i64 (-low)])∧-(L:Int)≤low∧low≤0∧(∀i j,i<N→j<N→low≤de (xs i j))∧OwnTT w' w.heap.size 183 30 2 v N N (fun i=>VX (zI low xs i)))∧Below w.heap.size w w':=by
 have HR:=Lib.hid hr
 have HX:=Lib.hid hx
 have HDB:=Lib.hid hdb
 have HT:=Lib.hid hT
 have HLT:=Lib.hid hLT
 clear hr hx hdb hT hLT
 go_enter func126,ntmps126
 go_wp2_with fail
 go_loopw [4,18] (fun v i wr=>∃(k:Nat) (low:Int),k≤N∧i=.int .i64 (k:Nat)∧v=.int .i64 low∧Hid (-(L:Int)≤low∧low≤0∧∀i j,i<k→j<N→low≤de (xs i j))∧Below w.heap.size w wr) (fun _ i _=>N-(RowKit.intOf i).toNat)
 case atStart=>exact⟨0,0,L9 _,rfl,rfl,Lib.hid ⟨by omega,Ue _,fun i j hi=>absurd hi (by omega)⟩,Below.refl _ _⟩
 case round =>
  obtain⟨k,low,hk,rfl,rfl,HL,hB⟩:=hrel
  by_cases hlt:k<N
  ·have hki:(k:Int)<(N:Int):=by omega
   obtain⟨b,off,rfl,hc⟩:=(HR.out.below hB) (by omega)
   obtain⟨Ai,ci,_,hAi,g1,hi1⟩:=hc k hlt
   obtain⟨bi,offi,rfl,hci⟩:=hi1.num (show 0<N by omega)
   replace g1:wr.cell? ⟨b,off+k,none⟩=some (.slice (some ⟨bi,offi,none⟩) N ci):=g1
   have hkj:(0:Int)≤(k:Int):=by omega
   have HCI:=Lib.hid hci
   clear hc hi1 hci
   have HB:=Lib.hid hB
   clear hB
   go_wp2_with fail
   obtain⟨wo,hwo⟩:∃x,x=wr:=⟨_,rfl⟩
   subst hwo
   go_loopw [4,24] (fun v i wr=>∃(q:Nat) (lo:Int),q≤N∧i=.int .i64 (q:Nat)∧v=.int .i64 lo∧Hid (-(L:Int)≤lo∧lo≤low∧∀j,j<q→lo≤de (xs k j))∧Below wo.heap.size wo wr) (fun _ i _=>N-(RowKit.intOf i).toNat)
   case atStart=>exact⟨0,low,L9 _,rfl,rfl,Lib.hid ⟨HL.out.1,Ue _,fun j hj=>absurd hj (by omega)⟩,Below.refl _ _⟩
   case round =>
    clear g1
    obtain⟨q,lo,hq,rfl,rfl,HL2,hB2⟩:=hrel
    by_cases hlt2:q<N
    ·have hB3:=JJ hB2 (.cells #[.bool (bs k q),.string (ss k q),.int .i64 (es k q)] 32)
     have g2:=L7 hB2 (HCI.out q hlt2).1
     have g3:=L7 hB2 (HCI.out q hlt2).2.1
     have g4:=L7 hB2 (HCI.out q hlt2).2.2
     have hqi:(q:Int)<(N:Int):=by omega
     have hqj:(0:Int)≤(q:Int):=by omega
     obtain⟨p1,p2,p3,_,_,_⟩:=(Bx.new wr 32 #[.bool (bs k q),.string (ss k q),.int .i64 (es k q)]).three
     have cF:=Lib.hid (I5 (HX.out k q) (wr.alloc (.cells #[.bool (bs k q),.string (ss k q),.int .i64 (es k q)] 32)) (Qn HT.out (nxt HB.out hB3)))
     have HB3:=Lib.hid hB3
     clear hB2 hB3
     go_wp2_with fail
     refine cF.out.mono ?_
     rintro e w6 ⟨rfl,hb⟩
     have hB4:=nxt HB3.out hb
     have HB4:=Lib.hid hB4
     clear hb cF p1 p2 p3 hB4 g2 g3 g4
     have hd1:=(ZZ (HDB.out k q)).1
     obtain⟨E,hE⟩:∃E,de (xs k q)=E:=⟨_,rfl⟩
     rw[hE]at hd1 ⊢
     have HE:=Lib.hid (And.intro hE hd1)
     clear hE hd1
     go_wp2_with fail
     rw[Mt]
     simp only[Result.andThen_ok]
     go_wp2
     refine⟨⟨q+1,min lo E,by omega,by go_num,rfl,Lib.hid ⟨by have h1:=HE.out.2;have h2:=HL2.out.1;omega,by have h1:=HL2.out.2.1;omega,fun j hj=>?_⟩,HB4.out⟩,by simp[RowKit.intOf];omega⟩
     by_cases e:j=q
     ·subst e;rw[HE.out.1];omega
     ·have h1:=HL2.out.2.2 j (by omega);omega
    ·obtain rfl:q=N:=by omega
     have hqi:¬(q:Int)<(q:Int):=by omega
     have hB3:=nxt HB.out hB2
     go_wp2
     refine⟨⟨k+1,lo,by omega,by go_num,rfl,Lib.hid ⟨HL2.out.1,Int.le_trans HL2.out.2.1 HL.out.2.1,fun i j hi hj=>?_⟩,hB3⟩,by simp[RowKit.intOf];omega⟩
     by_cases e:i=k
     ·subst e;exact HL2.out.2.2 j hj
     ·exact Int.le_trans HL2.out.2.1 (HL.out.2.2 i j (by omega) hj)
  ·obtain rfl:k=N:=by omega
   have hki:¬(k:Int)<(k:Int):=by omega
   have HB:=Lib.hid hB
   have hon:=OwnTT.nil_ wr w.heap.size 183 30 2 k (fun i=>VX (zI low xs i))
   have hlow0:low≤0:=HL.out.2.1
   have hlowL:-1000000≤low:=by have:=HL.out.1;have:=HLT.out;omega
   clear hB
   go_wp2_with fail
   obtain⟨N,hN⟩:∃N,N=k:=⟨_,rfl⟩
   subst hN
   obtain⟨w1,hw1⟩:∃x,x=wr:=⟨_,rfl⟩
   subst hw1
   clear hki hlt hk
   go_loopw [9,37] (fun v i wr=>∃k:Nat,k≤N∧i=.int .i64 (k:Nat)∧OwnTT wr w.heap.size 183 30 2 v k N (fun i=>VX (zI low xs i))∧Below w.heap.size w wr) (fun _ i _=>N-(RowKit.intOf i).toNat)
   case atStart=>exact⟨0,L9 _,rfl,hon,HB.out⟩
   case round =>
    clear hon
    obtain⟨k,hk,rfl,hown,hB⟩:=hrel
    by_cases hlt:k<N
    ·have hki:(k:Int)<(N:Int):=by omega
     obtain⟨b,off,rfl,hc⟩:=(HR.out.below hB) (by omega)
     obtain⟨Ai,ci,_,hAi,g1,hi1⟩:=hc k hlt
     obtain⟨bi,offi,rfl,hci⟩:=hi1.num (show 0<N by omega)
     replace g1:wr.cell? ⟨b,off+k,none⟩=some (.slice (some ⟨bi,offi,none⟩) N ci):=g1
     have hkj:(0:Int)≤(k:Int):=by omega
     have HCI:=Lib.hid hci
     clear hc hi1 hci
     have HOW:=Lib.hid (And.intro hown hB)
     clear hown hB
     go_wp2_with fail
     obtain⟨wo,hwo⟩:∃x,x=wr:=⟨_,rfl⟩
     subst hwo
     have hol:=OwnK.nil_ wo wo.heap.size 30 2 (VX (zI low xs k))
     go_loopw [12,43] (fun v i wr=>∃q:Nat,q≤N∧i=.int .i64 (q:Nat)∧OwnK wr wo.heap.size 30 2 v q (VX (zI low xs k))∧Below wo.heap.size wo wr) (fun _ i _=>N-(RowKit.intOf i).toNat)
     case atStart=>exact⟨0,L9 _,rfl,hol,Below.refl _ _⟩
     case round =>
      clear g1 hol
      obtain⟨q,hq,rfl,hown,hB2⟩:=hrel
      by_cases hlt2:q<N
      ·have hB3:=JJ hB2 (.cells #[.bool (bs k q),.string (ss k q),.int .i64 (es k q)] 32)
       have g2:=L7 hB2 (HCI.out q hlt2).1
       have g3:=L7 hB2 (HCI.out q hlt2).2.1
       have g4:=L7 hB2 (HCI.out q hlt2).2.2
       have hqi:(q:Int)<(N:Int):=by omega
       have hqj:(0:Int)≤(q:Int):=by omega
       obtain⟨p1,p2,p3,_,_,_⟩:=(Bx.new wr 32 #[.bool (bs k q),.string (ss k q),.int .i64 (es k q)]).three
       have cF:=Lib.hid (I5 (HX.out k q) (wr.alloc (.cells #[.bool (bs k q),.string (ss k q),.int .i64 (es k q)] 32)) (Qn HT.out (nxt HOW.out.2 hB3)))
       replace hown:=hown.below (b1 wr (.cells #[.bool (bs k q),.string (ss k q),.int .i64 (es k q)] 32))
       have HKB:=Lib.hid (And.intro hown hB3)
       clear hB2 hB3 hown
       go_wp2_with fail
       refine cF.out.mono ?_
       rintro e w6 ⟨rfl,hb⟩
       obtain⟨hown,hB⟩:=HKB.out
       replace hown:=hown.below hb
       replace hB:=nxt hB hb
       clear hb cF p1 p2 p3 g2 g3 g4 HKB
       replace hown:=hown.below (b1 w6 (.cells #[.bool (neg (dm (xs k q))),.string (Qh (dm (xs k q))),.int .i64 (de (xs k q))] 32))
       replace hB:=JJ hB (.cells #[.bool (neg (dm (xs k q))),.string (Qh (dm (xs k q))),.int .i64 (de (xs k q))] 32)
       have YX:=Bx.new w6 32 #[.bool (neg (dm (xs k q))),.string (Qh (dm (xs k q))),.int .i64 (de (xs k q))]
       have hd1:=(ZZ (HDB.out k q)).1
       have hd2:=(ZZ (HDB.out k q)).2.1
       have hd3:=HL.out.2.2 k q hlt hlt2
       have hsz:=Vu (HDB.out k q)
       have hlt3:=HLT.out
       have HZ:=Lib.hid (show zI low xs k q=Q6 (dm (xs k q)) (de (xs k q)-low)from rfl)
       obtain⟨E,hE⟩:∃E,de (xs k q)=E:=⟨_,rfl⟩
       obtain⟨Z,hZ⟩:∃Z,dm (xs k q)=Z:=⟨_,rfl⟩
       rw[hE]at hd1 hd2 hd3
       rw[hZ]at hsz
       rw[hE,hZ]at hB hown YX HZ ⊢
       have hr1:-2000000≤E-low:=by omega
       have hr2:E-low≤2000000:=by omega
       have cS:=Lib.hid (fun W h=>aU (z:=Z) (n:=E-low) (W:=W) (by omega) (by omega) (by omega) h)
       clear hE hZ hd1 hd2 hd3 hsz hlt3
       have HKB:=Lib.hid (And.intro hown hB)
       clear hown hB
       go_upto_region 20 with(fail)
       obtain⟨hown,hB⟩:=HKB.out
       generalize w6.alloc (.cells #[.bool (neg Z),.string (Qh Z),.int .i64 E] 32)=w8 at *
       obtain⟨p1,p2,p3,_,_,_⟩:=YX.three
       have HKB:=Lib.hid (And.intro hown hB)
       clear hown hB YX
       go_wp2_with fail
       refine(cS.out _ (Qn HT.out (nxt HOW.out.2 HKB.out.2))).mono ?_
       rintro e w9 ⟨rfl,hb⟩
       obtain⟨hown,hB⟩:=HKB.out
       replace hown:=hown.below hb
       replace hB:=nxt hB hb
       rw[← HZ.out]
       clear hb cS HKB p1 p2 p3 hr1 hr2
       have hO:=hown.below (b1 w9 (.cells #[.bool (neg (zI low xs k q)),.string (Qh (zI low xs k q))] 30))
       have ZR:=Bx.new w9 30 #[.bool (neg (zI low xs k q)),.string (Qh (zI low xs k q))]
       have HN:=Lib.hid (show ∀j,j<1→∀i,i<2→(w9.alloc (.cells #[.bool (neg (zI low xs k q)),.string (Qh (zI low xs k q))] 30)).cell? ⟨w9.heap.size,0+j*2+i,none⟩=((VX (fun j=>zI low xs k (q+j))) j)[i]? from fun j hj i hi=>by
        have hj':j=0:=by omega
        have hi':i=0∨i=1:=by omega
        subst hj'
        rcases hi' with rfl|rfl<;>simp[ZR.cel,VX])
       have HO:=Lib.hid (And.intro hO (JJ hB (.cells #[.bool (neg (zI low xs k q)),.string (Qh (zI low xs k q))] 30)))
       have HS2:=Lib.hid (show wo.heap.size≤(w9.alloc (.cells #[.bool (neg (zI low xs k q)),.string (Qh (zI low xs k q))] 30)).heap.size by have:=hB.size;simp;omega)
       have HM2:=Lib.hid (show q+1≤9223372036854775807∧(q+1)*24≤140737488355328 by omega)
       clear hO ZR hown hB
       go_wp2_with (at_builtin;refine Cb rfl (.tmp 49) (.tmp 57) _ rfl wo.heap.size 30 _ 2 24 Tryz.underlying183 aL rfl (by decide) _ q (VX (zI low xs k)) rfl HO.out.1 ⟨w9.heap.size,0,none⟩ 1 1 (VX (fun j=>zI low xs k (q+j))) (fun _=>rfl) (fun _=>rfl) (ao _) rfl rfl HN.out HM2.out.1 HM2.out.2 HS2.out ?_;intro v' w17 ho' hb5)
       have ho2:=ho'.congr (f':=VX (zI low xs k)) (fun j hj=>by
        split
        ·rfl
        ·rename_i h
         unfold VX
         dsimp only
         rw[show q+(j-q)=j by omega])
       exact⟨⟨q+1,by omega,by go_num,ho2,jJ HO.out.2 hb5 (L3 _)⟩,by simp[RowKit.intOf];omega⟩
      ·obtain rfl:q=N:=by omega
       have hqi:¬(q:Int)<(q:Int):=by omega
       obtain⟨C,d,rfl,_⟩:=OwnK.rd (k:=2) (fun _=>rfl) hown
       have hrow:=hown.below (b1 wr (.cells #[.slice C q d] 183))
       have Z:=(Bx.new wr 183 #[.slice C q d]).cel 0
       have hb6:Below wo.heap.size wo (wr.alloc (.cells #[.slice C q d] 183)):=JJ hB2 (.cells #[.slice C q d] 183)
       have hbs:w.heap.size≤wo.heap.size:=HOW.out.2.size
       have h63:k+1≤9223372036854775807:=by omega
       have hby:(k+1)*24≤140737488355328:=by omega
       have HB6:=Lib.hid (nxt HOW.out.2 hb6)
       have hown0:=HOW.out.1
       clear hown hB2 HOW
       go_wp2_with (at_builtin;refine Ay rfl (.tmp 60) (.tmp 62) _ rfl w.heap.size 183 30 (.slice none 0 0) 2 24 Tryz.underlying158 SD rfl u9 k q (fun i=>VX (zI low xs i)) rfl wo hown0 hb6 ⟨wr.heap.size,0,none⟩ rfl rfl C d Z hrow hbs h63 hby ?_;intro v2 w7 ho2 hb7)
       exact⟨⟨k+1,by omega,by go_num,ho2,jJ HB6.out hb7 (L3 _)⟩,by simp[RowKit.intOf];omega⟩
    ·obtain rfl:k=N:=by omega
     have hki:¬(k:Int)<(k:Int):=by omega
     go_wp2
     go_ret2
     exact⟨⟨_,low,rfl,HL.out.1,HL.out.2.1,fun i j hi hj=>HL.out.2.2 i j hi hj,hown⟩,hB⟩
