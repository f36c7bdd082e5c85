/- The walks and plain laws beneath the statements. -/
import Derived.Test.YtaelfkdjlioegaaGreatDoorQG26
namespace Go.Proofs.YtaelfkdjlioegaaGreatDoor
open Tryz
set_option maxHeartbeats 4000000
set_option maxRecDepth 100000
open Go.RowKit
theorem Du(B v:Nat): Ql B v 0=v % B:=by unfold Ql;rw[Sl,Nat.div_one]
theorem Dr(u:Nat)(h:u≠0): nd 8 (u*256)=nd 8 u+1:=by
 refine FK (k:=8) (by decide) ?_ (fun _=>?_)
 ·rw[Lx]
  exact R9 (Kb (k:=8) (by decide) u) (by decide)
 ·have h1:=CX (k:=8) u h
  have h2:=Y8 (k:=8) h
  rw[show nd 8 u+1-1=(nd 8 u-1)+1 by omega,Lx]
  exact Lo _ h1
theorem Oz(u:Nat)(h:u≠0): YA (u*256)=YA u++[0]:=by
 apply List.ext_getElem
 ·rw[Lg,Xs,Xs,Dr u h];rfl
 ·intro i h1 h2
  rw[Xs,Dr u h]at h1
  by_cases hi:i<nd 8 u
  ·rw[List.getElem_append_left (by rw[Xs];exact hi)]
   simp only[YA,Su,Tg]
   rw[Dr u h]
   have e:=Ga 256 u 1 (nd 8 u-1-i) (by decide)
   rw[Rn,Lh]at e
   rw[show nd 8 u+1-1-i=1+(nd 8 u-1-i)by omega,e]
  ·have hi':i=nd 8 u:=by omega
   subst hi'
   rw[List.getElem_append_right (by rw[Xs];exact L3 _)]
   simp only[YA,Su,Tg]
   rw[Dr u h,show nd 8 u+1-1-nd 8 u=0 by omega,Du]
   simp
theorem SL(u:Nat)(h:u≠0): (Qx (u*256)).extract 0 ((Qx (u*256)).size-1)=Qx u:=by
 rw[Gn,Dr u h,Tf]
 apply ByteArray.ext
 rw[ByteArray.data_extract]
 show(YA (u*256)).toArray.extract 0 (nd 8 u)=(YA u).toArray
 rw[Oz u h]
 have e:=Xs u
 rw[← e]
 simp
theorem EU(v:Nat)(h:v≠0)(hl:(Qx v).size-1<(Qx v).data.toList.length): ((Qx v).data.toList[(Qx v).size-1]'hl).toNat=v % 256:=by
 have h1:0<(YA v).length:=by rw[Xs];exact Y8 h
 have h2:=K9 (YA v) 0 h1
 rw[Ah,Du]at h2
 rw[h2]
 congr 2
theorem NC(s:ByteArray)(b:Bool)(e z0:Int)(D:Dyadic)(S:Nat)(w:World)(hz:z0≠0)(hD:dy z0 e=D)(hS0:Yj z0≤S)(hS:S≤8388608)(he1:-1152921504606846976≤e)(heD:de D≤1152921504606846976)(cF:Hid (∀W:World,Calls prog 83 #[.agg #[.bool b,.string s]] W fun r w'=>r=.returned (.agg #[.bool (neg z0),.string (Qh z0)])∧Below W.heap.size W w'))(cO:Hid (∀W:World,Calls prog 52 #[.int .i64 2] W fun r w'=>r=.returned (.agg #[.bool (neg (2)),.string (Qh (2))])∧Below W.heap.size W w'))(cD0:Hid (∀z,Yj z≤S→z % 2=0→∀W:World,Calls prog 84 #[.agg #[.bool (neg z),.string (Qh z)],.agg #[.bool (neg (2)),.string (Qh (2))]] W fun r w'=>r=.returned (.tuple #[.agg #[.bool (neg (z / 2)),.string (Qh (z / 2))],.agg #[.bool (neg (z % 2)),.string (Qh (z % 2))],.bool true])∧Below W.heap.size W w'))    :
  Calls prog 51 #[.agg #[.bool b,.string s],.int .i64 e] w fun r w'=>r=.returned (.agg #[.bool (neg (dm D)),.string (Qh (dm D)),.int .i64 (de D)])∧Below w.heap.size w w':=by
 have HD:=Lib.hid hD
 have hde:∀z e1,z≠0→dy z e1=D→e1≤de D:=fun z e1 h0 h=>by
  have:=(MT e1 h0).2
  rw[h]at this;omega
 have HDE:=Lib.hid hde
 have hm:(Qh z0).toList.isEmpty=false:=MM hz
 clear hD hde
 go_enter func51,ntmps51
 go_upto_region 1 with(fail)
 have X1:=(Bx.new w 30 #[.bool b,.string s]).alloc (.cells #[.bool false,.string ⟨#[]⟩,.int .i64 0] 32)
 have X2:=Bx.at1 w (.cells #[.bool b,.string s] 30) 32 #[.bool false,.string ⟨#[]⟩,.int .i64 0]
 have hB:=b2 w (.cells #[.bool b,.string s] 30) (.cells #[.bool false,.string ⟨#[]⟩,.int .i64 0] 32)
 generalize (w.alloc (.cells #[.bool b,.string s] 30)).alloc (.cells #[.bool false,.string ⟨#[]⟩,.int .i64 0] 32)=w0 at *
 have hl0:=X1.lt
 have hl1:=X2.lt
 obtain⟨p1,p2,p3,p4⟩:=X1.two
 go_wp2_with fail
 refine(cF.out _).mono ?_
 rintro e w1 ⟨rfl,hb⟩
 replace X1:=X1.later hb
 replace X2:=X2.later hb
 replace hB:=nxt hB hb
 clear hb p1 p2 p3 p4
 obtain⟨p1,p2,p3,p4⟩:=X1.two
 have hne:w.heap.size+1≠w.heap.size:=by omega
 have Y1:=X1.set2 (.bool (neg z0)) (.string (Qh z0))
 have Y2:=Bx.far2 (i:=0) (j:=1) X2 hne (.bool (neg z0)) (.string (Qh z0))
 have hB2:=Kq hB (L3 _) (.bool (neg z0)) (.string (Qh z0))
 obtain⟨q1,q2,q3,q4⟩:=Y1.two
 have HK:=Lib.hid (And.intro Y1 (And.intro Y2 hB2))
 clear X1 X2 Y1 Y2 hB hB2 hne
 go_wp2_with fail
 obtain⟨Y1,Y2,hB⟩:=HK.out
 clear HK p1 p2 p3 p4 q1 q2 q3 q4 hm
 generalize (w1.setCell ⟨w.heap.size,0,none⟩ (.bool (neg z0))).setCell ⟨w.heap.size,1,none⟩ (.string (Qh z0))=w2 at *
 go_loopw [1] (fun ev wr=>∃z e1:Int,z≠0∧ev=.int .i64 e1∧dy z e1=D∧e≤e1∧Yj z≤S∧Bx wr w.heap.size 30 #[.bool (neg z),.string (Qh z)]∧Bx wr (w.heap.size+1) 32 #[.bool false,.string ⟨#[]⟩,.int .i64 0]∧Below w.heap.size w wr) (fun ev _=>(de D-intOf ev).toNat)
 case atStart=>exact⟨z0,e,hz,rfl,HD.out,Ue _,hS0,Y1,Y2,hB⟩
 case round =>
  obtain⟨z,e1,h0,rfl,hD1,hle,hS1,Y1,Y2,hB2⟩:=hrel
  have hb1:=HDE.out z e1 h0 hD1
  have hv0:z.natAbs≠0:=by omega
  have hsz:(Qh z).size=Yj z:=QM z
  have hpos:0<Yj z:=Y8 (k:=8) hv0
  obtain⟨d,hd⟩:∃d:Int,d=((z.natAbs % 256:Nat):Int):=⟨_,rfl⟩
  have hd2:d<256:=by omega
  have hd3:0≤d:=by omega
  have hidx:∀W,(Instr.index 9 (.string (Qh z)) (.int .i64 (((Qh z).size:Int)-1))).run prog W=.ok (.int .u8 d) W:=fun W=>by
   rw[Jg (Qh z) Tryz.underlying9 .i64 _ ((Qh z).size-1) (by omega) (by omega)]
   rw[hd]
   congr 3
   exact EU z.natAbs hv0 _
  have hge:(1:Int)≤((Qh z).size:Int):=by omega
  have hlb:((Qh z).size:Int)≤536870912:=by omega
  clear hsz
  obtain⟨p1,p2,p3,p4⟩:=Y1.two
  by_cases hd0:d=0
  ·obtain⟨z',hz'⟩:∃z',z'=z / 256:=⟨_,rfl⟩
   have ez:z=z'*256:=by omega
   have hz0':z'≠0:=by omega
   have hch:(Qh z).extract 0 ((Qh z).size-1)=Qh z':=by
    have e2:z.natAbs=z'.natAbs*256:=by omega
    unfold Qh
    rw[e2]
    exact SL _ (by omega)
   have hn:neg z=neg z':=by unfold neg;congr 1;apply propext;omega
   have hD2:dy z' (e1+8)=D:=by
    rw[← hD1,ez]
    have:=VE z' e1 8
    exact this.symm
   have hS2:Yj z'≤S:=L8 (X9 (by omega)) hS1
   have hb2:=HDE.out z' (e1+8) hz0' hD2
   have HK:=Lib.hid (And.intro hD2 (And.intro hS2 (And.intro hn (And.intro Y1 (And.intro Y2 (And.intro hB2 (And.intro hz0' (And.intro hch (And.intro hle (And.intro hb1 hb2))))))))))
   clear ez hz0' hn hD2 hS2 Y1 Y2 hB2 hD1 hz' hS1 hd hch hb2
   go_wp2
   obtain⟨hD2,hS2,hn,Y1,Y2,hB2,hz0',hch,hle,hb1,hb2⟩:=HK.out
   rw[hch]
   refine⟨⟨z',e1+8,hz0',rfl,hD2,by omega,hS2,?_,Y2.far (p:=⟨w.heap.size,1,none⟩) (by simp) _,hB2.setCell (L3 _) _⟩,by simp only[intOf];omega⟩
   have:=Y1.set 1 (.string (Qh z'))
   rw[← hn];exact this
  ·have HK:=Lib.hid (And.intro Y1 (And.intro Y2 (And.intro hB2 (And.intro hD1 (And.intro hle (And.intro hS1 (And.intro h0 hb1)))))))
   clear Y1 Y2 hB2 hD1 hle hS1 h0 hb1 hd hv0 hpos
   go_wp2_with fail
   go_loopw [1] (fun ev wr=>∃z e1:Int,z≠0∧ev=.int .i64 e1∧dy z e1=D∧e≤e1∧Yj z≤S∧Bx wr w.heap.size 30 #[.bool (neg z),.string (Qh z)]∧Bx wr (w.heap.size+1) 32 #[.bool false,.string ⟨#[]⟩,.int .i64 0]∧Below w.heap.size w wr) (fun ev _=>(de D-intOf ev).toNat)
   case atStart =>
    obtain⟨Y1,Y2,hB2,hD1,hle,hS1,h0,hb1⟩:=HK.out
    exact⟨z,e1,h0,rfl,hD1,hle,hS1,Y1,Y2,hB2⟩
   case round =>
    clear HK
    obtain⟨z,e1,h0,rfl,hD1,hle,hS1,Y1,Y2,hB2⟩:=hrel
    have hb1:=HDE.out z e1 h0 hD1
    have hv0:z.natAbs≠0:=by omega
    have hsz:(Qh z).size=Yj z:=QM z
    have hpos:0<Yj z:=Y8 (k:=8) hv0
    obtain⟨d,hd⟩:∃d:Int,d=((z.natAbs % 256:Nat):Int):=⟨_,rfl⟩
    have hd2:d<256:=by omega
    have hd3:0≤d:=by omega
    have hidx:∀W,(Instr.index 9 (.string (Qh z)) (.int .i64 (((Qh z).size:Int)-1))).run prog W=.ok (.int .u8 d) W:=fun W=>by
     rw[Jg (Qh z) Tryz.underlying9 .i64 _ ((Qh z).size-1) (by omega) (by omega)]
     rw[hd]
     congr 3
     exact EU z.natAbs hv0 _
    have hge:(1:Int)≤((Qh z).size:Int):=by omega
    have hlb:((Qh z).size:Int)≤536870912:=by omega
    clear hsz
    obtain⟨p1,p2,p3,p4⟩:=Y1.two
    by_cases hd1:d % 2=0
    ·have cD:=Lib.hid (cD0.out z hS1 (by omega))
     obtain⟨z2,hz2⟩:∃z2,z2=z / 2:=⟨_,rfl⟩
     obtain⟨r2,hr2⟩:∃r2,r2=z % 2:=⟨_,rfl⟩
     rw[← hz2,← hr2]at cD
     have ez:z=z2*2:=by omega
     have hz0':z2≠0:=by omega
     have hD2:dy z2 (e1+1)=D:=by
      rw[← hD1,ez]
      have:=VE z2 e1 1
      exact this.symm
     have hS2:Yj z2≤S:=L8 (X9 (by omega)) hS1
     have hb2:=HDE.out z2 (e1+1) hz0' hD2
     have HL:=Lib.hid (And.intro hD2 (And.intro hS2 (And.intro Y1 (And.intro Y2 (And.intro hB2 (And.intro hz0' (And.intro hle (And.intro hb1 hb2))))))))
     clear ez hz0' hD2 hS2 Y1 Y2 hB2 hD1 hS1 hd hz2 hr2 hv0 hpos
     go_wp2_with fail
     obtain⟨hD2,hS2,Y1,Y2,hB2,hz0',hle,hb1,hb2⟩:=HL.out
     refine Vl [39,40,41,38,42,43,44] [.eq (.agg #[.bool (neg z),.string (Qh z)]),.eq (.agg #[.bool (neg (2)),.string (Qh (2))]),.eq (.tuple #[.agg #[.bool (neg z2),.string (Qh z2)],.agg #[.bool (neg r2),.string (Qh r2)],.bool true]),.eq (.tuple #[.agg #[.bool (neg z2),.string (Qh z2)],.agg #[.bool (neg r2),.string (Qh r2)],.bool true]),.eq (.agg #[.bool (neg z2),.string (Qh z2)]),.eq (.agg #[.bool (neg r2),.string (Qh r2)]),.eq (.bool true)] [5,6] 50 (by kernel_rfl) (by exact fun _ _ _ _ _ h=>h) (by kernel_rfl) (by rfl) ?hop ?hlate ?htail
     case hop =>
      intro A hA
      have hN:A.tmps.size=50:=by rw[hA];rfl
      have q2:A.tmps.getD 2 undef=.pointer (some ⟨w.heap.size,0,none⟩):=by rw[hA];rfl
      clear hA
      refine⟨?_,?_,?_,?_,?_,?_,?_,trivial⟩
      ·refine YT hN fun u W ev ec ef E B hG hf=>?_
       exact QV _ rfl rfl hG (by simp[go_sem,B 2 rfl rfl q2,(Y1.later hG).cel]) rfl
      ·refine YT hN fun u W ev ec ef E B hG hf=>?_
       exact EL rfl rfl (by simp[go_sem,ec,ef]) (cO.out W) hG (fun _ _=>rfl)
      ·refine YT hN fun u W ev ec ef E B hG hf=>?_
       exact EL rfl rfl (by simp[go_sem,ef,E 39 0 rfl rfl (hf 0 rfl),E 40 1 rfl rfl (hf 1 rfl)]) (cD.out W) hG (fun _ _=>rfl)
      ·refine YT hN fun u W ev ec ef E B hG hf=>?_
       exact QV _ rfl rfl hG (by simp[go_sem,E 41 2 rfl rfl (hf 2 rfl)]) rfl
      ·refine YT hN fun u W ev ec ef E B hG hf=>?_
       exact QV _ rfl rfl hG (by simp[go_sem,E 38 3 rfl rfl (hf 3 rfl)]) rfl
      ·refine YT hN fun u W ev ec ef E B hG hf=>?_
       exact QV _ rfl rfl hG (by simp[go_sem,E 38 3 rfl rfl (hf 3 rfl)]) rfl
      ·refine YT hN fun u W ev ec ef E B hG hf=>?_
       exact QV _ rfl rfl hG (by simp[go_sem,E 38 3 rfl rfl (hf 3 rfl)]) rfl
     case hlate =>
      intro A hA
      have hN:A.tmps.size=50:=by rw[hA];rfl
      clear hA
      refine⟨trivial,trivial,trivial,trivial,trivial,⟨rfl,?_⟩,⟨rfl,?_⟩,trivial⟩
      ·intro u W hf
       have e38:=Kd (a:=A) (ds:=[39,40,41,38,42,43,44]) (u:=u) (k:=38) (i:=3) (by rw[hN];decide) rfl (hf 3 (by decide))
       generalize (Gl A [39,40,41,38,42,43,44] u).eval=ev at *
       exact⟨_,rfl,fun w=>(by simp[go_sem,e38]),rfl⟩
      ·intro u W hf
       have e38:=Kd (a:=A) (ds:=[39,40,41,38,42,43,44]) (u:=u) (k:=38) (i:=3) (by rw[hN];decide) rfl (hf 3 (by decide))
       generalize (Gl A [39,40,41,38,42,43,44] u).eval=ev at *
       exact⟨_,rfl,fun w=>(by simp[go_sem,e38]),rfl⟩
     case htail =>
      intro u w' hG hP hD
      have f42:u 4=.agg #[.bool (neg z2),.string (Qh z2)]:=hP 4 (by decide)
      simp only[Z5,Act.put,Rp,Ti,Tj,Rb,Rs,Nat.reduceAdd,Td,Te,f42]
      replace Y1:=Y1.later hG
      replace Y2:=Y2.later hG
      replace hB2:=nxt hB2 hG
      obtain⟨q1,q2,q3,q4⟩:=Y1.two
      have HM:=Lib.hid (And.intro Y1 (And.intro Y2 hB2))
      clear hP hD hG f42 Y1 Y2 hB2
      go_wp2
      obtain⟨Y1,Y2,hB2⟩:=HM.out
      exact⟨⟨z2,e1+1,hz0',rfl,hD2,by omega,hS2,Y1.set2 _ _,Bx.far2 Y2 (by simp) _ _,Kq hB2 (L3 _) _ _⟩,by simp only[intOf];omega⟩
    ·have hodd:z % 2=1:=by omega
     have hfin:=BU e1 hodd
     rw[hD1]at hfin
     have HF:=Lib.hid hfin
     obtain⟨q1,q2,q5,q3,q4,q6⟩:=Y2.three
     have HY:=Lib.hid (And.intro Y2 hB2)
     clear hd hodd hfin Y2 hB2 hD1 hv0 hpos hS1 h0 Y1
     go_wp2_with fail
     obtain⟨Y2,hB2⟩:=HY.out
     rw[HF.out.1,HF.out.2]
     exact bodyPost_ret (v:=.agg #[.bool (neg z),.string (Qh z),.int .i64 e1]) (by simp[results,results51,go_sem,(Y2.set3 _ _ _).cel]) rfl ⟨rfl,cx hB2 (Lf _ 1) _ _ _⟩
theorem NU(s:ByteArray)(b:Bool)(e:Int)(w:World)(cF:Hid (∀W:World,Calls prog 83 #[.agg #[.bool b,.string s]] W fun r w'=>r=.returned (.agg #[.bool false,.string ⟨#[]⟩])∧Below W.heap.size W w'))
  :
  Calls prog 51 #[.agg #[.bool b,.string s],.int .i64 e] w fun r w'=>r=.returned (.agg #[.bool false,.string ⟨#[]⟩,.int .i64 0])∧Below w.heap.size w w':=by
 go_enter func51,ntmps51
 go_upto_region 1 with(fail)
 have X1:=(Bx.new w 30 #[.bool b,.string s]).alloc (.cells #[.bool false,.string ⟨#[]⟩,.int .i64 0] 32)
 have X2:=Bx.at1 w (.cells #[.bool b,.string s] 30) 32 #[.bool false,.string ⟨#[]⟩,.int .i64 0]
 have hB:=b2 w (.cells #[.bool b,.string s] 30) (.cells #[.bool false,.string ⟨#[]⟩,.int .i64 0] 32)
 generalize (w.alloc (.cells #[.bool b,.string s] 30)).alloc (.cells #[.bool false,.string ⟨#[]⟩,.int .i64 0] 32)=w0 at *
 have hl0:=X1.lt
 have hl1:=X2.lt
 obtain⟨p1,p2,p3,p4⟩:=X1.two
 obtain⟨q1,q2,q5,q3,q4,q6⟩:=X2.three
 go_wp2_with fail
 refine(cF.out _).mono ?_
 rintro e w1 ⟨rfl,hb⟩
 replace X1:=X1.later hb
 replace X2:=X2.later hb
 replace hB:=nxt hB hb
 clear hb p1 p2 p3 p4 q1 q2 q5 q3 q4 q6
 obtain⟨p1,p2,p3,p4⟩:=X1.two
 have hne:w.heap.size+1≠w.heap.size:=by omega
 have Y1:=X1.set2 (.bool false) (.string ⟨#[]⟩)
 have Y2:=Bx.far2 (i:=0) (j:=1) X2 hne (.bool false) (.string ⟨#[]⟩)
 have HB:=Lib.hid (And.intro Y2 (Kq hB (L3 _) (.bool false) (.string ⟨#[]⟩)))
 obtain⟨r1,r2,r3,r4⟩:=Y1.two
 obtain⟨q1,q2,q5,q3,q4,q6⟩:=Y2.three
 clear X1 X2 Y1 Y2 hB hne
 go_wp2_with fail
 obtain⟨Y2,hB⟩:=HB.out
 exact bodyPost_ret (v:=.agg #[.bool false,.string ⟨#[]⟩,.int .i64 0]) (by simp[results,results51,go_sem,(Y2.set3 _ _ _).cel]) rfl ⟨rfl,cx hB (Lf _ 1) _ _ _⟩
theorem KU(s:ByteArray)(b:Bool)(e:Int)(w:World)(hs:s.size≤8388608)(he1:-1073741824≤e)(he2:e≤4611686018427387 ):
  Calls prog 51 #[.agg #[.bool b,.string s],.int .i64 e] w fun r w'=>r=.returned (.agg #[.bool (neg (dm (dy (Qb b (Qa s)) e))),.string (Qh (dm (dy (Qb b (Qa s)) e))),.int .i64 (de (dy (Qb b (Qa s)) e))])∧Below w.heap.size w w':=by
 have cF:=Lib.hid (fun W=>YI s b W (by omega))
 have hb:=XJ b s
 by_cases hz:Qb b (Qa s)=0
 ·rw[hz,Zu]
  rw[hz]at cF
  exact NU s b e w cF
 ·have heD:=(MT e hz).2
  have ht:=IR (s:=s) (fun h0=>hz (by rw[h0,J1]))
  rw[Q0]at heD
  refine NC s b e _ _ s.size w hz rfl hb hs (by omega) (by omega) cF (Lib.hid fun W=>Bd 2 W (by decide) (by decide)) (Lib.hid fun z hzS h2 W=>?_)
  exact OZ z W (by rw[QM];omega) h2
theorem af(s:ByteArray)(b:Bool)(e:Int)(x:Dyadic)(w:World)(cM:Hid (∀W:World,Calls prog 51 #[.agg #[.bool b,.string s],.int .i64 e] W fun r w'=>r=.returned (.agg #[.bool (neg (dm x)),.string (Qh (dm x)),.int .i64 (de x)])∧Below W.heap.size W w'))
  :
  Calls prog 72 #[.agg #[.bool b,.string s,.int .i64 e]] w fun r w'=>r=.returned (.agg #[.bool (neg (dm x)),.string (Qh (dm x)),.int .i64 (de x)])∧Below w.heap.size w w':=by
 go_enter func72,ntmps72
 go_upto_region 1 with(fail)
 have X1:=(Bx.new w 32 #[.bool b,.string s,.int .i64 e]).alloc (.cells #[.bool false,.string ⟨#[]⟩,.int .i64 0] 32)
 have X2:=Bx.at1 w (.cells #[.bool b,.string s,.int .i64 e] 32) 32 #[.bool false,.string ⟨#[]⟩,.int .i64 0]
 have hB:=b2 w (.cells #[.bool b,.string s,.int .i64 e] 32) (.cells #[.bool false,.string ⟨#[]⟩,.int .i64 0] 32)
 generalize (w.alloc (.cells #[.bool b,.string s,.int .i64 e] 32)).alloc (.cells #[.bool false,.string ⟨#[]⟩,.int .i64 0] 32)=w0 at *
 have hl0:=X1.lt
 have hl1:=X2.lt
 obtain⟨p1,p2,p5,p3,p4,p6⟩:=X1.three
 obtain⟨q1,q2,q5,q3,q4,q6⟩:=X2.three
 go_wp2_with fail
 refine(cM.out _).mono ?_
 rintro e w1 ⟨rfl,hb⟩
 replace X1:=X1.later hb
 replace X2:=X2.later hb
 replace hB:=nxt hB hb
 clear hb
 clear p1 p2 p3 p4 p5 p6 q1 q2 q3 q4 q5 q6
 obtain⟨p1,p2,p5,p3,p4,p6⟩:=X1.three
 obtain⟨q1,q2,q5,q3,q4,q6⟩:=X2.three
 go_wp2_with fail
 exact bodyPost_ret (v:=.agg #[.bool (neg (dm x)),.string (Qh (dm x)),.int .i64 (de x)]) (by simp[results,results72,go_sem,(X2.set3 _ _ _).cel]) rfl ⟨rfl,cx hB (Lf _ 1) _ _ _⟩
theorem G6(s:ByteArray)(b:Bool)(e:Int)(w:World)(hs:s.size≤8388608)(he1:-1073741824≤e)(he2:e≤4611686018427387):
  Calls prog 72 #[.agg #[.bool b,.string s,.int .i64 e]] w fun r w'=>r=.returned (.agg #[.bool (neg (dm (dy (Qb b (Qa s)) e))),.string (Qh (dm (dy (Qb b (Qa s)) e))),.int .i64 (de (dy (Qb b (Qa s)) e))])∧Below w.heap.size w w':=by
 exact af s b e _ w (Lib.hid fun W=>KU s b e W hs he1 he2)
theorem Zg(s:ByteArray)(b:Bool)(e:Int)(w:World)(hs:s.size≤8388608):
  Calls prog 73 #[.agg #[.bool b,.string s,.int .i64 e]] w fun r w'=>r=.returned (.int .i64 (Zs (dy (Qb b (Qa s)) e)))∧Below w.heap.size w w':=by
 rw[DC]
 have cG:=Lib.hid (fun W=>Df s b W (by omega))
 generalize ZB (Qb b (Qa s))=g at *
 go_enter func73,ntmps73
 go_upto_region 1 with(fail)
 have X1:=Bx.new w 32 #[.bool b,.string s,.int .i64 e]
 have hB:=b1 w (.cells #[.bool b,.string s,.int .i64 e] 32)
 generalize w.alloc (.cells #[.bool b,.string s,.int .i64 e] 32)=w0 at *
 have hl0:=X1.lt
 obtain⟨p1,p2,p5,p3,p4,p6⟩:=X1.three
 go_wp2_with fail
 refine(cG.out _).mono ?_
 rintro e w1 ⟨rfl,hb⟩
 replace X1:=X1.later hb
 replace hB:=nxt hB hb
 clear hb
 clear p1 p2 p3 p4 p5 p6
 obtain⟨p1,p2,p5,p3,p4,p6⟩:=X1.three
 go_wp2
 go_ret
 exact⟨rfl,hB⟩
theorem jL(n:Int)(x:Dyadic)(w:World)(cO:Hid (∀W:World,Calls prog 52 #[.int .i64 n] W fun r w'=>r=.returned (.agg #[.bool (neg n),.string (Qh n)])∧Below W.heap.size W w'))(cM:Hid (∀W:World,Calls prog 51 #[.agg #[.bool (neg n),.string (Qh n)],.int .i64 0] W fun r w'=>r=.returned (.agg #[.bool (neg (dm x)),.string (Qh (dm x)),.int .i64 (de x)])∧Below W.heap.size W w'))
  :
  Calls prog 82 #[.int .i64 n] w fun r w'=>r=.returned (.agg #[.bool (neg (dm x)),.string (Qh (dm x)),.int .i64 (de x)])∧Below w.heap.size w w':=by
 go_enter func82,ntmps82
 go_upto_region 1 with(fail)
 have X1:=Bx.new w 32 #[.bool false,.string ⟨#[]⟩,.int .i64 0]
 have hB:=b1 w (.cells #[.bool false,.string ⟨#[]⟩,.int .i64 0] 32)
 generalize w.alloc (.cells #[.bool false,.string ⟨#[]⟩,.int .i64 0] 32)=w0 at *
 have hl0:=X1.lt
 obtain⟨p1,p2,p5,p3,p4,p6⟩:=X1.three
 go_wp2_with fail
 refine(cO.out _).mono ?_
 rintro e w1 ⟨rfl,hb⟩
 replace X1:=X1.later hb
 replace hB:=nxt hB hb
 clear hb
 clear p1 p2 p3 p4 p5 p6
 obtain⟨p1,p2,p5,p3,p4,p6⟩:=X1.three
 go_wp2_with fail
 refine(cM.out _).mono ?_
 rintro e w2 ⟨rfl,hb⟩
 replace X1:=X1.later hb
 replace hB:=nxt hB hb
 clear hb
 clear p1 p2 p3 p4 p5 p6
 obtain⟨p1,p2,p5,p3,p4,p6⟩:=X1.three
 go_wp2_with fail
 exact bodyPost_ret (v:=.agg #[.bool (neg (dm x)),.string (Qh (dm x)),.int .i64 (de x)]) (by simp[results,results82,go_sem,(X1.set3 _ _ _).cel]) rfl ⟨rfl,cx hB (L3 _) _ _ _⟩
theorem Wv(n:Int)(w:World)(h1:-9223372036854775808≤n)(h2:n≤9223372036854775807):
  Calls prog 82 #[.int .i64 n] w fun r w'=>r=.returned (.agg #[.bool (neg (dm (dy n 0))),.string (Qh (dm (dy n 0))),.int .i64 (de (dy n 0))])∧Below w.heap.size w w':=by
 have c:=Lib.hid (fun W=>KU (Qh n) (neg n) 0 W (by rw[QM];exact L8 (UQ h1 h2) (by decide)) (by decide) (by decide))
 rw[QR]at c
 exact jL n _ w (Lib.hid fun W=>Bd n W h1 h2) c
theorem fZ(s:ByteArray)(b:Bool)(e m:Int)(x:Dyadic)(w:World)(cN:Hid (∀W:World,Calls prog 161 #[.agg #[.bool b,.string s]] W fun r w'=>r=.returned (.agg #[.bool (neg m),.string (Qh m)])∧Below W.heap.size W w'))(cM:Hid (∀W:World,Calls prog 51 #[.agg #[.bool (neg m),.string (Qh m)],.int .i64 e] W fun r w'=>r=.returned (.agg #[.bool (neg (dm x)),.string (Qh (dm x)),.int .i64 (de x)])∧Below W.heap.size W w'))
  :
  Calls prog 135 #[.agg #[.bool b,.string s,.int .i64 e]] w fun r w'=>r=.returned (.agg #[.bool (neg (dm x)),.string (Qh (dm x)),.int .i64 (de x)])∧Below w.heap.size w w' :=
 RetAt.at<|Qi Qk mixed (fun a w=>call135 a w) func135 ntmps135 results135 _ rfl _ [.reg 6 [],.o 1 2 (.ret (.agg [bV (neg m),sV (Qh m)])),.o 1 5 (.ret (.val (vN x)))] (fun W hW hR=>ZG (rc W call161 fun W=>cN.out W) (rc W call51 fun W=>cM.out W)<|hR) fun W=>by kernel_rfl
theorem E5(s:ByteArray)(b:Bool)(e:Int)(w:World)(hs:s.size≤8388608)(he1:-1073741824≤e)(he2:e≤4611686018427387):
  Calls prog 135 #[.agg #[.bool b,.string s,.int .i64 e]] w fun r w'=>r=.returned (.agg #[.bool (neg (dm (-dy (Qb b (Qa s)) e))),.string (Qh (dm (-dy (Qb b (Qa s)) e))),.int .i64 (de (-dy (Qb b (Qa s)) e))])∧Below w.heap.size w w':=by
 rw[IA]
 have c:=Lib.hid (fun W=>KU (Qh (-Qb b (Qa s))) (neg (-Qb b (Qa s))) e W (by rw[QM,D6];exact L8 (XJ b s) hs) he1 he2)
 rw[QR]at c
 exact fZ s b e _ _ w (Lib.hid fun W=>UD s b W (by omega)) c
theorem SZ(s t:ByteArray)(b c:Bool)(e f m g:Int)(x:Dyadic)(w:World)(hw:IntKind.i64.wrap (e+f)=g)(cN:Hid (∀W:World,Calls prog 162 #[.agg #[.bool b,.string s],.agg #[.bool c,.string t]] W fun r w'=>r=.returned (.agg #[.bool (neg m),.string (Qh m)])∧Below W.heap.size W w'))(cM:Hid (∀W:World,Calls prog 51 #[.agg #[.bool (neg m),.string (Qh m)],.int .i64 g] W fun r w'=>r=.returned (.agg #[.bool (neg (dm x)),.string (Qh (dm x)),.int .i64 (de x)])∧Below W.heap.size W w'))
  :
  Calls prog 136 #[.agg #[.bool b,.string s,.int .i64 e],.agg #[.bool c,.string t,.int .i64 f]] w fun r w'=>r=.returned (.agg #[.bool (neg (dm x)),.string (Qh (dm x)),.int .i64 (de x)])∧Below w.heap.size w w' :=
 RetAt.at<|Qi Qk mixed (fun a w=>call136 a w) func136 ntmps136 results136 _ rfl _ [.reg 11 [],.o 1 4 (.ret (.agg [bV (neg m),sV (Qh m)])),.o 1 9 (.eq (iV g)),.o 1 10 (.ret (.val (vN x)))] (fun W hW hR=>Kr (rc W call162 fun W=>cN.out W) hw (rc W call51 fun W=>cM.out W)<|hR) fun W=>by kernel_rfl
theorem MB{b c:Bool}{s t:ByteArray}{e f:Int}{x y:Dyadic}(w:World)(n1:ND b s e x)(n2:ND c t f y)(hlo:-1073741824≤e+f):
  Calls prog 136 #[.agg #[.bool b,.string s,.int .i64 e],.agg #[.bool c,.string t,.int .i64 f]] w fun r w'=>r=.returned (.agg #[.bool (neg (dm (x*y))),.string (Qh (dm (x*y))),.int .i64 (de (x*y))])∧Below w.heap.size w w':=by
 have a1:=n1.size
 have a2:=n2.size
 have a3:=n1.hi
 have a4:=n2.hi
 have hm:Yj (Qb b (Qa s)*Qb c (Qa t))≤2097152:=L8 (Yy (XJ b s) (XJ c t)) (by omega)
 have cc:=Lib.hid (fun W=>KU (Qh (Qb b (Qa s)*Qb c (Qa t))) (neg (Qb b (Qa s)*Qb c (Qa t))) (e+f) W (by rw[QM];omega) hlo (by omega))
 rw[QR,← N0,n1.val,n2.val]at cc
 exact SZ s t _ _ e f _ _ _ w (Ln _ (by omega)) (Lib.hid fun W=>Oa s t _ _ W (by omega) (by omega)) cc
theorem SR(s t:ByteArray)(b c:Bool)(e f:Int)(x y:Dyadic)(sx:Int)(hsx:sx=0)(w:World)(cF:Hid (∀W:World,Calls prog 72 #[.agg #[.bool b,.string s,.int .i64 e]] W fun r w'=>r=.returned (.agg #[.bool (neg (dm x)),.string (Qh (dm x)),.int .i64 (de x)])∧Below W.heap.size W w'))(cG:Hid (∀W:World,Calls prog 72 #[.agg #[.bool c,.string t,.int .i64 f]] W fun r w'=>r=.returned (.agg #[.bool (neg (dm y)),.string (Qh (dm y)),.int .i64 (de y)])∧Below W.heap.size W w'))(cS:Hid (∀W:World,Calls prog 73 #[.agg #[.bool (neg (dm x)),.string (Qh (dm x)),.int .i64 (de x)]] W fun r w'=>r=.returned (.int .i64 sx)∧Below W.heap.size W w'))
  :
  Calls prog 134 #[.agg #[.bool b,.string s,.int .i64 e],.agg #[.bool c,.string t,.int .i64 f]] w fun r w'=>r=.returned (.agg #[.bool (neg (dm y)),.string (Qh (dm y)),.int .i64 (de y)])∧Below w.heap.size w w' :=
 RetAt.at<|Qi Qk mixed (fun a w=>call134 a w) func134 ntmps134 results134 _ rfl _ [.reg 4 [],.o 1 1 (.ret (.val (vN x))),.o 1 3 (.ret (.val (vN y))),.o 2 1 (.ret (iV sx)),.br true] (fun W hW hR=>Jj (rc W call72 fun W=>cF.out W) (rc W call72 fun W=>cG.out W) (rc W call73 fun W=>cS.out W) (ma hsx)<|hR) fun W=>by kernel_rfl
theorem Wd(s t:ByteArray)(b c:Bool)(e f:Int)(x y:Dyadic)(sx sy:Int)(hsx:¬ sx=0)(hsy:sy=0)(w:World)(cF:Hid (∀W:World,Calls prog 72 #[.agg #[.bool b,.string s,.int .i64 e]] W fun r w'=>r=.returned (.agg #[.bool (neg (dm x)),.string (Qh (dm x)),.int .i64 (de x)])∧Below W.heap.size W w'))(cG:Hid (∀W:World,Calls prog 72 #[.agg #[.bool c,.string t,.int .i64 f]] W fun r w'=>r=.returned (.agg #[.bool (neg (dm y)),.string (Qh (dm y)),.int .i64 (de y)])∧Below W.heap.size W w'))(cS:Hid (∀W:World,Calls prog 73 #[.agg #[.bool (neg (dm x)),.string (Qh (dm x)),.int .i64 (de x)]] W fun r w'=>r=.returned (.int .i64 sx)∧Below W.heap.size W w'))(cT:Hid (∀W:World,Calls prog 73 #[.agg #[.bool (neg (dm y)),.string (Qh (dm y)),.int .i64 (de y)]] W fun r w'=>r=.returned (.int .i64 sy)∧Below W.heap.size W w'))
  :
  Calls prog 134 #[.agg #[.bool b,.string s,.int .i64 e],.agg #[.bool c,.string t,.int .i64 f]] w fun r w'=>r=.returned (.agg #[.bool (neg (dm x)),.string (Qh (dm x)),.int .i64 (de x)])∧Below w.heap.size w w' :=
 RetAt.at<|Qi Qk mixed (fun a w=>call134 a w) func134 ntmps134 results134 _ rfl _ [.reg 4 [],.o 1 1 (.ret (.val (vN x))),.o 1 3 (.ret (.val (vN y))),.o 2 1 (.ret (iV sx)),.br false,.o 4 1 (.ret (iV sy)),.br true] (fun W hW hR=>KW (rc W call72 fun W=>cF.out W) (rc W call72 fun W=>cG.out W) (rc W call73 fun W=>cS.out W) (ay hsx) (rc W call73 fun W=>cT.out W) (ma hsy)<|hR) fun W=>by kernel_rfl
theorem We(s t:ByteArray)(b c:Bool)(e f:Int)(x y:Dyadic)(sx sy d m q:Int)(z:Dyadic)(hsx:¬ sx=0)(hsy:¬ sy=0)(hge:¬ de x<de y)(hw:IntKind.i64.wrap (de x-de y)=d)(w:World)(cF:Hid (∀W:World,Calls prog 72 #[.agg #[.bool b,.string s,.int .i64 e]] W fun r w'=>r=.returned (.agg #[.bool (neg (dm x)),.string (Qh (dm x)),.int .i64 (de x)])∧Below W.heap.size W w'))(cG:Hid (∀W:World,Calls prog 72 #[.agg #[.bool c,.string t,.int .i64 f]] W fun r w'=>r=.returned (.agg #[.bool (neg (dm y)),.string (Qh (dm y)),.int .i64 (de y)])∧Below W.heap.size W w'))(cS:Hid (∀W:World,Calls prog 73 #[.agg #[.bool (neg (dm x)),.string (Qh (dm x)),.int .i64 (de x)]] W fun r w'=>r=.returned (.int .i64 sx)∧Below W.heap.size W w'))(cT:Hid (∀W:World,Calls prog 73 #[.agg #[.bool (neg (dm y)),.string (Qh (dm y)),.int .i64 (de y)]] W fun r w'=>r=.returned (.int .i64 sy)∧Below W.heap.size W w'))(cH:Hid (∀W:World,Calls prog 160 #[.agg #[.bool (neg (dm x)),.string (Qh (dm x))],.int .i64 d] W fun r w'=>r=.returned (.agg #[.bool (neg m),.string (Qh m)])∧Below W.heap.size W w'))(cP:Hid (∀W:World,Calls prog 116 #[.agg #[.bool (neg m),.string (Qh m)],.agg #[.bool (neg (dm y)),.string (Qh (dm y))]] W fun r w'=>r=.returned (.agg #[.bool (neg q),.string (Qh q)])∧Below W.heap.size W w'))(cM:Hid (∀W:World,Calls prog 51 #[.agg #[.bool (neg q),.string (Qh q)],.int .i64 (de y)] W fun r w'=>r=.returned (.agg #[.bool (neg (dm z)),.string (Qh (dm z)),.int .i64 (de z)])∧Below W.heap.size W w'))
  :
  Calls prog 134 #[.agg #[.bool b,.string s,.int .i64 e],.agg #[.bool c,.string t,.int .i64 f]] w fun r w'=>r=.returned (.agg #[.bool (neg (dm z)),.string (Qh (dm z)),.int .i64 (de z)])∧Below w.heap.size w w' :=
 RetAt.at<|Qi Qk mixed (fun a w=>call134 a w) func134 ntmps134 results134 _ rfl _ [.reg 4 [],.o 1 1 (.ret (.val (vN x))),.o 1 3 (.ret (.val (vN y))),.o 2 1 (.ret (iV sx)),.br false,.o 4 1 (.ret (iV sy)),.br false,.br false,.reg 14 [],.o 8 6 (.eq (iV d)),.o 8 7 (.ret (.agg [bV (neg m),sV (Qh m)])),.o 8 10 (.ret (.agg [bV (neg q),sV (Qh q)])),.o 8 13 (.ret (.val (vN z)))] (fun W hW hR=>Yz (rc W call72 fun W=>cF.out W) (rc W call72 fun W=>cG.out W) (rc W call73 fun W=>cS.out W) (ay hsx) (rc W call73 fun W=>cT.out W) (ay hsy) (oW hge) hw<|Kr (rc W call160 fun W=>cH.out W) (rc W call116 fun W=>cP.out W) (rc W call51 fun W=>cM.out W)<|hR) fun W=>by kernel_rfl
theorem RV(s t:ByteArray)(b c:Bool)(e f:Int)(x y:Dyadic)(sx sy d m q:Int)(z:Dyadic)(hsx:¬ sx=0)(hsy:¬ sy=0)(hlt:de x<de y)(hw:IntKind.i64.wrap (de y-de x)=d)(w:World)(cF:Hid (∀W:World,Calls prog 72 #[.agg #[.bool b,.string s,.int .i64 e]] W fun r w'=>r=.returned (.agg #[.bool (neg (dm x)),.string (Qh (dm x)),.int .i64 (de x)])∧Below W.heap.size W w'))(cG:Hid (∀W:World,Calls prog 72 #[.agg #[.bool c,.string t,.int .i64 f]] W fun r w'=>r=.returned (.agg #[.bool (neg (dm y)),.string (Qh (dm y)),.int .i64 (de y)])∧Below W.heap.size W w'))(cS:Hid (∀W:World,Calls prog 73 #[.agg #[.bool (neg (dm x)),.string (Qh (dm x)),.int .i64 (de x)]] W fun r w'=>r=.returned (.int .i64 sx)∧Below W.heap.size W w'))(cT:Hid (∀W:World,Calls prog 73 #[.agg #[.bool (neg (dm y)),.string (Qh (dm y)),.int .i64 (de y)]] W fun r w'=>r=.returned (.int .i64 sy)∧Below W.heap.size W w'))(cH:Hid (∀W:World,Calls prog 160 #[.agg #[.bool (neg (dm y)),.string (Qh (dm y))],.int .i64 d] W fun r w'=>r=.returned (.agg #[.bool (neg m),.string (Qh m)])∧Below W.heap.size W w'))(cP:Hid (∀W:World,Calls prog 116 #[.agg #[.bool (neg m),.string (Qh m)],.agg #[.bool (neg (dm x)),.string (Qh (dm x))]] W fun r w'=>r=.returned (.agg #[.bool (neg q),.string (Qh q)])∧Below W.heap.size W w'))(cM:Hid (∀W:World,Calls prog 51 #[.agg #[.bool (neg q),.string (Qh q)],.int .i64 (de x)] W fun r w'=>r=.returned (.agg #[.bool (neg (dm z)),.string (Qh (dm z)),.int .i64 (de z)])∧Below W.heap.size W w'))
  :
  Calls prog 134 #[.agg #[.bool b,.string s,.int .i64 e],.agg #[.bool c,.string t,.int .i64 f]] w fun r w'=>r=.returned (.agg #[.bool (neg (dm z)),.string (Qh (dm z)),.int .i64 (de z)])∧Below w.heap.size w w' :=
 RetAt.at<|Qi Qk mixed (fun a w=>call134 a w) func134 ntmps134 results134 _ rfl _ [.reg 4 [],.o 1 1 (.ret (.val (vN x))),.o 1 3 (.ret (.val (vN y))),.o 2 1 (.ret (iV sx)),.br false,.o 4 1 (.ret (iV sy)),.br false,.br true,.reg 14 [],.o 8 6 (.eq (iV d)),.o 8 7 (.ret (.agg [bV (neg m),sV (Qh m)])),.o 8 10 (.ret (.agg [bV (neg q),sV (Qh q)])),.o 8 13 (.ret (.val (vN z)))] (fun W hW hR=>Yz (rc W call72 fun W=>cF.out W) (rc W call72 fun W=>cG.out W) (rc W call73 fun W=>cS.out W) (ay hsx) (rc W call73 fun W=>cT.out W) (ay hsy) (pg hlt) hw<|Kr (rc W call160 fun W=>cH.out W) (rc W call116 fun W=>cP.out W) (rc W call51 fun W=>cM.out W)<|hR) fun W=>by kernel_rfl
