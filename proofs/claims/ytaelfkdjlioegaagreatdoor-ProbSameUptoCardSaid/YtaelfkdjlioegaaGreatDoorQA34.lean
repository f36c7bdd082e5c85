/- The walks and plain laws beneath the statements. -/
import Derived.Test.YtaelfkdjlioegaaGreatDoorQA32
import Derived.Test.YtaelfkdjlioegaaGreatDoorQA33
namespace Go.Proofs.YtaelfkdjlioegaaGreatDoor
set_option maxRecDepth 100000
open Go Go.RowKit
set_option maxHeartbeats 1000000 in
theorem bareiss_zero(A:Option Addr)(c:Nat)(w:World):
  Calls Tryz.prog 127 #[.slice A 0 c] w fun e w'=>e=.returned (.agg #[.bool (neg (1)),.string (mag (1))])∧Below w.heap.size w w':=by
 have cO:=Lib.hid (fun W=>wOf_any 1 W (by decide) (by decide))
 go_enter Tryz.func127,Tryz.ntmps127
 have X2:=Bx.new w 30 #[.bool false,.string ⟨#[]⟩]
 have hB:=b1 w (.cells #[.bool false,.string ⟨#[]⟩] 30)
 go_wp2_with fail
 generalize w.alloc (.cells #[.bool false,.string ⟨#[]⟩] 30)=w0 at *
 refine(cO.out _).mono ?_
 rintro e w1 ⟨rfl,hb⟩
 replace X2:=X2.later hb
 replace hB:=nxt hB hb
 clear hb cO
 have X4:=Bx.new w1 30 #[.bool (neg (1)),.string (mag (1))]
 replace X2:=X2.alloc (.cells #[.bool (neg (1)),.string (mag (1))] 30)
 replace hB:=nxtA hB (.cells #[.bool (neg (1)),.string (mag (1))] 30)
 have HX:=Lib.hid (And.intro X2 (And.intro X4 hB))
 clear X2 X4 hB
 go_wp2_with fail
 obtain⟨X2,X4,hB⟩:=HX.out
 clear HX
 generalize w1.alloc (.cells #[.bool (neg (1)),.string (mag (1))] 30)=w2 at *
 generalize w1.heap.size=g4 at *
 go_loopw [5,15] (fun t i wr=>t=.bool false∧i=.int .i64 0∧wr=w2) (fun _ _ _=>0)
 case atStart=>exact⟨rfl,rfl,rfl⟩
 case round =>
  obtain⟨rfl,rfl,rfl⟩:=hrel
  obtain⟨q1,q2,q3,q4⟩:=X2.two
  obtain⟨r1,r2,_,_⟩:=X4.two
  have HZ:=Lib.hid (And.intro X2 hB)
  clear X2 X4 hB
  go_wp2
  exact bodyPost_ret (v:=.agg #[.bool (neg (1)),.string (mag (1))]) (by simp[results,Tryz.results127,go_sem,(HZ.out.1.set2 _ _).cel]) rfl ⟨rfl,st2 HZ.out.2 (Nat.le_refl _) _ _⟩
theorem bsz_shiftI(z n:Int): bsz (shiftI z n)≤bsz z+n.toNat / 8+1:=by
 unfold shiftI
 split
 ·exact bsz_shl_le (Nat.le_refl _)
 ·exact Nat.le_trans (bsz_natAbs_le (Int.natAbs_ediv_le_natAbs z _)) (by omega)
theorem dMake_vn{z e:Int}{W:World}(hz:bsz z≤536870912)(he1:-4611686018427387904≤e)(he2:e≤4611686018427387904)(hT:TabAt 0 Lib.deBruijn64tab W):
  Calls Tryz.prog 96 #[.agg #[.bool (neg z),.string (mag z)],.int .i64 e] W fun r w'=>r=.returned (.agg #[.bool (neg (dm (dy z e))),.string (mag (dm (dy z e))),.int .i64 (de (dy z e))])∧Below W.heap.size W w':=by
 have c:=dMake_any (mag z) (neg z) e W (by rw[mag_size];exact hz) he1 he2 hT
 rw[ival_mk]at c
 exact c
theorem zI_dy{low:Int}{xs:Nat→Nat→Dyadic}{i j:Nat}(h:low≤de (xs i j)): dy (zI low xs i j) low=xs i j:=by
 unfold zI shiftI
 rw[if_pos (by omega),dy_shl,show low+((de (xs i j)-low).toNat:Int)=de (xs i j)by omega,dy_dm]
theorem detL_congr{n:Nat}: ∀ {xs ys:Nat→Nat→Dyadic},(∀i j,i<n→j<n→xs i j=ys i j)→detL n xs=detL n ys:=by
 induction n with
 | zero=>intro _ _ _;rfl
 | succ n ih =>
  intro xs ys h
  have key:∀m,m≤n+1→sumD (fun k=>alt k (xs 0 k*detL n (wot 0 k xs))) m=sumD (fun k=>alt k (ys 0 k*detL n (wot 0 k ys))) m:=by
   intro m
   induction m with
   | zero=>intro _;rfl
   | succ m ihm =>
    intro hm
    show sumD _ m+alt m (xs 0 m*detL n (wot 0 m xs))=sumD _ m+alt m (ys 0 m*detL n (wot 0 m ys))
    rw[ihm (by omega),h 0 m (by omega) (by omega),ih (xs:=wot 0 m xs) (ys:=wot 0 m ys) (fun i j hi hj=>by
     unfold wot skp
     exact h _ _ (by split<;>omega) (by split<;>omega))]
  exact key (n+1) (Nat.le_refl _)
set_option maxHeartbeats 2000000 in
theorem mdet_any(L T0:Nat)(hLT:L+T0≤1000000)(N:Nat)(hn:N≤4)(A:Option Addr)(c:Nat)(bs:Nat→Nat→Bool)(ss:Nat→Nat→ByteArray)(es:Nat→Nat→Int)(xs:Nat→Nat→Dyadic)(w:World)(hx:∀i j,ND (bs i j) (ss i j) (es i j) (xs i j))(hdb:∀i j,DB L T0 (xs i j))(hr:RdM w A N (fun _=>N) bs ss es)(hT:TabAt 0 Lib.deBruijn64tab w):
  Calls Tryz.prog 101 #[.slice A N c] w fun r w'=>r=.returned (.tuple #[.agg #[.bool (neg (dm (detL N xs))),.string (mag (dm (detL N xs))),.int .i64 (de (detL N xs))],.int .i64 0])∧Below w.heap.size w w':=by
 have HR:=Lib.hid hr
 have HX:=Lib.hid hx
 have HDB:=Lib.hid hdb
 have HT:=Lib.hid hT
 have HLT:=Lib.hid hLT
 have cc:=Lib.hid (fun W h=>mcheck_any A N c (fun _=>N) W (by omega) h)
 have HSQ:=Lib.hid (show sqB N (fun _=>N)from⟨by omega,fun _ _=>rfl⟩)
 clear hr hx hdb hT hLT
 go_enter Tryz.func101,Tryz.ntmps101
 have X2:=Bx.new w 32 #[.bool false,.string ⟨#[]⟩,.int .i64 0]
 have hB:=b1 w (.cells #[.bool false,.string ⟨#[]⟩,.int .i64 0] 32)
 go_wp2_with fail
 generalize w.alloc (.cells #[.bool false,.string ⟨#[]⟩,.int .i64 0] 32)=w0 at *
 refine(cc.out _ (HR.out.below hB).len).mono ?_
 rintro e w1 ⟨h1,_,hb⟩
 obtain rfl:=h1 HSQ.out
 replace X2:=X2.later hb
 replace hB:=nxt hB hb
 have HXL:=Lib.hid X2.lt
 clear hb h1 cc
 have cs:=Lib.hid (scaled_any N L T0 HLT.out (by omega) A c bs ss es xs w1 HX.out HDB.out (HR.out.below hB) (tab_keep HT.out hB))
 have HK:=Lib.hid (And.intro X2 hB)
 clear X2 hB
 go_wp2_with fail
 refine cs.out.mono ?_
 rintro e w2 ⟨⟨v,low,rfl,hl1,hl2,hl3,ho⟩,hb⟩
 obtain⟨X2,hB⟩:=HK.out
 replace X2:=X2.later hb
 have hB2:=nxt hB hb
 clear cs HK
 have HL:=Lib.hid (And.intro hl1 (And.intro hl2 hl3))
 have hlA:-1000000≤low:=by have:=HLT.out;omega
 have HSZ:Hid (∀i j,bsz (zI low xs i j)≤380000):=Lib.hid fun i j=>by
  have h1:=db_form (HDB.out i j)
  have h2:=db_size (HDB.out i j)
  have h4:=HLT.out
  have h3:=bsz_shiftI (dm (xs i j)) (de (xs i j)-low)
  rw[mag_size]at h2
  have h6:(de (xs i j)-low).toNat≤1000000:=by have:=h1.2.1;have:=HL.out.1;omega
  show bsz (shiftI _ _)≤_
  omega
 have cb:Hid (Calls Tryz.prog 127 #[v] w2 fun e w'=>e=.returned (.agg #[.bool (neg (detI N (zI low xs))),.string (mag (detI N (zI low xs)))])∧Below w1.heap.size w2 w'):=Lib.hid (by
  rcases Nat.eq_zero_or_pos N with h0|h0
  ·subst h0
   rcases ho with⟨As,cs,h1,_⟩
   obtain⟨A',c',rfl,_⟩:=OwnK.rd (k:=1) (fun _=>rfl) h1
   exact(bareiss_zero A' c' w2).mono fun e w' ⟨h2,h3⟩=>⟨h2,h3.mono hb.size⟩
  ·obtain⟨g,c',As,cs,rfl,hnc,hT⟩:=ho.tab h0
   exact(bareiss_any w1.heap.size g N c' 380000 As cs (zI low xs) w2 h0 (by omega) (by decide) (by decide) (fun i j _ _=>HSZ.out i j) hb.size hnc hT).mono fun e w' ⟨⟨z,h1,h2⟩,h3⟩=>⟨by rw[← bar_det0 hn h1];exact h2,h3⟩)
 have HLO:=Lib.hid (show w.heap.size<w1.heap.size∧w1.heap.size≤w2.heap.size from⟨by have h1:=hB.size;have h2:=HXL.out;omega,hb.size⟩)
 have HK:=Lib.hid (And.intro X2 hB2)
 clear X2 hB2 hB hb ho hl1 hl2 hl3
 have hlow0:low≤0:=HL.out.2.1
 go_wp2_with fail
 refine cb.out.mono ?_
 rintro e w3 ⟨rfl,hb⟩
 obtain⟨X2,hB⟩:=HK.out
 replace X2:Bx w3 w.heap.size 32 #[.bool false,.string ⟨#[]⟩,.int .i64 0]:=(hb.block w.heap.size (by have:=HLO.out;omega)).trans X2
 replace hB:=belB hB hb (by have:=HLO.out;omega)
 clear hb cb HK
 have hdd:DB (L*N) ((T0+8)*N+1) (detL N xs):=db_det N xs (by omega) HDB.out
 have hval:dy (detI N (zI low xs)) (low*N)=detL N xs:=by
  rw[← det_dy]
  exact detL_congr fun i j hi hj=>zI_dy (HL.out.2.2 i j hi hj)
 have HV:=Lib.hid hval
 have hNi:(N:Int)≤4:=by omega
 have hN0:(0:Int)≤(N:Int):=by omega
 have hmul:low*(N:Int)≤0:=Int.mul_nonpos_of_nonpos_of_nonneg hlow0 hN0
 have hmul2:-4000000≤low*(N:Int):=by
  have h1:(-1000000)*4≤low*(N:Int):=by
   have h2:low*4≤low*(N:Int):=Int.mul_le_mul_of_nonpos_left hlow0 hNi
   omega
  omega
 have hdz:bsz (detI N (zI low xs))≤536870912:=Nat.le_trans (bsz_det N _ HSZ.out) (by
  have h1:380000*N≤380000*4:=Nat.mul_le_mul_left _ hn
  have h2:N*N≤4*4:=Nat.mul_le_mul hn hn
  omega)
 have cM:=Lib.hid (fun W h=>dMake_vn (e:=low*(N:Int)) (W:=W) hdz (by omega) (by omega) h)
 have HK:=Lib.hid (And.intro X2 hB)
 clear X2 hB hdd hval hdz
 go_wp2_with fail
 refine(cM.out _ (tab_keep HT.out HK.out.2)).mono ?_
 rintro e w4 ⟨rfl,hb⟩
 rw[HV.out]
 obtain⟨X2,hB⟩:=HK.out
 replace X2:=X2.later hb
 replace hB:=nxt hB hb
 clear hb cM HK
 obtain⟨q1,q2,q3,q4,q5,q6⟩:=X2.three
 have HZ:=Lib.hid (And.intro X2 hB)
 clear X2 hB
 go_wp2
 exact bodyPost_ret (v:=.tuple #[.agg #[.bool (neg (dm (detL N xs))),.string (mag (dm (detL N xs))),.int .i64 (de (detL N xs))],.int .i64 0]) (by simp[results,Tryz.results101,go_sem,(HZ.out.1.set3 _ _ _).cel]) rfl ⟨rfl,st3 HZ.out.2 (Nat.le_refl _) _ _ _⟩
