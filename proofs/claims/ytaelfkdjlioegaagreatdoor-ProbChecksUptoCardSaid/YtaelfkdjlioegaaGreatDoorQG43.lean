/- The walks and plain laws beneath the statements. -/
import Derived.Test.YtaelfkdjlioegaaGreatDoorQG42
namespace Go.Proofs.YtaelfkdjlioegaaGreatDoor
open Tryz
set_option maxRecDepth 100000
open Go Go.RowKit
variable{ll:List (List Xl)}{t:TypeId}{ct:List Nd}{l1 l2:List Xl}{vb vs:Value}{kind vars budget:Int}{eps delta:Nm}
def Is(ll:List (List Xl))(j:Nat): List Xl:=ll.getD j []
def Dm(ll:List (List Xl))(k:Nat): Nat:=((ll.take k).map List.length).sum
theorem aQ{k:Nat}(h:k<ll.length): Dm ll k+(Is ll k).length=Dm ll (k+1):=by
 unfold Dm Is
 rw[Rk h,Sj,List.sum_append,XI h]
 simp
theorem iM(ll:List (List Xl))(k:Nat): ((ll.take k).flatMap fun l=>l).length=Dm ll k:=by
 unfold Dm
 rw[List.length_flatMap]
def Yx(ll:List (List Xl))(k:Nat): List Xl:=(ll.take k).flatMap fun l=>l
theorem Ml(ll:List (List Xl))(k:Nat): (Yx ll k).length=Dm ll k:=iM ll k
theorem F2{k:Nat}(h:k<ll.length): Yx ll k++Is ll k=Yx ll (k+1):=by
 unfold Yx Is
 rw[Rk h,Tv,XI h]
 simp
theorem Va{k:Nat}(h:ll.length≤k): Yx ll k=ll.flatMap fun l=>l:=by
 unfold Yx
 rw[Rh h]
theorem P9(P:Program)(w0:World){e:TypeId}{ty:TypeId}(ht:P.underlying t=some (.slice e)): Qt P w0 (Builtin.cap_ #[t] ty #[.slice none 0 0]) (.int .i64 0):=fun W _=>by
 simp[Builtin.cap_,run_underlying ht,goInt]
theorem kY(P:Program)(w0:World){ti:TI}{e sz:Nat}{ag:Option Bool}(hi:XT P t=some ti)(hk:ti.k=.slice e sz ag)(hz:sz≠0): Qt P w0 (Instr.sliceAt t (.slice none 0 0) none (some (.int .i64 0)) none) (.slice none 0 0):=fun W _=>by
 obtain⟨h1,h2,_⟩:=Zp hi hk
 simp[Instr.sliceAt,Instr.slice,Xq h1,Js (P:=P) (w:=W) (isS:=true) (len:=0) (cap:=0) (lo:=none) (hi:=some (.int .i64 0)) (.inl ⟨rfl,rfl⟩) (.inr ⟨.i64,rfl⟩) (L3 0) (L3 0),Jf h2 hz]
theorem eT{A:Option Addr}{ca:Nat}{Aj:Nat→Option Addr}{cj:Nat→Nat}(hll:ll.length≤4294967296)(htot:∀k,Dm ll k≤4294967296)(w:World)(ha:RdK w A ll.length 1 (fun j=>[.slice (Aj j) (Is ll j).length (cj j)]))(hl:∀j,j<ll.length→RdK w (Aj j) (Is ll j).length 2 (fun i=>QO ((Is ll j).getD i Qo))∧(Aj j=none→(Is ll j).length=0∧cj j=0)): NewIn prog w [] 98 #[.slice A ll.length ca] (fun(y:Hp)=>Value.slice y.1 (ll.flatMap fun l=>l).length y.2) (fun(y:Hp)=>Qd 48 2 QO (ll.flatMap fun l=>l) y.1 y.2) :=
 BG (β:=Hp) Qk mixed (fun a w=>call98 a w) func98 ntmps98 results98 _ rfl 0 _ _ [.loop (fun(k1:Nat)=>(⟨36,[(0,lV A ll.length ca),(3,iV ((Dm ll k1:Nat):Int)),(9,lV A ll.length ca),(10,iV (ll.length:Int)),(11,iV (k1:Int))],[],[]⟩:St)) (fun(k1:Nat)=>(k1≤ll.length)) (fun(k1:Nat)=>(ll.length-k1)) (0:Nat) (fun(k1:Nat) _=>k1+1) (fun(k1:Nat)=>[.both [.o 4 0 (.set (.pointer (some (QJ A (k1*1+0))))),.o 4 1 (.set (.slice (Aj k1) (Is ll k1).length (cj k1))),.o 5 3 (.eq (iV ((Dm ll (k1+1):Nat):Int))),.br false,.o 8 0 (.eq (iV ((k1+1:Nat):Int))),.next 0] [.inl 9 1 f123,.br false,.o 3 2 (.set (.int .i64 0)),.o 3 6 (.eq (iV ((Dm ll k1:Nat):Int))),.both [.o 5 2 (.set (.int .i64 0)),.o 5 3 (.set (.slice none 0 0)),.mk 5 5 [] (fun(y1:Hp)=>.slice y1.1 (Dm ll k1) y1.2) (fun(y1:Hp)=>Qd 48 2 QO (List.replicate (Dm ll k1) Qo) y1.1 y1.2) (fun(y1:Hp)=>[.eff 5 8 0 (fun(y2:Hp)=>Value.slice y2.1 (((List.replicate (Dm ll k1) Qo).take 0)).length y2.2) (fun(y2:Hp)=>Qd 48 2 QO ((List.replicate (Dm ll k1) Qo).take 0) y2.1 y2.2) (fun(y2:Hp)=>[Vs (fun(q2:Nat×Hp)=>(⟨36,[(6,lV q2.2.1 ((Yx ll q2.1)).length q2.2.2),(25,lV A ll.length ca),(26,iV (ll.length:Int)),(27,iV (q2.1:Int))],[],[some (Qd 48 2 QO (Yx ll q2.1) q2.2.1 q2.2.2)]⟩:St)) ll.length ((0,y2):Nat×Hp) (fun(q2:Nat×Hp)=>[.both [.o 12 0 (.set (.pointer (some (QJ A (q2.1*1+0))))),.o 12 1 (.set (.slice (Aj q2.1) (Is ll q2.1).length (cj q2.1))),.eff 13 2 0 (fun(y3:Hp)=>Value.slice y3.1 ((Yx ll (q2.1+1))).length y3.2) (fun(y3:Hp)=>Qd 48 2 QO (Yx ll (q2.1+1)) y3.1 y3.2) (fun(y3:Hp)=>[.o 14 0 (.eq (iV ((q2.1+1:Nat):Int))),.nxt [y3]])] []])])])] [.nil 10 99999 48 2 QO,Vs (fun(q2:Nat×Hp)=>(⟨36,[(6,lV q2.2.1 ((Yx ll q2.1)).length q2.2.2),(25,lV A ll.length ca),(26,iV (ll.length:Int)),(27,iV (q2.1:Int))],[],[some (Qd 48 2 QO (Yx ll q2.1) q2.2.1 q2.2.2)]⟩:St)) ll.length ((0,none,0):Nat×Hp) (fun(q2:Nat×Hp)=>[.both [.o 12 0 (.set (.pointer (some (QJ A (q2.1*1+0))))),.o 12 1 (.set (.slice (Aj q2.1) (Is ll q2.1).length (cj q2.1))),.eff 13 2 0 (fun(y4:Hp)=>Value.slice y4.1 ((Yx ll (q2.1+1))).length y4.2) (fun(y4:Hp)=>Qd 48 2 QO (Yx ll (q2.1+1)) y4.1 y4.2) (fun(y4:Hp)=>[.o 14 0 (.eq (iV ((q2.1+1:Nat):Int))),.nxt [y4]])] []])]]])] (fun W hW=>have HA:=ha.up hW (fun _=>rfl);(fun(HL:∀j,j<ll.length→RdK W (Aj j) (Is ll j).length 2 (fun i=>QO ((Is ll j).getD i Qo))∧(Aj j=none→(Is ll j).length=0∧cj j=0))=>ZP (qV (.slice A ll.length ca)) (qI ((Dm ll 0:Nat):Int)) (qV (.slice A ll.length ca)) (qI (ll.length:Int)) (qI ((0:Nat):Int))<|ai (show 0≤ll.length from L9 _) fun(k1:Nat) (hk1:(k1≤ll.length))=>Q4 (decide ((k1:Int)<(ll.length:Int))) (fun hl1=>Yz (BD (c:=ca) (i:=k1) HA (Qm hl1)) (Co (i:=k1) (o:=0) HA (Qm hl1) (by decide) rfl) (show IntKind.i64.wrap (((Dm ll k1:Nat):Int)+(((Is ll k1).length:Nat):Int))=((Dm ll (k1+1):Nat):Int)from by have h1:=aQ (Qm hl1);have:=htot (k1+1);rw[Ln _ (by omega)];omega) (show(decide (((Dm ll (k1+1):Nat):Int)<0))=false from Lk (by omega)) (Qq (n:=k1) (by have:=L1 hl1;omega)) (qV (.slice A ll.length ca)) (qI ((Dm ll (k1+1):Nat):Int)) (qV (.slice A ll.length ca))<|ZG (qI (ll.length:Int)) (qI (((k1+1):Nat):Int))<|ai (show k1+1≤ll.length from Qm hl1) (show ll.length-(k1+1)<ll.length-k1 from by have:=L1 hl1;omega)) fun hl1=>ZP func123 (fun a w=>call123 a w) (show(decide (((Dm ll k1:Nat):Int)<0))=false from Lk (by omega)) (P9 prog W (t:=28) (e:=48) (ty:=3) (by kernel_rfl)) (show IntKind.i64.wrap (((Dm ll k1:Nat):Int)-0)=((Dm ll k1:Nat):Int)from by have:=htot k1;rw[Ln _ (by omega)];omega)<|Q4 (decide (((Dm ll k1:Nat):Int)>0)) (fun hg=>ZG (P9 prog W (t:=28) (e:=48) (ty:=3) (by kernel_rfl)) (kY prog W (Qk 28 _ rfl) rfl (by decide))<|ai (gu (w0:=W) (u:=3) (ty:=28) QS (by kernel_rfl) QH Qo et (Qm hg) (by have:=htot k1;omega) (show Dm ll k1*32≤140737488355328 from by have:=htot k1;omega)) fun(y1:Hp)=>ai (by have h:=O9 (P:=prog) (w0:=W) (t:=28) (Qk 28 _ rfl) rfl (by decide) QH (m:=0) (l:=(List.replicate (Dm ll k1) Qo)) (A:=y1.1) (cp:=y1.2) (e:=48) (L9 _) (by rw[Sg];have:=L1 hg;omega);rw[Sg]at h;exact h) fun(y2:Hp)=>ZP (show(.slice y2.1 (((List.replicate (Dm ll k1) Qo).take 0)).length y2.2:Value)=(.slice y2.1 ((Yx ll 0)).length y2.2)from(by simp[Yx])) (qV (.slice A ll.length ca)) (qI (ll.length:Int)) (qI ((0:Nat):Int)) (Kl (Qd 48 2 QO ((List.replicate (Dm ll k1) Qo).take 0) y2.1 y2.2) (Qd 48 2 QO (Yx ll 0) y2.1 y2.2) fun _ _ _ h=>Xe (by simp[Yx]) (by simp[Yx]) h)<|ai (show 0≤ll.length from L9 _) fun(q2:Nat×Hp) (hk2:(q2.1≤ll.length))=>Q4 (decide ((q2.1:Int)<(ll.length:Int))) (fun hl2=>ZG (BD (c:=ca) (i:=q2.1) HA (Qm hl2)) (Co (i:=q2.1) (o:=0) HA (Qm hl2) (by decide) rfl)<|ai (JW (w0:=W) (ty:=28) (c:=QO) (l:=(Yx ll q2.1)) (l2:=(Is ll q2.1)) (l':=(Yx ll (q2.1+1))) (A:=q2.2.1) (cp:=q2.2.2) (u:=.slice (Aj q2.1) (Is ll q2.1).length (cj q2.1)) QS QH Zv (F2 (Qm hl2)) (show((Yx ll (q2.1+1))).length*32≤140737488355328 from by rw[Ml];have:=htot (q2.1+1);omega) (fun W' hW'=>ZA QH (by decide) (d:=Qo) ((HL q2.1 (by have:=L1 hl2;omega)).1.below (fun _=>rfl) hW') (HL q2.1 (by have:=L1 hl2;omega)).2)) fun(y3:Hp)=>KW (Qq (n:=q2.1) (by have:=L1 hl2;omega)) (qV (.slice y3.1 ((Yx ll (q2.1+1))).length y3.2)) (qV (.slice A ll.length ca)) (qI (ll.length:Int)) (qI (((q2.1+1):Nat):Int)) (Kl (Qd 48 2 QO (Yx ll (q2.1+1)) y3.1 y3.2) (Qd 48 2 QO (Yx ll (q2.1+1)) y3.1 y3.2) fun _ _ _ h=>h)<|ai (show q2.1+1≤ll.length from Qm hl2) (show ll.length-(q2.1+1)<ll.length-q2.1 from by have:=L1 hl2;omega)) fun hl2=>(show ∃y:Hp,SV.val (.slice q2.2.1 ((Yx ll q2.1)).length q2.2.2)=SV.val ((fun(y:Hp)=>Value.slice y.1 (ll.flatMap fun l=>l).length y.2) y)∧∀(x:Value) (S:Nat→Prop) (w:World),(Qd 48 2 QO (Yx ll q2.1) q2.2.1 q2.2.2).φ x S w→((fun(y:Hp)=>Qd 48 2 QO (ll.flatMap fun l=>l) y.1 y.2) y).φ x S w from⟨q2.2,(by rw[show Yx ll q2.1=ll.flatMap fun l=>l from Va (by have:=La hl2;omega)]),fun x S w h=>Xe (by rw[show Yx ll q2.1=ll.flatMap fun l=>l from Va (by have:=La hl2;omega)]) (by rw[show Yx ll q2.1=ll.flatMap fun l=>l from Va (by have:=La hl2;omega)]) h⟩)) fun hg=>ZP (qV (.slice ((0,none,0):Nat×Hp).2.1 ((Yx ll (((0,none,0):Nat×Hp).1))).length ((0,none,0):Nat×Hp).2.2)) (qV (.slice A ll.length ca)) (qI (ll.length:Int)) (qI ((((0,none,0):Nat×Hp).1:Nat):Int)) (Kl (Qd 48 2 QO ([]:List Xl) none 0) (Qd 48 2 QO (Yx ll (((0,none,0):Nat×Hp).1)) (((0,none,0):Nat×Hp).2.1) (((0,none,0):Nat×Hp).2.2)) fun _ _ _ h=>h)<|ai (show 0≤ll.length from L9 _) fun(q2:Nat×Hp) (hk2:(q2.1≤ll.length))=>Q4 (decide ((q2.1:Int)<(ll.length:Int))) (fun hl2=>ZG (BD (c:=ca) (i:=q2.1) HA (Qm hl2)) (Co (i:=q2.1) (o:=0) HA (Qm hl2) (by decide) rfl)<|ai (JW (w0:=W) (ty:=28) (c:=QO) (l:=(Yx ll q2.1)) (l2:=(Is ll q2.1)) (l':=(Yx ll (q2.1+1))) (A:=q2.2.1) (cp:=q2.2.2) (u:=.slice (Aj q2.1) (Is ll q2.1).length (cj q2.1)) QS QH Zv (F2 (Qm hl2)) (show((Yx ll (q2.1+1))).length*32≤140737488355328 from by rw[Ml];have:=htot (q2.1+1);omega) (fun W' hW'=>ZA QH (by decide) (d:=Qo) ((HL q2.1 (by have:=L1 hl2;omega)).1.below (fun _=>rfl) hW') (HL q2.1 (by have:=L1 hl2;omega)).2)) fun(y4:Hp)=>KW (Qq (n:=q2.1) (by have:=L1 hl2;omega)) (qV (.slice y4.1 ((Yx ll (q2.1+1))).length y4.2)) (qV (.slice A ll.length ca)) (qI (ll.length:Int)) (qI (((q2.1+1):Nat):Int)) (Kl (Qd 48 2 QO (Yx ll (q2.1+1)) y4.1 y4.2) (Qd 48 2 QO (Yx ll (q2.1+1)) y4.1 y4.2) fun _ _ _ h=>h)<|ai (show q2.1+1≤ll.length from Qm hl2) (show ll.length-(q2.1+1)<ll.length-q2.1 from by have:=L1 hl2;omega)) fun hl2=>(show ∃y:Hp,SV.val (.slice q2.2.1 ((Yx ll q2.1)).length q2.2.2)=SV.val ((fun(y:Hp)=>Value.slice y.1 (ll.flatMap fun l=>l).length y.2) y)∧∀(x:Value) (S:Nat→Prop) (w:World),(Qd 48 2 QO (Yx ll q2.1) q2.2.1 q2.2.2).φ x S w→((fun(y:Hp)=>Qd 48 2 QO (ll.flatMap fun l=>l) y.1 y.2) y).φ x S w from⟨q2.2,(by rw[show Yx ll q2.1=ll.flatMap fun l=>l from Va (by have:=La hl2;omega)]),fun x S w h=>Xe (by rw[show Yx ll q2.1=ll.flatMap fun l=>l from Va (by have:=La hl2;omega)]) (by rw[show Yx ll q2.1=ll.flatMap fun l=>l from Va (by have:=La hl2;omega)]) h⟩)) (fun j hj=>⟨(hl j hj).1.below (fun _=>rfl) hW,(hl j hj).2⟩)) fun W=>by kernel_rfl
def nW(x:Option Addr×Nat×Nat): List Value:=[.slice x.1 x.2.1 x.2.2]
theorem Pf(x:Option Addr×Nat×Nat): (nW x).length=1:=rfl
def Yh(ct:List Nd)(Ua:Nat→Option Addr)(Uc:Nat→Nat): List Xl:=(List.range ct.length).map fun j=>((Qc ct j).sum,Ua j,Uc j)
theorem Ki(ct:List Nd)(Ua:Nat→Option Addr)(Uc:Nat→Nat): (Yh ct Ua Uc).length=ct.length:=by simp[Yh]
theorem Iy{Ua:Nat→Option Addr}{Uc:Nat→Nat}{k:Nat}(h:k<ct.length): (Yh ct Ua Uc).getD k Qo=((Qc ct k).sum,Ua k,Uc k):=by
 rw[XI (by rw[Ki];exact h)]
 simp[Yh]
def XN(l1 l2:List Xl)(ct:List Nd)(Ua:Nat→Option Addr)(Uc:Nat→Nat): List Xl:=([l1,l2].flatMap fun l=>l)++Yh ct Ua Uc
theorem SW{Ap Ar:Option Addr}{np kp nr kr:Nat}(hn1:np=l1.length)(hn2:nr=l2.length)(hl1:l1.length≤1048576)(hl2:l2.length≤1048576){A:Option Addr}{cp:Nat}(W:World)(h1:RdK W Ap l1.length 2 (fun i=>QO (l1.getD i Qo))∧(Ap=none→l1.length=0∧kp=0))(h2:RdK W Ar l2.length 2 (fun i=>QO (l2.getD i Qo))∧(Ar=none→l2.length=0∧kr=0)):
  NewIn prog W [Qd 28 1 nW [(Ap,np,kp),(Ar,nr,kr)] A cp] 98 #[.slice A ([(Ap,np,kp),(Ar,nr,kr)]:List (Option Addr×Nat×Nat)).length cp] (fun y:Hp=>.slice y.1 ([l1,l2].flatMap fun l=>l).length y.2) (fun y:Hp=>Qd 48 2 QO ([l1,l2].flatMap fun l=>l) y.1 y.2):=by
 subst hn1
 subst hn2
 refine⟨fun a w=>call98 a w,fun W' hW'=>?_⟩
 show ∀x S,_→_
 intro x S hφ
 have hr:=AD Pf (none,0,0) hφ
 refine(eT (ll:=[l1,l2]) (A:=A) (ca:=cp) (Aj:=fun j=>if j=0 then Ap else Ar) (cj:=fun j=>if j=0 then kp else kr) (show 2≤4294967296 from by decide) (fun k=>?_) W' ?_ ?_).at
 ·match k with
  | 0=>simp[Dm]
  | 1=>simp[Dm];omega
  | k+2=>simp[Dm];omega
 ·refine RdK.congr hr fun j hj=>?_
  match j,hj with
  | 0,_=>rfl
  | 1,_=>rfl
 ·intro j hj
  match j,hj with
  | 0,_=>exact⟨h1.1.below (fun _=>rfl) hW',h1.2⟩
  | 1,_=>exact⟨h2.1.below (fun _=>rfl) hW',h2.2⟩
theorem oz{y l:Nat}{Ap Ar Ac:Option Addr}{kp kr cc:Nat}(hl1:l1.length≤1048576)(hl2:l2.length≤1048576)(W:World)(HX:Bx W y 35 #[.int .i64 kind,.int .i64 vars,vb,vs,.slice Ap l1.length kp,.slice Ar l2.length kr,.bool eps.b,.string eps.s,.int .i64 eps.e,.bool delta.b,.string delta.s,.int .i64 delta.e,.int .i64 budget,.slice Ac ct.length cc])(HQ:(RdK W Ap l1.length 2 (fun i=>QO (l1.getD i Qo))∧(Ap=none→l1.length=0∧kp=0)))(HU:(RdK W Ar l2.length 2 (fun i=>QO (l2.getD i Qo))∧(Ar=none→l2.length=0∧kr=0))): XH prog tt (KM prog tt W) (0,0) W (JZ (JZ (Xc f97))) (MR 36 [.func (.yield l) #[] #[],.pointer (some ⟨y,0,none⟩)]) [.o 0 0 (.set (.pointer (some ⟨y,4,none⟩))),.o 0 1 (.set (.slice Ap l1.length kp)),.o 0 2 (.set (.pointer (some ⟨y,5,none⟩))),.o 0 3 (.set (.slice Ar l2.length kr)),.row 0 5 0 [11] 28 1 nW ([(Ap,l1.length,kp),(Ar,l2.length,kr)]) (fun(y1:Hp)=>[.mk 0 5 [0] (fun(y2:Hp)=>.slice y2.1 ([l1,l2].flatMap fun l=>l).length y2.2) (fun(y2:Hp)=>Qd 48 2 QO ([l1,l2].flatMap fun l=>l) y2.1 y2.2) (fun(y2:Hp)=>[])])] (fun e σ _=>GU e (Mi (fun y':Hp=>(⟨36,[(0,.val (.func (.yield l) #[] #[])),(1,.val (.pointer (some ⟨y,0,none⟩))),(12,lV y'.1 ([l1,l2].flatMap fun l=>l).length y'.2),(13,iV ((([l1,l2].flatMap fun l=>l).length:Nat):Int)),(14,iV ((0:Nat):Int))],[],[]⟩:St)) 1 (fun y':Hp=>Qd 48 2 QO ([l1,l2].flatMap fun l=>l) y'.1 y'.2) σ)) :=
 Ye (ZP (ID (w0:=W) (g:=y) (o:=0)) (MC (o:=4) HX rfl) (IN (w0:=W) (g:=y) (o:=0)) (MC (o:=5) HX rfl) (show([.slice Ap l1.length kp,.slice Ar l2.length kr]:List Value)=List.flatMap nW ([(Ap,l1.length,kp),(Ar,l2.length,kr)])from rfl)<|ai (And.intro Pf (show([(Ap,l1.length,kp),(Ar,l2.length,kr)]).length≤maxLen from(by simp[maxLen]))) fun(y1:Hp)=>ai (SW (A:=y1.1) (cp:=y1.2) rfl rfl hl1 hl2 W HQ HU) fun(y2:Hp)=>(show ∃y':Hp,(∀(xφ:Value) (Sφ:Nat→Prop) (wφ:World),(Qd 48 2 QO ([l1,l2].flatMap fun l=>l) y2.1 y2.2).φ xφ Sφ wφ→(Qd 48 2 QO ([l1,l2].flatMap fun l=>l) y'.1 y'.2).φ xφ Sφ wφ)∧((.func (.yield l) #[] #[]:Value)=.func (.yield l) #[] #[])∧((.pointer (some ⟨y,0,none⟩):Value)=.pointer (some ⟨y,0,none⟩))∧((.slice y2.1 ([l1,l2].flatMap fun l=>l).length y2.2:Value)=.slice y'.1 ([l1,l2].flatMap fun l=>l).length y'.2)∧((((([l1,l2].flatMap fun l=>l).length:Nat):Int):Int)=((([l1,l2].flatMap fun l=>l).length:Nat):Int))∧((0:Int)=((0:Nat):Int))∧True from⟨y2,fun xφ Sφ wφ h=>h,rfl,rfl,rfl,rfl,rfl,trivial⟩)) (by kernel_rfl)
theorem mb{y:Nat}{A:Option Addr}{cp:Nat}{l:Nat}(k:Nat)(W:World): XH prog tt (KM prog tt W) (0,0) W (nI (Xf (JZ (Xc f97)))) (⟨36,[(0,.val (.func (.yield l) #[] #[])),(1,.val (.pointer (some ⟨y,0,none⟩))),(12,lV A ([l1,l2].flatMap fun l=>l).length cp),(13,iV ((([l1,l2].flatMap fun l=>l).length:Nat):Int)),(14,iV (k:Int))],[],[]⟩:St) [] (fun e σ _=>GU e (JR σ (m9 (Xf (JZ (Xc f97)))) fun s=>s=.val (.bool (decide ((k:Int)<((([l1,l2].flatMap fun l=>l).length:Nat):Int))))∧Jk σ (⟨36,[(0,.val (.func (.yield l) #[] #[])),(1,.val (.pointer (some ⟨y,0,none⟩))),(12,lV A ([l1,l2].flatMap fun l=>l).length cp),(13,iV ((([l1,l2].flatMap fun l=>l).length:Nat):Int)),(14,iV (k:Int))],[],[]⟩:St) True)) :=
 Ye (KW (show((.val (.bool (decide ((k:Int)<((([l1,l2].flatMap fun l=>l).length:Nat):Int)))):SV)=bV (decide ((k:Int)<((([l1,l2].flatMap fun l=>l).length:Nat):Int))))from rfl) (qV (.func (.yield l) #[] #[])) (qV (.pointer (some ⟨y,0,none⟩))) (qV (.slice A ([l1,l2].flatMap fun l=>l).length cp)) (qI ((([l1,l2].flatMap fun l=>l).length:Nat):Int)) (qI (k:Int))<|trivial) (by kernel_rfl)
theorem nt{y:Nat}{A:Option Addr}{cp:Nat}{l:Nat}(k:Nat)(hk:k<([l1,l2].flatMap fun l=>l).length)(W:World)(HF:RdK W A ([l1,l2].flatMap fun l=>l).length 2 (fun j=>QO (List.getD ([l1,l2].flatMap fun l=>l) j Qo))): XH prog tt (KM prog tt W) (0,0) W (nG (Xf (JZ (Xc f97)))) (⟨36,[(0,.val (.func (.yield l) #[] #[])),(1,.val (.pointer (some ⟨y,0,none⟩))),(12,lV A ([l1,l2].flatMap fun l=>l).length cp),(13,iV ((([l1,l2].flatMap fun l=>l).length:Nat):Int)),(14,iV (k:Int))],[],[]⟩:St) [.o 2 0 (.set (.pointer (some (QJ A (k*2+0))))),.o 2 1 (.set (.agg #[.int .i64 ((List.getD ([l1,l2].flatMap fun l=>l) k Qo).1.vars),.slice (List.getD ([l1,l2].flatMap fun l=>l) k Qo).2.1 (List.getD ([l1,l2].flatMap fun l=>l) k Qo).1.ts.length (List.getD ([l1,l2].flatMap fun l=>l) k Qo).2.2]))] (fun e σ d=>GU e (Kv prog tt (KM prog tt W) W (gj (Do (Xf (JZ (Xc f97))))) (VD (Do (Xf (JZ (Xc f97))))) ((VD (Do (Xf (JZ (Xc f97))))).toList.take 2) 0 σ d fun σ _=>v1 σ (.tmp 18) fun fv=>vL σ [.tmp 19] fun vs=>fv=.func (.yield l) #[] #[]∧vs=[(.agg #[.int .i64 (List.getD ([l1,l2].flatMap fun l=>l) k Qo).1.vars,.slice (List.getD ([l1,l2].flatMap fun l=>l) k Qo).2.1 (List.getD ([l1,l2].flatMap fun l=>l) k Qo).1.ts.length (List.getD ([l1,l2].flatMap fun l=>l) k Qo).2.2]:Value)]∧Jk σ (⟨36,[(0,.val (.func (.yield l) #[] #[])),(1,.val (.pointer (some ⟨y,0,none⟩))),(12,lV A ([l1,l2].flatMap fun l=>l).length cp),(13,iV ((([l1,l2].flatMap fun l=>l).length:Nat):Int)),(14,iV (k:Int))],[],[]⟩:St) True)) :=
 Ye (Yz (XU (c:=cp) (i:=k) HF hk) (YY (i:=k) (o:=0) HF hk (by decide) rfl rfl) (qV (.func (.yield l) #[] #[])) (show(([.agg #[.int .i64 ((List.getD ([l1,l2].flatMap fun l=>l) k Qo).1.vars),.slice (List.getD ([l1,l2].flatMap fun l=>l) k Qo).2.1 (List.getD ([l1,l2].flatMap fun l=>l) k Qo).1.ts.length (List.getD ([l1,l2].flatMap fun l=>l) k Qo).2.2]]:List Value)=[(.agg #[.int .i64 (List.getD ([l1,l2].flatMap fun l=>l) k Qo).1.vars,.slice (List.getD ([l1,l2].flatMap fun l=>l) k Qo).2.1 (List.getD ([l1,l2].flatMap fun l=>l) k Qo).1.ts.length (List.getD ([l1,l2].flatMap fun l=>l) k Qo).2.2]:Value)])from rfl) (qV (.func (.yield l) #[] #[])) (qV (.pointer (some ⟨y,0,none⟩))) (qV (.slice A ([l1,l2].flatMap fun l=>l).length cp)) (qI ((([l1,l2].flatMap fun l=>l).length:Nat):Int))<|ai (qI (k:Int))<|trivial) (by kernel_rfl)
theorem mC{y:Nat}{A:Option Addr}{cp:Nat}{l:Nat}(k:Nat)(b:Bool)(W:World): Kv prog tt (KM prog tt W) W (gj (Do (Xf (JZ (Xc f97))))) (VD (Do (Xf (JZ (Xc f97))))) ((VD (Do (Xf (JZ (Xc f97))))).toList.drop 3) 3 ((⟨36,[(0,.val (.func (.yield l) #[] #[])),(1,.val (.pointer (some ⟨y,0,none⟩))),(12,lV A ([l1,l2].flatMap fun l=>l).length cp),(13,iV ((([l1,l2].flatMap fun l=>l).length:Nat):Int)),(14,iV (k:Int))],[],[]⟩:St).push (some 20) (bV b)) [] (fun σ _=>JR σ (lS (Xf (JZ (Xc f97)))) fun s=>s=.val (.bool (!b))∧Jk σ (⟨36,[(0,.val (.func (.yield l) #[] #[])),(1,.val (.pointer (some ⟨y,0,none⟩))),(12,lV A ([l1,l2].flatMap fun l=>l).length cp),(13,iV ((([l1,l2].flatMap fun l=>l).length:Nat):Int)),(14,iV (k:Int))],[],[]⟩:St) True) :=
 Ye (KW (show((.val (.bool (!b)):SV)=bV (!b))from rfl) (qV (.func (.yield l) #[] #[])) (qV (.pointer (some ⟨y,0,none⟩))) (qV (.slice A ([l1,l2].flatMap fun l=>l).length cp)) (qI ((([l1,l2].flatMap fun l=>l).length:Nat):Int)) (qI (k:Int))<|trivial) (by kernel_rfl)
theorem nn{y:Nat}{A:Option Addr}{cp:Nat}{l:Nat}(k:Nat)(hk:k<4611686018427387904)(W:World): XH prog tt (KM prog tt W) (0,0) W (lQ (Xf (JZ (Xc f97)))) (⟨36,[(0,.val (.func (.yield l) #[] #[])),(1,.val (.pointer (some ⟨y,0,none⟩))),(12,lV A ([l1,l2].flatMap fun l=>l).length cp),(13,iV ((([l1,l2].flatMap fun l=>l).length:Nat):Int)),(14,iV (k:Int))],[],[]⟩:St) [.o 4 0 (.eq (iV ((k+1:Nat):Int)))] (fun e σ _=>GU e (Jk σ (⟨36,[(0,.val (.func (.yield l) #[] #[])),(1,.val (.pointer (some ⟨y,0,none⟩))),(12,lV A ([l1,l2].flatMap fun l=>l).length cp),(13,iV ((([l1,l2].flatMap fun l=>l).length:Nat):Int)),(14,iV ((k+1:Nat):Int))],[],[]⟩:St) True)) :=
 Ye (KW (Qq (n:=k) (by omega)) (qV (.func (.yield l) #[] #[])) (qV (.pointer (some ⟨y,0,none⟩))) (qV (.slice A ([l1,l2].flatMap fun l=>l).length cp)) (qI ((([l1,l2].flatMap fun l=>l).length:Nat):Int)) (qI ((k+1:Nat):Int))<|trivial) (by kernel_rfl)
theorem oZ{y l:Nat}{A:Option Addr}{cp:Nat}{Ap Ar Ac:Option Addr}{kp kr cc:Nat}(W:World)(HX:Bx W y 35 #[.int .i64 kind,.int .i64 vars,vb,vs,.slice Ap l1.length kp,.slice Ar l2.length kr,.bool eps.b,.string eps.s,.int .i64 eps.e,.bool delta.b,.string delta.s,.int .i64 delta.e,.int .i64 budget,.slice Ac ct.length cc]): XH prog tt (KM prog tt W) (0,0) W (JZ (Xf (Xc f97))) (⟨36,[(0,.val (.func (.yield l) #[] #[])),(1,.val (.pointer (some ⟨y,0,none⟩))),(12,lV A ([l1,l2].flatMap fun l=>l).length cp),(13,iV ((([l1,l2].flatMap fun l=>l).length:Nat):Int)),(14,iV ((([l1,l2].flatMap fun l=>l).length:Nat):Int))],[],[]⟩:St) [.o 5 0 (.set (.pointer (some ⟨y,13,none⟩))),.o 5 1 (.set (.slice Ac ct.length cc))] (fun e σ _=>GU e (Jk σ (⟨36,[(0,.val (.func (.yield l) #[] #[])),(24,lV Ac ct.length cc),(25,iV (ct.length:Int)),(26,iV ((0:Nat):Int))],[],[]⟩:St) True)) :=
 Ye (KW (DL (w0:=W) (g:=y) (o:=0)) (Nr (o:=13) HX rfl) (qV (.func (.yield l) #[] #[])) (qV (.slice Ac ct.length cc)) (qI (ct.length:Int)) (qI ((0:Nat):Int))<|trivial) (by kernel_rfl)
theorem na{Ac:Option Addr}{cc l:Nat}(k:Nat)(W:World): XH prog tt (KM prog tt W) (0,0) W (nI (Xf (Xf (Xc f97)))) (⟨36,[(0,.val (.func (.yield l) #[] #[])),(24,lV Ac ct.length cc),(25,iV (ct.length:Int)),(26,iV (k:Int))],[],[]⟩:St) [] (fun e σ _=>GU e (JR σ (m9 (Xf (Xf (Xc f97)))) fun s=>s=.val (.bool (decide ((k:Int)<(ct.length:Int))))∧Jk σ (⟨36,[(0,.val (.func (.yield l) #[] #[])),(24,lV Ac ct.length cc),(25,iV (ct.length:Int)),(26,iV (k:Int))],[],[]⟩:St) True)) :=
 Ye (ZP (show((.val (.bool (decide ((k:Int)<(ct.length:Int)))):SV)=bV (decide ((k:Int)<(ct.length:Int))))from rfl) (qV (.func (.yield l) #[] #[])) (qV (.slice Ac ct.length cc)) (qI (ct.length:Int)) (qI (k:Int))<|trivial) (by kernel_rfl)
theorem mO{Ac:Option Addr}{cc l:Nat}{Ua:Nat→Option Addr}{Uc:Nat→Nat}(k:Nat)(hk:k<ct.length)(W:World)(HC:RdK W Ac ct.length 6 (IV ct Ua Uc)): XH prog tt (KM prog tt W) (0,0) W (nG (Xf (Xf (Xc f97)))) (⟨36,[(0,.val (.func (.yield l) #[] #[])),(24,lV Ac ct.length cc),(25,iV (ct.length:Int)),(26,iV (k:Int))],[],[]⟩:St) [.o 7 0 (.set (.pointer (some (QJ Ac (k*6+0))))),.o 7 1 (.set (.agg #[.int .i64 ((Qc ct k).split),.bool ((Qc ct k).scale.b),.string ((Qc ct k).scale.s),.int .i64 ((Qc ct k).scale.e),.int .i64 ((Qc ct k).sum.vars),.slice (Ua k) (Qc ct k).sum.ts.length (Uc k)]))] (fun e σ d=>GU e (Kv prog tt (KM prog tt W) W (gj (Do (Xf (Xf (Xc f97))))) (VD (Do (Xf (Xf (Xc f97))))) ((VD (Do (Xf (Xf (Xc f97))))).toList.take 3) 0 σ d fun σ _=>v1 σ (.tmp 30) fun fv=>vL σ [.tmp 32] fun vs=>fv=.func (.yield l) #[] #[]∧vs=[(.agg #[.int .i64 (Qc ct k).sum.vars,.slice (Ua k) (Qc ct k).sum.ts.length (Uc k)]:Value)]∧Jk σ (⟨36,[(0,.val (.func (.yield l) #[] #[])),(24,lV Ac ct.length cc),(25,iV (ct.length:Int)),(26,iV (k:Int))],[],[]⟩:St) True)) :=
 Ye (Yz (Xb (c:=cc) (i:=k) HC hk) (KA (i:=k) (o:=0) HC hk (by decide) rfl rfl) (qV (.func (.yield l) #[] #[])) (show(([.agg #[.int .i64 ((Qc ct k).sum.vars),.slice (Ua k) (Qc ct k).sum.ts.length (Uc k)]]:List Value)=[(.agg #[.int .i64 (Qc ct k).sum.vars,.slice (Ua k) (Qc ct k).sum.ts.length (Uc k)]:Value)])from rfl) (qV (.func (.yield l) #[] #[])) (qV (.slice Ac ct.length cc)) (qI (ct.length:Int)) (qI (k:Int))<|trivial) (by kernel_rfl)
theorem m5{Ac:Option Addr}{cc l:Nat}(k:Nat)(b:Bool)(W:World): Kv prog tt (KM prog tt W) W (gj (Do (Xf (Xf (Xc f97))))) (VD (Do (Xf (Xf (Xc f97))))) ((VD (Do (Xf (Xf (Xc f97))))).toList.drop 4) 4 ((⟨36,[(0,.val (.func (.yield l) #[] #[])),(24,lV Ac ct.length cc),(25,iV (ct.length:Int)),(26,iV (k:Int))],[],[]⟩:St).push (some 33) (bV b)) [] (fun σ _=>JR σ (lS (Xf (Xf (Xc f97)))) fun s=>s=.val (.bool (!b))∧Jk σ (⟨36,[(0,.val (.func (.yield l) #[] #[])),(24,lV Ac ct.length cc),(25,iV (ct.length:Int)),(26,iV (k:Int))],[],[]⟩:St) True) :=
 Ye (ZP (show((.val (.bool (!b)):SV)=bV (!b))from rfl) (qV (.func (.yield l) #[] #[])) (qV (.slice Ac ct.length cc)) (qI (ct.length:Int)) (qI (k:Int))<|trivial) (by kernel_rfl)
theorem nL{Ac:Option Addr}{cc l:Nat}(k:Nat)(hk:k<4611686018427387904)(W:World): XH prog tt (KM prog tt W) (0,0) W (lQ (Xf (Xf (Xc f97)))) (⟨36,[(0,.val (.func (.yield l) #[] #[])),(24,lV Ac ct.length cc),(25,iV (ct.length:Int)),(26,iV (k:Int))],[],[]⟩:St) [.o 9 0 (.eq (iV ((k+1:Nat):Int)))] (fun e σ _=>GU e (Jk σ (⟨36,[(0,.val (.func (.yield l) #[] #[])),(24,lV Ac ct.length cc),(25,iV (ct.length:Int)),(26,iV ((k+1:Nat):Int))],[],[]⟩:St) True)) :=
 Ye (ZP (Qq (n:=k) (by omega)) (qV (.func (.yield l) #[] #[])) (qV (.slice Ac ct.length cc)) (qI (ct.length:Int)) (qI ((k+1:Nat):Int))<|trivial) (by kernel_rfl)
theorem gQ{Ua:Nat→Option Addr}{Uc:Nat→Nat}{k:Nat}(h:k<([l1,l2].flatMap fun l=>l).length): List.getD (XN l1 l2 ct Ua Uc) k Qo=List.getD ([l1,l2].flatMap fun l=>l) k Qo:=by
 unfold XN
 rw[List.getD,List.getD,List.getElem?_append_left h]
theorem jb{Ua:Nat→Option Addr}{Uc:Nat→Nat}{k:Nat}(h:k<ct.length): List.getD (XN l1 l2 ct Ua Uc) (([l1,l2].flatMap fun l=>l).length+k) Qo=((Qc ct k).sum,Ua k,Uc k):=by
 unfold XN
 rw[List.getD,List.getElem?_append_right (by omega),S6,← List.getD]
 exact Iy h
theorem TO(l1 l2:List Xl)(ct:List Nd)(Ua:Nat→Option Addr)(Uc:Nat→Nat): (XN l1 l2 ct Ua Uc).length=([l1,l2].flatMap fun l=>l).length+ct.length:=by
 unfold XN
 rw[Lg,Ki]
theorem M8{y:Nat}{Ap Ar Ac:Option Addr}{kp kr cc:Nat}{Ua:Nat→Option Addr}{Uc:Nat→Nat}(hl1:l1.length≤1048576)(hl2:l2.length≤1048576)(hct:ct.length≤1048576)(w:World)(HX:Bx w y 35 #[.int .i64 kind,.int .i64 vars,vb,vs,.slice Ap l1.length kp,.slice Ar l2.length kr,.bool eps.b,.string eps.s,.int .i64 eps.e,.bool delta.b,.string delta.s,.int .i64 delta.e,.int .i64 budget,.slice Ac ct.length cc])(HQ:(RdK w Ap l1.length 2 (fun i=>QO (l1.getD i Qo))∧(Ap=none→l1.length=0∧kp=0)))(HU:(RdK w Ar l2.length 2 (fun i=>QO (l2.getD i Qo))∧(Ar=none→l2.length=0∧kr=0)))(HC:RdK w Ac ct.length 6 (IV ct Ua Uc)): SeqStopsK Fence.wide 8 prog 97 #[.pointer (some ⟨y,0,none⟩)] (fun x:{x // x∈(XN l1 l2 ct Ua Uc)}=>#[.agg #[.int .i64 x.1.1.vars,.slice x.1.2.1 x.1.1.ts.length x.1.2.2]]) KpC (fun ys=>ys=(XN l1 l2 ct Ua Uc).attach) (fun _=>True) (XN l1 l2 ct Ua Uc).length w:=by
 intro l J Jx W hW hJ hJx hY h0
 have hxl:=TO l1 l2 ct Ua Uc
 have hcl:([l1,l2].flatMap fun l=>l).length=l1.length+l2.length:=by simp
 have h1:=HX.later hW
 have h2:(RdK W Ap l1.length 2 (fun i=>QO (l1.getD i Qo))∧(Ap=none→l1.length=0∧kp=0)):=⟨HQ.1.below (fun _=>rfl) hW,HQ.2⟩
 have h3:(RdK W Ar l2.length 2 (fun i=>QO (l2.getD i Qo))∧(Ar=none→l2.length=0∧kr=0)):=⟨HU.1.below (fun _=>rfl) hW,HU.2⟩
 have h4:RdK W Ac ct.length 6 (IV ct Ua Uc):=HC.below (fun _=>rfl) hW
 refine callsIn_wide.2 (calls_of_wp (c:=(Xc f97)) (args:=([.func (.yield l) #[] #[],.pointer (some ⟨y,0,none⟩)]:List Value).toArray) func97 (by kernel_rfl) ?_)
 rw[ntmps97,show(Xc f97)=.seq (.seq (JZ (JZ (Xc f97))) (Xf (JZ (Xc f97)))) (.seq (JZ (Xf (Xc f97))) (Xf (Xf (Xc f97))))from by kernel_rfl]
 have hS0:=ic (N:=36) (args:=[.func (.yield l) #[] #[],.pointer (some ⟨y,0,none⟩)]) (Lr rfl) W
 have hfin:∀a':Act,a'.defers=[]→∀W',((∃xs,xs=(XN l1 l2 ct Ua Uc).attach∧J xs W')∨(∃pre,True∧Jx pre W'))→a'.defers=[]∧∃v,(results f97 a'.tmps).run prog W'=.ok v W'∧(∃v',Ending.returned v=.returned v')∧((∃xs,xs=(XN l1 l2 ct Ua Uc).attach∧J xs W')∨(∃pre,True∧Jx pre W')):=fun a' hd W' h=>⟨hd,_,results_none (by kernel_rfl) _ _ _,⟨_,rfl⟩,h⟩
 refine(wpIn_wide (n:=8)).1 (wpIn_seq (wpIn_seq (Fd Qk mixed (oz (l:=l) hl1 hl2 W h1 h2 h3) hS0 fun σ2 _ r2 a2 w2 hp hS2=>?_)))
 obtain⟨⟨A,cp⟩,hφ,hS3⟩:=GD hp hS2
 have hb2:=hS2.see.low
 have hrow:RdK w2 A ([l1,l2].flatMap fun l=>l).length 2 (fun j=>QO (List.getD ([l1,l2].flatMap fun l=>l) j Qo)):=AD QH Qo hφ
 refine Ea Qk mixed (c:=Xf (JZ (Xc f97))) (by kernel_rfl) (τ:=fun k=>(⟨36,[(0,.val (.func (.yield l) #[] #[])),(1,.val (.pointer (some ⟨y,0,none⟩))),(12,lV A ([l1,l2].flatMap fun l=>l).length cp),(13,iV ((([l1,l2].flatMap fun l=>l).length:Nat):Int)),(14,iV (k:Int))],[],[]⟩:St)) (fun k=>⟨rfl,rfl⟩) (l:=l) (m:=0) (n:=([l1,l2].flatMap fun l=>l).length) (xs:=(XN l1 l2 ct Ua Uc)) (enc:=fun x=>.agg #[.int .i64 x.1.vars,.slice x.2.1 x.1.ts.length x.2.2]) Qo (by omega)
  (F:=fun V=>RdK V A ([l1,l2].flatMap fun l=>l).length 2 (fun j=>QO (List.getD ([l1,l2].flatMap fun l=>l) j Qo))∧Bx V y 35 #[.int .i64 kind,.int .i64 vars,vb,vs,.slice Ap l1.length kp,.slice Ar l2.length kr,.bool eps.b,.string eps.s,.int .i64 eps.e,.bool delta.b,.string delta.s,.int .i64 delta.e,.int .i64 budget,.slice Ac ct.length cc]∧RdK V Ac ct.length 6 (IV ct Ua Uc)) (fun V V' h hk=>⟨F7 (fun _=>rfl) h.1 hk,hk.bx h.2.1,F7 (fun _=>rfl) h.2.2 hk⟩)
  (ci:=2) (dst:=20) (o:=kZ (Xf (JZ (Xc f97))) 2) (by kernel_rfl) (f:=.tmp 18) (args:=[.tmp 19]) (by kernel_rfl) (by kernel_rfl) (fun k=>rfl) (by kernel_rfl)
  (fun k V _ _=>⟨_,mb k V⟩) (fun k V hk hF=>⟨_,by rw[Ld,gQ hk];exact nt k hk V hF.1⟩) (fun k V b _=>⟨_,mC k b V⟩) (fun k V hk=>⟨_,nn k (by omega) V⟩)
  hJ hJx (fun pre x W1 h hl=>hY pre x W1 h hl) hS3 ⟨hrow,h1.later hb2,h4.below (fun _=>rfl) hb2⟩ (XX hJ hb2 h0) (fun a' W' k1 k2 k3=>?_) (fun a' W' pre k1 k2=>hfin a' k2 W' (.inr ⟨pre,trivial,k1⟩))
 refine wpIn_seq (Fd Qk mixed (oZ W' k2.2.1) k1 fun σ5 _ r5 a5 w5 hp5 hS5=>?_)
 have hS6:=(Ya (w0:=W') hp5).2 _ _ _ hS5
 have hb5:=hS5.see.low
 have hC5:RdK w5 Ac ct.length 6 (IV ct Ua Uc):=k2.2.2.below (fun _=>rfl) hb5
 rw[Ld]at k3
 refine Ea Qk mixed (c:=Xf (Xf (Xc f97))) (by kernel_rfl) (τ:=fun k=>(⟨36,[(0,.val (.func (.yield l) #[] #[])),(24,lV Ac ct.length cc),(25,iV (ct.length:Int)),(26,iV (k:Int))],[],[]⟩:St)) (fun k=>⟨rfl,rfl⟩) (l:=l) (m:=([l1,l2].flatMap fun l=>l).length) (n:=ct.length) (xs:=(XN l1 l2 ct Ua Uc)) (enc:=fun x=>.agg #[.int .i64 x.1.vars,.slice x.2.1 x.1.ts.length x.2.2]) Qo (by omega)
  (F:=fun V=>RdK V Ac ct.length 6 (IV ct Ua Uc)) (fun V V' h hk=>F7 (fun _=>rfl) h hk)
  (ci:=3) (dst:=33) (o:=kZ (Xf (Xf (Xc f97))) 3) (by kernel_rfl) (f:=.tmp 30) (args:=[.tmp 32]) (by kernel_rfl) (by kernel_rfl) (fun k=>rfl) (by kernel_rfl)
  (fun k V _ _=>⟨_,na k V⟩) (fun k V hk hF=>⟨_,by rw[jb hk];exact mO k hk V hF⟩) (fun k V b _=>⟨_,m5 k b V⟩) (fun k V hk=>⟨_,nL k (by omega) V⟩)
  hJ hJx (fun pre x W1 h hl=>hY pre x W1 h hl) hS6 hC5 (XX hJ hb5 k3) (fun a' W' k1 k2 k3=>?_) (fun a' W' pre k1 k2=>hfin a' k2 W' (.inr ⟨pre,trivial,k1⟩))
 refine hfin a' k1.defers W' (.inl ⟨_,rfl,?_⟩)
 rw[Rh (by rw[List.length_attach];omega)]at k3
 exact k3
def GT(x:PV): List Py:=(x.ps++x.rules)++x.cert.map (·.sum)
def KO(l1 l2:List Xl)(ct:List Nd)(Ua:Nat→Option Addr)(Uc:Nat→Nat): List Xl:=(l1++l2)++Yh ct Ua Uc
theorem Cn(l1 l2:List Xl)(ct:List Nd)(Ua:Nat→Option Addr)(Uc:Nat→Nat): XN l1 l2 ct Ua Uc=KO l1 l2 ct Ua Uc:=by simp[XN,KO]
def KG(l:List Py)(U:Nat→Option Addr)(u:Nat→Nat): List Xl:=(List.range l.length).map fun j=>(QC l j,U j,u j)
theorem XF(l:List Py)(U:Nat→Option Addr)(u:Nat→Nat): (KG l U u).length=l.length:=by simp[KG]
theorem dv{l:List Py}{U:Nat→Option Addr}{u:Nat→Nat}{j:Nat}(h:j<l.length): (KG l U u).getD j Qo=(QC l j,U j,u j):=by
 rw[Xg (by rw[XF];exact h)];simp[KG]
theorem AK(l:List Py)(U:Nat→Option Addr)(u:Nat→Nat): (KG l U u).map (fun x:Xl=>x.1)=l:=by
 apply List.ext_getElem?
 intro j
 unfold KG
 by_cases hj:j<l.length
 ·rw[List.map_map,List.getElem?_map,List.getElem?_range hj,List.getElem?_eq_getElem hj]
  show some (QC l j)=_
  unfold QC
  rw[Xg hj]
 ·rw[List.getElem?_eq_none (by simp;omega),List.getElem?_eq_none (by omega)]
theorem K8{A A':Option Addr}{n n' c c':Nat}(h:(.slice A n c:Value)=.slice A' n' c'): A=A'∧n=n'∧c=c':=by
 injection h with h1 h2 h3
 exact⟨h1,h2,h3⟩
structure RowsH (lo:Nat) (w:World) (x:PV) (Ab As Ap Ar Ac:Option Addr) (cb cs kp kr cc:Nat) (Us Up Ur Uc:Nat→Option Addr) (us up ur uc:Nat→Nat):Prop where
 b:RdK w Ab x.box.length 6 (fun j=>YH (Qw x.box j))
 s:RdK w As x.pts.length 1 (eF x.pts Us us)
 sp:∀j,j<x.pts.length→SlV lo 3 Jm w (Qe x.pts j) (.slice (Us j) (Qe x.pts j).length (us j))
 q:RdK w Ap x.ps.length 2 (l5 x.ps Up up)
 qn:Ap=none→x.ps.length=0∧kp=0
 qs:∀j,j<x.ps.length→SlV lo 4 Zl w (QC x.ps j).ts (.slice (Up j) (QC x.ps j).ts.length (up j))
 r:RdK w Ar x.rules.length 2 (l5 x.rules Ur ur)
 rn:Ar=none→x.rules.length=0∧kr=0
 rs:∀j,j<x.rules.length→SlV lo 4 Zl w (QC x.rules j).ts (.slice (Ur j) (QC x.rules j).ts.length (ur j))
 c:RdK w Ac x.cert.length 6 (IV x.cert Uc uc)
 cn:∀j,j<x.cert.length→SlV lo 4 Zl w (Qc x.cert j).sum.ts (.slice (Uc j) (Qc x.cert j).sum.ts.length (uc j))
theorem Bn{lo:Nat}{w:World}{x:PV}{vp vr vc:Value}(h:Five lo w x vb vs vp vr vc): ∃Ab As Ap Ar Ac cb cs kp kr cc Us Up Ur Uc us up ur uc,vb=.slice Ab x.box.length cb∧vs=.slice As x.pts.length cs∧vp=.slice Ap x.ps.length kp∧vr=.slice Ar x.rules.length kr∧vc=.slice Ac x.cert.length cc∧RowsH lo w x Ab As Ap Ar Ac cb cs kp kr cc Us Up Ur Uc us up ur uc:=by
 obtain⟨fb,fs,fp,fr,fc⟩:=h
 obtain⟨Ab,cb,e1,_,_,hB⟩:=SlV.enc (nm0,nm0) fb
 obtain⟨As,cs,Us,us,e2,_,_,hS,hP⟩:=SlV.rdPt2 fs
 obtain⟨Ap,kp,Up,up,e3,_,np,hQ,hQs⟩:=SlV.rdPy2 fp
 obtain⟨Ar,kr,Ur,ur,e4,_,nr,hU,hUs⟩:=SlV.rdPy2 fr
 obtain⟨Ac,cc,Uc,uc,e5,_,_,hC,hN⟩:=SlV.rdNd2 fc
 exact⟨Ab,As,Ap,Ar,Ac,cb,cs,kp,kr,cc,Us,Up,Ur,Uc,us,up,ur,uc,e1,e2,e3,e4,e5,hB,hS,hP,hQ,np,hQs,hU,nr,hUs,hC,hN⟩
theorem eM{lo:Nat}{w:World}{l:List Tm}{A:Option Addr}{c:Nat}(h:SlV lo 4 Zl w l (.slice A l.length c)): RdK w A l.length 4 (fun j=>Q7 (Qf l j)):=by
 obtain⟨A',c',e,_,_,hr⟩:=SlV.enc GS h
 obtain⟨rfl,_,rfl⟩:=K8 e
 exact hr
section
variable {lo:Nat} {w:World} {x:PV} {Ab As Ap Ar Ac:Option Addr} {cb cs kp kr cc:Nat} {Us Up Ur Uc:Nat→Option Addr} {us up ur uc:Nat→Nat} (h:RowsH lo w x Ab As Ap Ar Ac cb cs kp kr cc Us Up Ur Uc us up ur uc)
include h
theorem RowsH.below{w':World}(hW:Below w.heap.size w w'): RowsH lo w' x Ab As Ap Ar Ac cb cs kp kr cc Us Up Ur Uc us up ur uc :=
 ⟨h.b.below (fun _=>rfl) hW,h.s.below (fun _=>rfl) hW,fun j hj=>(h.sp j hj).below Xx hW,h.q.below (fun _=>rfl) hW,h.qn,fun j hj=>(h.qs j hj).below Xo hW,h.r.below (fun _=>rfl) hW,h.rn,fun j hj=>(h.rs j hj).below Xo hW,h.c.below (fun _=>rfl) hW,fun j hj=>(h.cn j hj).below Xo hW⟩
theorem RowsH.q1:RdK w Ap (KG x.ps Up up).length 2 (fun i=>QO ((KG x.ps Up up).getD i Qo))∧(Ap=none→(KG x.ps Up up).length=0∧kp=0):=by
 rw[XF]
 exact⟨h.q.congr fun j hj=>by rw[dv hj];rfl,h.qn⟩
theorem RowsH.r1:RdK w Ar (KG x.rules Ur ur).length 2 (fun i=>QO ((KG x.rules Ur ur).getD i Qo))∧(Ar=none→(KG x.rules Ur ur).length=0∧kr=0):=by
 rw[XF]
 exact⟨h.r.congr fun j hj=>by rw[dv hj];rfl,h.rn⟩
theorem RowsH.X(y:Xl)(hy:y∈KO (KG x.ps Up up) (KG x.rules Ur ur) x.cert Uc uc): RdK w y.2.1 y.1.ts.length 4 (fun j=>Q7 (Qf y.1.ts j)):=by
 unfold KO at hy
 simp only[Rj]at hy
 rcases hy with(hy|hy)|hy
 ·obtain⟨j,hj,rfl⟩:=R5.1 hy
  exact eM (h.qs j (Lm.1 hj))
 ·obtain⟨j,hj,rfl⟩:=R5.1 hy
  exact eM (h.rs j (Lm.1 hj))
 ·obtain⟨j,hj,rfl⟩:=R5.1 hy
  exact eM (h.cn j (Lm.1 hj))
omit h in
theorem Ef:(KO (KG x.ps Up up) (KG x.rules Ur ur) x.cert Uc uc).map (fun x:Xl=>x.1)=GT x:=by
 unfold KO GT
 rw[Sj,Sj,AK,AK]
 congr 1
 unfold Yh
 rw[List.map_map]
 apply List.ext_getElem?
 intro j
 by_cases hj:j<x.cert.length
 ·rw[List.getElem?_map,List.getElem?_range hj,List.getElem?_map,List.getElem?_eq_getElem hj]
  show some (Qc x.cert j).sum=_
  unfold Qc
  rw[Xg hj]
  rfl
 ·rw[List.getElem?_eq_none (by simp;omega),List.getElem?_eq_none (by simp;omega)]
end
