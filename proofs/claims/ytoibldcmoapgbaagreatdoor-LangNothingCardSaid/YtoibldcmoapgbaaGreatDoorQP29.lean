/- Laws beneath the statement. -/
import Derived.Test.YtoibldcmoapgbaaGreatDoorQP28
import Derived.Shelf.Strings.SlTrimAscii
namespace Go.Proofs.YtoibldcmoapgbaaGreatDoor
open Tryz
set_option maxRecDepth 100000
open Go Go.RowKit
variable{xs:List Value}{R:Except Int (List Nm×FD)}{l:List Tm}{t e:TypeId}{vars δ ζ:Int}{ν ε:Nm}{bx:List (Nm×Nm)}{κ:List (List Nm)}{ct:List Nd}{ps θ:List Py}{ll:List (List AK)}{l1 l2:List AK}{vb vs vp vr vc:Value}{m:ByteArray}
def d10:u4:=⟨#[48,49,50,51,52,53,54,55,56,57]⟩
def Aq(s:u4): u4:=⟨(Lib.trimS s.data.toList d10.data.toList).toArray⟩
theorem wE{s:u4}(c:s.size<=4000)(W:y9): RetAt prog W 110 #[.string s,.string d10] (.string (Aq s)):=⟨λa w=>call110 a w,λb _ =>
 (Any.strings_Trim_laid Tryz.lays160 x5 s d10 b x3 x4 (ascii_of_all x4)).mono λ_ _ h=>h⟩
theorem bb(c:UInt8): d10.data.toList.contains c=(decide (c.toNat>=48)&&decide (c.toNat<=57)):=by
 have h:∀n:Fin 256,d10.data.toList.contains (UInt8.ofNat n.val)=(decide ((UInt8.ofNat n.val).toNat>=48)&&decide ((UInt8.ofNat n.val).toNat<=57)):=by decide +kernel
 have:=h ⟨c.toNat,c.toNat_lt⟩;simpa using this
theorem drop_all{p:UInt8->Bool}: ∀ {l:List UInt8},(l.dropWhile p=[])↔l.all p=true
 | []=>x6
 | c::l=>by
  rw[List.dropWhile_cons,List.all_cons];cases p c
  ·simp
  ·simpa using drop_all (l:=l)
theorem TG(l cs:List UInt8): (Lib.trimS l cs=[])↔l.all (cs.contains ·)=true:=by
 unfold Lib.trimS Lib.trimLeftS Lib.trimRightS;rw[drop_all];constructor
 ·intro h;have b:∀c,c∈(l.reverse.dropWhile (cs.contains ·))->cs.contains c=true:=λc d=>Lc.1 h c (y8 d)
  have f:l.reverse.dropWhile (cs.contains ·)=[]:=by
   cases e:l.reverse.dropWhile (cs.contains ·)with
   | nil=>rfl
   | cons c r =>
    have a:=List.head_dropWhile_not (p:=λc=>cs.contains c) (l:=l.reverse) (by rw[e];simp);rw[b _ (List.head_mem _)]at a;cases a
  have a:=drop_all.1 f;rwa [List.all_reverse]at a
 ·intro h;rw[drop_all.2 (by rwa [List.all_reverse])];rfl
theorem Ax(s:u4): F7 s=((decide (Aq s=⟨#[]⟩)&&decide ((s.size:Int)<=9))&&(((bt s 0:Int) != 48)||((s.size:Int)==1))):=by
 unfold F7;congr 2;have h:(Aq s=⟨#[]⟩)↔(Lib.trimS s.data.toList d10.data.toList=[]):=by
  unfold Aq;constructor
  ·intro h;injection h with h
   simpa using h
  ·intro h;rw[h]
 have a:(λc=>d10.data.toList.contains c)=λc:UInt8=>decide (c.toNat>=48)&&decide (c.toNat<=57):=funext bb
 rw[Bool.eq_iff_iff,decide_eq_true_iff,h,TG,a]
theorem F9:∀(l:List UInt8) (n:Nat),l.all (λc=>decide (c.toNat>=48)&&decide (c.toNat<=57))=true->∃m:Nat,Lib.decFrom n l=some m/\l.foldl (λ(n:Int) c=>n*10+((c.toNat:Int)-48)) (n:Int)=(m:Int)
 | [],n,_=>⟨n,rfl,rfl⟩
 | c::l,n,h=>by
  rw[List.all_cons,Lu]at h;obtain⟨a,b⟩:=h;rw[Lu,decide_eq_true_iff,decide_eq_true_iff]at a;have d:Lib.digitVal c=some (c.toNat-48):=by
   have key:∀k:Fin 256,48<=(UInt8.ofNat k.val).toNat->(UInt8.ofNat k.val).toNat<=57->Lib.digitVal (UInt8.ofNat k.val)=some ((UInt8.ofNat k.val).toNat-48):=by decide +kernel
   have:=key ⟨c.toNat,c.toNat_lt⟩ (y8 a.1) (y8 a.2);simpa using this
  obtain⟨m,e,f⟩:=F9 l (n*10+(c.toNat-48)) b;refine⟨m,by simp only[Lib.decFrom,d];exact e,?_⟩;rw[List.foldl_cons,<- f];congr 1;omega
theorem gW{s:u4}(p:0<s.size)(d:Aq s=⟨#[]⟩)(q:(s.size:Int)<=9)(W:y9): RetAt prog W 111 #[.string s] (.tuple #[.int .i64 (Xf s),.nilIface]):=⟨λa w=>call111 a w,λj _=>by
 have b:s.data.toList.all (λc=>decide (c.toNat>=48)&&decide (c.toNat<=57))=true:=by
  have f:Lib.trimS s.data.toList d10.data.toList=[]:=by
   unfold Aq at d;injection d with d
   simpa using d
  have g:=(TG _ _).1 f;rwa [show(λc=>d10.data.toList.contains c)=λc:UInt8=>decide (c.toNat>=48)&&decide (c.toNat<=57)from funext bb]at g
 obtain⟨m,f,g⟩:=F9 s.data.toList 0 b;have h:Lib.atoi s.data.toList=some (Xf s):=by
  unfold Xf;rw[show(0:Int)=((0:Nat):Int)from rfl,g];have i:s.data.toList≠[]:=λe=>by
   have:s.data.toList.length=s.size:=x6;rw[e]at this;simp at this;omega
  cases e:s.data.toList with
  | nil=>exact absurd e i
  | cons c l =>
   rw[e]at b f;rw[List.all_cons,Lu,Lu,decide_eq_true_iff,decide_eq_true_iff]at b;have k:(c==45)=false:=R7.2 λe=>by rw[e]at b;exact absurd b.1.1 x4
   have n:(c==43)=false:=R7.2 λe=>by rw[e]at b;exact absurd b.1.1 x4
   unfold Lib.atoi;simp only[k,n,Tp,if_false];unfold Lib.decNat;simp[f]
 refine(Tryz.strconv_Atoi s (Xf s) x3 h j).mono λe r o=>?_
 obtain⟨rfl,t,rfl⟩:=o;exact⟨rfl,Lib.bytesWorld_below _ _ _⟩⟩
abbrev HDa(s:χ):z0:=.int .i64 ((Qf s.l 0).a)
abbrev HDb(b:Int)(s:χ):=(QL b) s.fd=.ok (Xf (Qf s.l 0).s,s.nx.fd)
abbrev HDc(s:χ):=XN s.fd=.ok ((Qf s.l 0),s.nx.fd)
abbrev HDd(s:χ):=Xf (Qf s.l 0).s
def HDe(s:χ):List Dir:=[.o 1 1 (.set (.iface 103 (HDa s)))]
theorem Fq(xs:a8)(g:Nat)(M:Res)(s:χ)(k:s.In M)(b:Int)(W:y9): zQ W g xs M s 72 #[x02 g,Θ b] (QL b) (Xf (Qf s.l 0).s) s.nx (Θ (Xf (Qf s.l 0).s)) :=
 Gb Qu QR (λa w=>call72 a w) func72 ntmps72 results72 _ rfl _ _ _ _ [.fx 1 1 0 (λ(c:PLift (HDc s))=>.agg #[Ψ ((Qf s.l 0).s),Θ ((Qf s.l 0).a)]) (λ(c:PLift (HDc s))=>Qh g 69 (χ.cs s.nx xs) M) (Xl XN s) (λ(c:PLift (HDc s))=>[.o 2 2 (.ret (sV (Aq (Qf s.l 0).s))),.o 2 3 (.set (Ξ (decide ((Aq (Qf s.l 0).s)=⟨#[]⟩)))),.gb 2 5 [.gb 2 11 [.o 2 13 (.set (.int .u8 (bt (Qf s.l 0).s 0:Int))),.gb 2 16 [.inl 3 3 f73,.both (HDe s) [.o 4 2 (.ret (.tup [iV (HDd s),.val (.nilIface)])),.inl 5 5 f73,.both (HDe s) []]] [.inl 3 3 f73,.o 4 2 (.ret (.tup [iV (HDd s),.val (.nilIface)])),.inl 5 5 f73,.both (HDe s) []]] [.inl 3 3 f73,.o 1 1 (.set (.iface 103 (HDa s)))]] [.inl 3 3 f73,.o 1 1 (.set (.iface 103 (HDa s)))]])] (λF=>ai (WG g M s xs k W)<|ai (λ(c:PLift (HDc s))=>X7 (wE (s:=(Qf s.l 0).s) (s7 k.f.l c.down) W) (FP W (.tmp 13) (.const (x00)) (Aq (Qf s.l 0).s) ⟨#[]⟩)<|ZG (decide ((Aq (Qf s.l 0).s)=⟨#[]⟩)) true (λd=>ZG (decide ((((Qf s.l 0).s).size:Int)<=9)) true (λe=>ai (UJ W (Qf s.l 0).s 0 (au k.f.l c.down))<|ZG ((bt (Qf s.l 0).s 0:Int) != 48) false (λj=>X7 func73 (λa w=>call73 a w)<|XA (!((((Qf s.l 0).s).size:Int)==1)) (λm=>ai (Kc W (HDa s))<|(J8 F (.iface 103 (HDa s)) (Xl (QL b) s) (show Xl (QL b) s (.iface 103 (Θ ((Qf s.l 0).a)))from⟨_,(Qv c.down).trans (Q3 (Co (by rw[Ax,d,e,j,nt m];rfl))),rfl⟩))) λm=>JH (gW (s:=(Qf s.l 0).s) (au k.f.l c.down) (L1 d) (L1 e) W) func73 (λa w=>call73 a w)<|XA (!(decide ((Xf (Qf s.l 0).s)<=b))) (λi=>ai (Kc W (HDa s))<|(J8 F (.iface 103 (HDa s)) (Xl (QL b) s) (show Xl (QL b) s (.iface 103 (Θ ((Qf s.l 0).a)))from⟨_,(Qv c.down).trans ((Qv (Cp (by rw[Ax,d,e,j,nf m];rfl))).trans (Q3 (Co (nt i)))),rfl⟩))) λi=>(Zs (F:=F) (v:=Θ (HDd s)) (val:=λ_:PLift (HDb b s)=>Θ (HDd s)) (R1:=Qh g 69 (χ.cs s.nx xs) M) (R:=λ_:PLift (HDb b s)=>Qh g 69 (χ.cs s.nx xs) M) ⟨(Qv c.down).trans ((Qv (Cp (by rw[Ax,d,e,j,nf m];rfl))).trans (Qv (Cp (nf i))))⟩ rfl λ_ _ _ h=>h)) λj=>Kr func73 (λa w=>call73 a w) (gW (s:=(Qf s.l 0).s) (au k.f.l c.down) (L1 d) (L1 e) W) func73 (λa w=>call73 a w)<|XA (!(decide ((Xf (Qf s.l 0).s)<=b))) (λi=>ai (Kc W (HDa s))<|(J8 F (.iface 103 (HDa s)) (Xl (QL b) s) (show Xl (QL b) s (.iface 103 (Θ ((Qf s.l 0).a)))from⟨_,(Qv c.down).trans ((Qv (Cp (by rw[Ax,d,e,j];rfl))).trans (Q3 (Co (nt i)))),rfl⟩))) λi=>(Zs (F:=F) (v:=Θ (HDd s)) (val:=λ_:PLift (HDb b s)=>Θ (HDd s)) (R1:=Qh g 69 (χ.cs s.nx xs) M) (R:=λ_:PLift (HDb b s)=>Qh g 69 (χ.cs s.nx xs) M) ⟨(Qv c.down).trans ((Qv (Cp (by rw[Ax,d,e,j];rfl))).trans (Qv (Cp (nf i))))⟩ rfl λ_ _ _ h=>h)) λe=>JH func73 (λa w=>call73 a w) (Kc W (HDa s))<|(J8 F (.iface 103 (HDa s)) (Xl (QL b) s) (show Xl (QL b) s (.iface 103 (Θ ((Qf s.l 0).a)))from⟨_,(Qv c.down).trans (Q3 (Co (by rw[Ax,d,e];rfl))),rfl⟩))) λd=>JH func73 (λa w=>call73 a w) (Kc W (HDa s))<|(J8 F (.iface 103 (HDa s)) (Xl (QL b) s) (show Xl (QL b) s (.iface 103 (Θ ((Qf s.l 0).a)))from⟨_,(Qv c.down).trans (Q3 (Co (by rw[Ax,d];rfl))),rfl⟩))) (X9 F (Xl XN s) (Xl (QL b) s) λ_ h=>h.imp λ_ h=>⟨Q3 h.1,h.2⟩)) λF=>x5
def Xb(s:χ)(k:Nat): List Nm:=(List.range k).map λj=>QS (χ.nxs j s)
theorem VB(s:χ)(k:Nat): (Xb s k).length=k:=by simp[Xb]
theorem Ir(s:χ)(k:Nat): Xb s k++[QS (χ.nxs k s)]=Xb s (k+1):=by simp[Xb,Td]
theorem uY{n k:Nat}{l:List Nm}{a:Nm}{t b:FD}(h:k<n)(e:R=XQ (n-k) l t)(c:XP t=.ok (a,b)): R=XQ (n-(k+1)) (l++[a]) b:=by
 rw[show n-k=(n-(k+1))+1 by omega]at e;exact e.trans (Qv c)
theorem uX{n k:Nat}{l:List Nm}{t:FD}{z:Int}(h:k<n)(e:R=XQ (n-k) l t)(a:XP t=.error z): R=.error z:=by
 rw[show n-k=(n-(k+1))+1 by omega]at e;exact e.trans (Q3 a)
theorem QM{k n:Nat}(h:decide ((k:Int)<(n:Int))=true): k<n:=y6 (L1 h)
theorem K8{k n:Nat}(h:decide ((k:Int)<(n:Int))=false): n<=k:=y6 (L7 h)
abbrev HDf(q1:Nat×Hp)(s:χ):=XP (χ.nxs q1.1 s).fd=.ok ((QS (χ.nxs q1.1 s)),(χ.nxs (q1.1+1) s).fd)
abbrev HDg:Nat×Hp:=(0,(none,0))
theorem Ep(xs:a8)(g:Nat)(M:Res)(s:χ)(n:Nat)(p:s.In M)(r:n<=1000)(W:y9)(q:Q0 W): FxF prog W (Qh g 69 (χ.cs s xs) M) 112 #[x02 g,Θ (n:Int)] (λy:{y:Hp // (XQ n []) s.fd=.ok (Xb s n,(χ.nxs n s).fd)}=>Ω y.1.1 (Xb s n).length y.1.2) (λy:{y:Hp // (XQ n []) s.fd=.ok (Xb s n,(χ.nxs n s).fd)}=>Qh g 69 (χ.cs (χ.nxs n s) xs) (Qk M (Qc 32 3 YB (Xb s n) y.1.1 y.1.2))) (Xl (XQ n []) s) :=
 Gb Qu QR (λa w=>call112 a w) func112 ntmps112 results112 _ rfl _ _ _ _ [.nil 2 0 32 3 YB,.lop (λ(q1:Nat×Hp)=>(⟨16,[(0,.val (x02 g)),(5,lV q1.2.1 (Xb s q1.1).length q1.2.2),(6,iV (n:Int)),(7,iV (q1.1:Int))],[],[some (Qh g 69 (χ.cs (χ.nxs q1.1 s) xs) M),none,some (Qc 32 3 YB (Xb s q1.1) q1.2.1 q1.2.2)]⟩:St)) (λ(q1:Nat×Hp)=>(q1.1<=n/\XQ n [] s.fd=XQ (n-q1.1) (Xb s q1.1) (χ.nxs q1.1 s).fd)) (λ(q1:Nat×Hp)=>(n-q1.1)) (HDg:Nat×Hp) (λ(q1:Nat×Hp) (u:List Hp)=>(q1.1+1,u.headD (none,0))) (λ(q1:Nat×Hp)=>[.both [.fx 4 2 0 (λ(j:PLift (HDf q1 s))=>nA (QS (χ.nxs q1.1 s))) (λ(j:PLift (HDf q1 s))=>Qh g 69 (χ.cs (χ.nxs (q1.1+1) s) xs) M) (Xl XP (χ.nxs q1.1 s)) (λ(j:PLift (HDf q1 s))=>[.eff 4 4 2 (λ(d:Hp)=>Ω d.1 (Xb s (q1.1+1)).length d.2) (λ(d:Hp)=>Qc 32 3 YB (Xb s (q1.1+1)) d.1 d.2) (λ(d:Hp)=>[.o 5 0 (.eq (iV ((q1.1+1:Nat):Int))),.nxt [d]])])] [.join 6 0 0 2]])] (λF=>DM (qV (x02 g)) (qV (Ω HDg.2.1 (Xb s HDg.1).length HDg.2.2)) (qI (n:Int)) (qI ((HDg.1:Nat):Int)) (Zo (Qh g 69 (χ.cs s xs) M) (Qh g 69 (χ.cs (χ.nxs HDg.1 s) xs) M) λ_ _ _ h=>h) (Yu F) (Zo (Qc 32 3 YB ([]:List Nm) none 0) (Qc 32 3 YB (Xb s HDg.1) (HDg.2.1) (HDg.2.2)) λ_ _ _ h=>h)<|ai (show 0<=n/\XQ n [] s.fd=XQ (n-0) (Xb s 0) (χ.nxs 0 s).fd from⟨La _,rfl⟩) λ(q1:Nat×Hp) (i:(q1.1<=n/\XQ n [] s.fd=XQ (n-q1.1) (Xb s q1.1) (χ.nxs q1.1 s).fd))=>XA (decide ((q1.1:Int)<(n:Int))) (λf=>ai (D9 g M (χ.nxs q1.1 s) xs (p.nxs q1.1) W q)<|ai (λ(j:PLift (HDf q1 s))=>ai (Yj (w0:=W) (ty:=48) (c:=YB) (l:=Xb s q1.1) (l2:=[QS (χ.nxs q1.1 s)]) (l':=Xb s (q1.1+1)) (A:=q1.2.1) (cp:=q1.2.2) (bt:=32) (m:=1) (cp2:=1) (cs:=[Ξ ((QS (χ.nxs q1.1 s)).b),Ψ ((QS (χ.nxs q1.1 s)).s),Θ ((QS (χ.nxs q1.1 s)).e)]) Vq ZE Ct (Ir s q1.1) (show(Xb s (q1.1+1)).length*32<=140737488355328 from by rw[VB];have:=QM f;omega) rfl rfl) λ(d:Hp)=>Zb (QQ q1.1 (y6 (QM f))) (qV (x02 g)) (qV (Ω d.1 (Xb s (q1.1+1)).length d.2)) (qI (n:Int)) (qI (((q1.1+1):Nat):Int)) (Zo (Qh g 69 (χ.cs (χ.nxs (q1.1+1) s) xs) M) (Qh g 69 (χ.cs (χ.nxs (q1.1+1) s) xs) M) λ_ _ _ h=>h) (Yu F) (Zo (Qc 32 3 YB (Xb s (q1.1+1)) d.1 d.2) (Qc 32 3 YB (Xb s (q1.1+1)) d.1 d.2) λ_ _ _ h=>h)<|ai (show(q1.1+1<=n/\XQ n [] s.fd=XQ (n-(q1.1+1)) (Xb s (q1.1+1)) (χ.nxs (q1.1+1) s).fd)from⟨QM f,by have h:=uY (QM f) i.2 j.down;rwa [Ir]at h⟩) (show n-(q1.1+1)<n-q1.1 from y6 (QM f))) (X9 F (Xl XP (χ.nxs q1.1 s)) (Xl (XQ n []) s) λ_ h=>h.imp λ_ h=>⟨uX (QM f) i.2 h.1,h.2⟩)) λf=>(Zs (F:=F) (v:=Ω q1.2.1 (Xb s q1.1).length q1.2.2) (val:=λy:{y:Hp // (XQ n []) s.fd=.ok (Xb s n,(χ.nxs n s).fd)}=>Ω y.1.1 (Xb s n).length y.1.2) (R1:=Qk (Qh g 69 (χ.cs (χ.nxs q1.1 s) xs) M) (Qc 32 3 YB (Xb s q1.1) q1.2.1 q1.2.2)) (R:=λy:{y:Hp // (XQ n []) s.fd=.ok (Xb s n,(χ.nxs n s).fd)}=>Qh g 69 (χ.cs (χ.nxs n s) xs) (Qk M (Qc 32 3 YB (Xb s n) y.1.1 y.1.2))) ⟨q1.2,by have h:=i.2;rw[(show q1.1=n from Rb i.1 (K8 f)),U1]at h;exact h⟩ (Ly (λk=>Ω q1.2.1 (Xb s k).length q1.2.2) (show q1.1=n from Rb i.1 (K8 f))) λ_ _ _ h=>by have h:=KL BV h;rw[(show q1.1=n from Rb i.1 (K8 f))]at h;exact h)) λF=>x5
theorem ks(y:Dyadic): nv (ni y)=y:=by
 show dy (Qi (neg (dm y)) (Qa (Qx (dm y)))) (de y)=y;rw[Xg,Mz]
def fN(k:Nat)(x:Nm): Prop:=∃y:Dyadic,x=ni y/\DB 32768 (64768+k) y
theorem fN.up{k j:Nat}{x:Nm}(h:fN k x)(c:k<=j): fN j x:=by
 obtain⟨y,a,b⟩:=h;exact⟨y,a,EO b (L8 _) x3⟩
theorem fN.db{k:Nat}{x:Nm}(h:fN k x): DB 32768 (64768+k) (nv x):=by
 obtain⟨y,rfl,a⟩:=h;rw[ks];exact a
theorem fN.ok{k:Nat}{x:Nm}(h:fN k x)(b:k<=5000): okN x:=by
 obtain⟨y,rfl,a⟩:=h;obtain⟨c,d,_⟩:=V4 a;have e:=Ft a;exact⟨by show(Qx (dm y)).size<=16384;omega,by show -70000<=de y;omega,by show de y<=70000;omega⟩
theorem fN.nd{k:Nat}{x:Nm}(h:fN k x)(c:k<=5000): ND x.b x.s x.e (nv x):=by
 obtain⟨y,rfl,a⟩:=h;rw[ks];exact RD a x3
theorem fN.form{k:Nat}{x:Nm}(h:fN k x): ni (nv x)=x:=by
 obtain⟨y,rfl,a⟩:=h;rw[ks]
theorem fN.add{k j m:Nat}{x y:Nm}(a:fN k x)(b:fN j y)(c:k<m)(d:j<m): fN m (ni (nv x+nv y)) :=
 ⟨_,rfl,EO (iC (EO (T':=64768+(m-1)) a.db (L8 _) x3) (EO (T':=64768+(m-1)) b.db (L8 _) x3)) (L8 _) x3⟩
def fT(n k:Nat)(t:Tm): Prop:=t.m.size=n/\fN k t.c
theorem fT.up{n k j:Nat}{t:Tm}(h:fT n k t)(a:k<=j): fT n j t:=⟨h.1,h.2.up a⟩
theorem Og{n k j m:Nat}(l:k<m)(o:j<m): ∀(f:Nat) (a b:List Tm),(∀t,t∈a->fT n k t)->(∀t,t∈b->fT n j t)->∀t,t∈VZ f a b->fT n m t
 | 0,a,b,d,e,t,c=>by
  rcases Rs.1 c with h|h
  ·exact(d t h).up x3
  ·exact(e t h).up x3
 | f+1,[],b,_,e,t,c=>(e t c).up x3
 | f+1,x::a,[],d,_,t,c=>(d t c).up x3
 | f+1,x::a,y::b,d,e,t,c=>by
  have g:∀t,t∈a->fT n k t:=λt h=>d t (by simp[h])
  have i:∀t,t∈b->fT n j t:=λt h=>e t (by simp[h])
  unfold VZ at c;cases p:Ao x.m y.m with
  | true =>
   rw[p]at c;rcases Ll.1 c with rfl|c
   ·exact(d t x6).up x3
   ·exact Og l o f a (y::b) g e t c
  | false =>
   cases q:Ao y.m x.m with
   | true =>
    rw[p,q]at c;rcases Ll.1 c with rfl|c
    ·exact(e t x6).up x3
    ·exact Og l o f (x::a) b d i t c
   | false =>
    rw[p,q]at c;rcases Ll.1 c with rfl|c
    ·exact⟨(d x x6).1,(d x x6).2.add (e y x6).2 l o⟩
    ·exact Og l o f a b g i t c
theorem Oh:∀(f:Nat) (a b:List Tm),(VZ f a b).length<=a.length+b.length
 | 0,a,b=>by simp[VZ]
 | f+1,[],b=>by simp[VZ]
 | f+1,x::a,[]=>by simp[VZ]
 | f+1,x::a,y::b=>by
  unfold VZ;have c:=Oh f a (y::b);have d:=Oh f (x::a) b;have e:=Oh f a b;simp only[Rc]at c d;cases Ao x.m y.m<;>cases Ao y.m x.m<;>simp only[cond_true,cond_false,Rc]<;>omega
theorem uJ{f:Nat}{a b:List Tm}(h:a=[]\/b=[]): VZ f a b=a++b:=by
 cases f with
 | zero=>rfl
 | succ f =>
  cases a with
  | nil=>rfl
  | cons x a =>
   cases b with
   | nil=>simp[VZ]
   | cons y b=>exact h.elim (λh=>nomatch h) λh=>nomatch h
theorem VW:∀(f:Nat) (l:List Tm),(Jb f l).length<=l.length
 | 0,_=>L8 _
 | f+1,l=>by
  unfold Jb;split
  ·exact L8 _
  ·have a:=VW f (l.take (l.length / 2));have b:=VW f (l.drop (l.length / 2));have c:=Oh l.length (Jb f (l.take (l.length / 2))) (Jb f (l.drop (l.length / 2)));rw[Lk]at a;rw[Lf]at b;omega
theorem Bd{n:Nat}: ∀(f:Nat) (l:List Tm),(∀t,t∈l->fT n 0 t)->∀t,t∈Jb f l->fT n l.length t
 | 0,_,h,t,a=>(h t a).up (La _)
 | f+1,l,h,t,a=>by
  unfold Jb at a;split at a
  ·exact(h t a).up (La _)
  ·have b:=Bd f (l.take (l.length / 2)) λt a=>h t (List.mem_of_mem_take a)
   have c:=Bd f (l.drop (l.length / 2)) λt a=>h t (Ti a)
   rw[Lk]at b;rw[Lf]at c;exact Og x3 x3 _ _ _ b c t a
theorem BW:∀(f g:Nat) (l:List Tm),l.length<=f->l.length<=g->Jb f l=Jb g l
 | 0,0,_,_,_=>rfl
 | 0,g+1,l,h,_=>by
  unfold Jb;rw[if_pos x3]
 | f+1,0,l,_,h=>by
  unfold Jb;rw[if_pos x3]
 | f+1,g+1,l,a,b=>by
  unfold Jb;split
  ·rfl
  ·rw[BW f g _ (by rw[Lk];omega) (by rw[Lk];omega),BW f g _ (by rw[Lf];omega) (by rw[Lf];omega)]
def Yr(l:List Tm): List Tm:=Jb l.length l
theorem qM(h:¬ l.length<2): Yr l=VZ l.length (Yr (l.take (l.length / 2))) (Yr (l.drop (l.length / 2))):=by
 unfold Yr;obtain⟨n,a⟩:∃n,l.length=n+1:=⟨l.length-1,x3⟩
 have e:Jb (n+1) l=VZ l.length (Jb n (l.take (l.length / 2))) (Jb n (l.drop (l.length / 2))):=by
  rw[Jb,if_neg h]
 rw[show Jb l.length l=Jb (n+1) l by rw[a],e,BW n (l.take (l.length / 2)).length _ (by rw[Lk];omega) (L8 _),BW n (l.drop (l.length / 2)).length _ (by rw[Lf];omega) (L8 _)]
theorem CH(h:l.length<2): Yr l=l:=by
 unfold Yr;cases a:l.length with
 | zero=>rfl
 | succ n=>rw[Jb,if_pos h]
theorem Bp{n:Nat}(h:∀t,t∈l->fT n 0 t): ∀t,t∈Xk l->fT n l.length t:=λt a=>Bd _ _ h t (Sd.1 a).1
theorem o5{n:Nat}(e:l.length<=4000)(f:n<=1000)(h:∀t,t∈l->fT n 0 t): okP (Xa vars l).1:=by
 unfold Xa;cases !(decide (0<=vars)&&decide (vars<=12))||l.any (λt=>!Jq t.m vars)
 ·cases decide ((l.length:Int)>65536)||decide (((Xk l).length:Int)>4096)
  ·refine⟨?_,λt b=>?_⟩
   ·show((Xk l).map X5).length<=_;rw[Sk];have a:(Xk l).length<=(Jb l.length l).length:=T7 _ _;have g:=VW l.length l;omega
   ·obtain⟨u,d,rfl⟩:=Ri.1 (show t∈(Xk l).map X5 from b);have a:=Bp h u d;refine⟨by show u.m.size<=_;rw[a.1];omega,?_⟩;show okN (ni (nv u.c));rw[a.2.form];exact a.2.ok x3
  ·exact⟨La _,λ_ h=>nomatch h⟩
 ·exact⟨La _,λ_ h=>nomatch h⟩
theorem bR:∀a b:List UInt8,(!Op.bytesLess a b&&!a==b)=Op.bytesLess b a
 | [],[]=>rfl
 | [],_::_=>rfl
 | _::_,[]=>rfl
 | x::a,y::b=>by
  have h:=bR a b;unfold Op.bytesLess;by_cases c:x<y
  ·have d:¬ y<x:=UInt8.lt_asymm c;have f:¬ x=y:=λe=>by subst e;exact UInt8.lt_irrefl _ c
   have g:¬ y=x:=λe=>f e.symm
   simp[c,d,g]
  ·by_cases d:y<x
   ·have f:¬ x=y:=λe=>by subst e;exact UInt8.lt_irrefl _ d
    simp[c,d,f]
   ·have f:x=y:=UInt8.le_antisymm (UInt8.not_lt.1 d) (UInt8.not_lt.1 c);subst f;simpa [c]using h
theorem qR(W:World)(x y:Operand)(a b:ByteArray): Qn prog W (do eqGuard .gtr 9 x y (.string a) (.string b);binOp .gtr 9 (.string a) (.string b)) (.bool (Ao b a)):=λc _=>by
 simp[go_sem,Ao,bR]
def Ku(x y:Tm): Int:=bif Ao x.m y.m then -1 else bif Ao y.m x.m then 1 else 0
def X6(x y:Tm): Tm:=⟨x.m,ni (nv x.c+nv y.c)⟩
theorem vX(x y:Tm)(w:y9): RetAt prog w 214 #[.agg #[Ψ x.m,Ξ x.c.b,Ψ x.c.s,Θ x.c.e],.agg #[Ψ y.m,Ξ y.c.b,Ψ y.c.s,Θ y.c.e]] (Θ (Ku x y)) :=
 rk [.o 1 4 (.set (Ξ (Ao x.m y.m))),.both [] [.o 3 4 (.set (Ξ (Ao y.m x.m))),.both [] []]] λW f g=>ai (qT W (.tmp 7) (.tmp 9) x.m y.m)<|XA (Ao x.m y.m) (λa=>(show(Θ (-1):z0)=Θ (Ku x y)from Ly (Value.int .i64) (by unfold Ku;rw[a];rfl))) λa=>ai (qR W (.tmp 13) (.tmp 15) x.m y.m)<|XA (Ao y.m x.m) (λd=>(show(Θ 1:z0)=Θ (Ku x y)from Ly (Value.int .i64) (by unfold Ku;rw[a,d];rfl))) λd=>(show(Θ 0:z0)=Θ (Ku x y)from Ly (Value.int .i64) (by unfold Ku;rw[a,d];rfl))
theorem sZ{x y:Tm}{k:Nat}(d:k<=5000)(f:fN k x.c)(i:fN k y.c)(w:y9)(a:Q0 w): RetAt prog w 215 #[.agg #[Ψ x.m,Ξ x.c.b,Ψ x.c.s,Θ x.c.e],.agg #[Ψ y.m,Ξ y.c.b,Ψ y.c.s,Θ y.c.e]] (.agg #[Ψ ((X6 x y).m),Ξ ((X6 x y).c.b),Ψ ((X6 x y).c.s),Θ ((X6 x y).c.e)]) :=
 rk [.reg 9 [],.o 1 7 (.ret (.agg [bV (neg (dm (nv x.c+nv y.c))),sV (Qx (dm (nv x.c+nv y.c))),iV (de (nv x.c+nv y.c))]))] λW j l=>(λ(a:Q0 W)=>ai (rg1 a call173 λW g h n=>ir (f.nd d) (i.nd d) f.db i.db x3 h n)<|l) (Ql a j)
theorem oZ{g:Nat}{t:Tm}(i:t.m.size<=1000)(w:y9)(a:Bx w g 3 #[Θ vars]): RetAt prog w 156 #[.agg #[Ψ t.m,Ξ t.c.b,Ψ t.c.s,Θ t.c.e],x02 g] (Ξ (!Jq t.m vars)) :=
 rk [.o 1 2 (.set (Θ vars)),.o 1 3 (.ret (bV (Jq t.m vars)))] λW d f=>have h:=a.later d;X7 (Y7 _ 0 h rfl) (sv (m:=t.m) vars x3 W)<|f
abbrev HDh(g:Nat):z0:=.func (.func 156) #[] #[.pointer (some ⟨g,0,none⟩)]
theorem pl{g:Nat}{A:u5}{c:Nat}(y:l.length<=4294967296)(r:∀t,t∈l->t.m.size<=1000)(w:y9)(u:Bx w g 3 #[Θ vars])(v:RdK w A l.length 4 (λj=>QG (Qb l j))): RetAt prog w 211 #[Ω A l.length c,.func (.func 156) #[] #[x02 g]] (Θ (ZD l.length λj=>!(Jq (Qb l j).m vars))) :=
 rk [P1 (λ(k:Nat)=>(⟨19,[(0,lV A l.length c),(1,.val (HDh g)),(4,iV 0),(6,lV A l.length c),(7,iV (l.length:Int)),(8,iV (k:Int))],[],[]⟩:St)) l.length (λj=>!(Jq (Qb l j).m vars)) (λ(k:Nat)=>[.both [.o 4 3 (.set (.pointer (some (Xi A (k*4+0))))),.o 4 4 (.set (.agg #[Ψ ((Qb l k).m),Ξ ((Qb l k).c.b),Ψ ((Qb l k).c.s),Θ ((Qb l k).c.e)])),.o 4 5 (.ret (bV (!(Jq (Qb l k).m vars)))),.both [] [.o 6 0 (.eq (iV ((k+1:Nat):Int))),.next 0]] []])] λW p z=>have x:=u.later p;have q:=v.up p (λ_=>rfl);Gz (qV (Ω A l.length c)) (qV (HDh g)) (qI 0) (qV (Ω A l.length c)) (qI (l.length:Int)) (qI ((0:Nat):Int))<|ai (c0 l.length (λj=>!(Jq (Qb l j).m vars))) λ(k:Nat) (d:cQ l.length (λj=>!(Jq (Qb l j).m vars)) k)=>XA (decide ((k:Int)<(l.length:Int))) (λa=>JH (YN c k q (XD a)) (Zf k 0 q (XD a) x4 rfl rfl) (oZ (r _ (Zh (XD a))) W x)<|XA (!(Jq (Qb l k).m vars)) (λh=>(show(Θ (k:Int):z0)=(Θ (ZD l.length λj=>!(Jq (Qb l j).m vars)))from Ly (Value.int .i64) (KS (λj=>!(Jq (Qb l j).m vars)) d.2 (XD a) h).symm)) λh=>DM (QQ k (y6 (L1 a))) (qV (Ω A l.length c)) (qV (HDh g)) (qI 0) (qV (Ω A l.length c)) (qI (l.length:Int)) (qI (((k+1):Nat):Int))<|ai (cS d (XD a) h) (O1 (XD a))) λa=>(show(Θ (-1):z0)=(Θ (ZD l.length λj=>!(Jq (Qb l j).m vars)))from Ly (Value.int .i64) (Vk (λj=>!(Jq (Qb l j).m vars)) λj B=>d.2 j (y6 (L7 a))).symm)
theorem pj{g:Nat}{A:u5}{c:Nat}(b:l.length<=4294967296)(d:∀t,t∈l->t.m.size<=1000)(w:y9)(e:Bx w g 3 #[Θ vars])(f:RdK w A l.length 4 (λj=>QG (Qb l j))): RetAt prog w 155 #[Ω A l.length c,.func (.func 156) #[] #[x02 g]] (Ξ (Ye l.length λj=>!(Jq (Qb l j).m vars))) :=
 rk [.o 1 2 (.ret (iV (ZD l.length λj=>!(Jq (Qb l j).m vars))))] λW a k=>have h:=e.later a;have i:=f.up a (λ_=>rfl);ai (pl (c:=c) b d W h i)<|(show(Ξ (decide ((ZD l.length λj=>!(Jq (Qb l j).m vars))>=0)):z0)=Ξ (Ye l.length λj=>!(Jq (Qb l j).m vars))from Ly Ξ (GL l.length λj=>!(Jq (Qb l j).m vars)))
theorem Pr(t:Tm)(w:y9): RetAt prog w 216 #[.agg #[Ψ t.m,Ξ t.c.b,Ψ t.c.s,Θ t.c.e]] (Ξ ((sg t.c)==0)) :=
 rk [.o 1 2 (.ret (iV (sg t.c)))] λW d a=>ai (rc W call58 λW=>Vx t.c.s t.c.b t.c.e W)<|a
abbrev HDi:z0:=.func (.func 216) #[] #[]
theorem km{A:u5}{c:Nat}(r:l.length<=4294967296)(w:y9)(p:RdK w A l.length 4 (λj=>QG (Qb l j))): RetAt prog w 211 #[Ω A l.length c,.func (.func 216) #[] #[]] (Θ (ZD l.length λj=>(sg (Qb l j).c)==0)) :=
 rk [P1 (λ(k:Nat)=>(⟨19,[(0,lV A l.length c),(1,.val HDi),(4,iV 0),(6,lV A l.length c),(7,iV (l.length:Int)),(8,iV (k:Int))],[],[]⟩:St)) l.length (λj=>(sg (Qb l j).c)==0) (λ(k:Nat)=>[.both [.o 4 3 (.set (.pointer (some (Xi A (k*4+0))))),.o 4 4 (.set (.agg #[Ψ ((Qb l k).m),Ξ ((Qb l k).c.b),Ψ ((Qb l k).c.s),Θ ((Qb l k).c.e)])),.o 4 5 (.ret (bV ((sg (Qb l k).c)==0))),.both [] [.o 6 0 (.eq (iV ((k+1:Nat):Int))),.next 0]] []])] λW q t=>have h:=p.up q (λ_=>rfl);Gz (qV (Ω A l.length c)) (qV HDi) (qI 0) (qV (Ω A l.length c)) (qI (l.length:Int)) (qI ((0:Nat):Int))<|ai (c0 l.length (λj=>(sg (Qb l j).c)==0)) λ(k:Nat) (d:cQ l.length (λj=>(sg (Qb l j).c)==0) k)=>XA (decide ((k:Int)<(l.length:Int))) (λa=>JH (YN c k h (XD a)) (Zf k 0 h (XD a) x4 rfl rfl) (Pr (Qb l k) W)<|XA ((sg (Qb l k).c)==0) (λg=>(show(Θ (k:Int):z0)=(Θ (ZD l.length λj=>(sg (Qb l j).c)==0))from Ly (Value.int .i64) (KS (λj=>(sg (Qb l j).c)==0) d.2 (XD a) g).symm)) λg=>DM (QQ k (y6 (L1 a))) (qV (Ω A l.length c)) (qV HDi) (qI 0) (qV (Ω A l.length c)) (qI (l.length:Int)) (qI (((k+1):Nat):Int))<|ai (cS d (XD a) g) (O1 (XD a))) λa=>(show(Θ (-1):z0)=(Θ (ZD l.length λj=>(sg (Qb l j).c)==0))from Ly (Value.int .i64) (Vk (λj=>(sg (Qb l j).c)==0) λj u=>d.2 j (y6 (L7 a))).symm)
def Rw{α:Type}(w:y9)(k:Nat)(c:α->a8)(d:α)(l:List α)(A:u5)(a:Nat): Prop:=RdK w A l.length k (λj=>c (l.getD j d))/\(A=none->l.length=0/\a=0)
theorem Rw.below{α:Type}{w a:y9}{k:Nat}{c:α->a8}{d:α}{l:List α}{A:u5}{b:Nat}(e:∀x,(c x).length=k)(h:Rw w k c d l A b)(f:Below w.heap.size w a): Rw a k c d l A b:=⟨h.1.below (λ_=>e _) f,h.2⟩
theorem ob(P:u7){x y:b8}{A:u5}{n c:Nat}(h:P.underlying t=some (.slice e))(W:y9): Qn P W (do eqGuard .eql t x y (.slice A n c) (.slice none 0 0);binOp .eql t (.slice A n c) (.slice none 0 0):Sem z0) (.bool (decide (A=none))):=λw _=>by
 have a:(eqGuard .eql t x y (.slice A n c) (.slice none 0 0)).run P w=.ok () w:=by
  unfold eqGuard;cases A<;>rfl
 rw[p0,a,p7];have b:(Op.equal t (.slice A n c) (.slice none 0 0)).run P w=.ok (decide (A=none)) w:=by
  unfold Op.equal;rw[show Op.maxDepth=9999+1 from rfl];unfold Op.equalIn;cases A<;>(rw[p0,Ya h,p7];rfl)
 have d:binOp .eql t (.slice A n c) (.slice none 0 0)=(do pure (.bool (<- Op.equal t (.slice A n c) (.slice none 0 0))):Sem z0):=rfl;simp[d,b]
theorem Ps{A:u5}{f:Nat}(q:l.length<=1048576)(w:y9)(m:Rw w 4 QG DL l A f): NewIn prog w [] 158 #[Ω A l.length f] (λ(y:Hp)=>Ω y.1 l.length y.2) (λ(y:Hp)=>Qc 56 4 QG l y.1 y.2) :=
 El Hp Qu QR (λa w=>call158 a w) func158 ntmps158 results158 _ rfl 0 _ _ [.o 1 1 (.set (Ξ (decide (A=none)))),.both [.nil 2 0 56 4 (QG:Tm->a8)] [.row 3 1 0 [5] 56 4 QG ([]:List Tm) (λ(i:Hp)=>[.eff 3 2 0 (λ(b:Hp)=>Ω b.1 (l).length b.2) (λ(b:Hp)=>Qc 56 4 QG l b.1 b.2) (λ(b:Hp)=>[])])]] (λW p=>have g:=m.below QW p;ai (ob prog (A:=A) (n:=l.length) (c:=f) (t:=50) (e:=56) (x:=(.tmp 3)) (y:=(.const (x01))) x5 W)<|XA (decide (A=none)) (λj=>(show ∃y:Hp,SV.val (x01)=SV.val ((λ(y:Hp)=>Ω y.1 l.length y.2) y)/\∀(x:z0) (S:Nat->Prop) (w:y9),(Qc 56 4 QG ([]:List Tm) none 0).φ x S w->((λ(y:Hp)=>Qc 56 4 QG l y.1 y.2) y).φ x S w from⟨((none,0):Hp),(by rw[(show l=[]from Rz (g.2 (L1 j)).1)];rfl),λx S w h=>(by rw[(show l=[]from Rz (g.2 (L1 j)).1)];exact h)⟩)) λj=>ai (show([]:a8)=List.flatMap QG ([]:List Tm)from rfl)<|ai (k0 QW (show(([]:List Tm)).length<=maxLen from(La _))) λ(i:Hp)=>ai (V5 (w0:=W) (ty:=50) (c:=QG) (l:=([]:List Tm)) (l2:=l) (l':=l) (A:=i.1) (cp:=i.2) (u:=Ω A l.length f) Xy QW Kk (U8 l) (show l.length*48<=140737488355328 from x3) (λr k=>G4 QW x4 (d:=DL) (g.below QW k).1 g.2)) λ(b:Hp)=>(show ∃y:Hp,SV.val (Ω b.1 (l).length b.2)=SV.val ((λ(y:Hp)=>Ω y.1 l.length y.2) y)/\∀(x:z0) (S:Nat->Prop) (w:y9),(Qc 56 4 QG l b.1 b.2).φ x S w->((λ(y:Hp)=>Qc 56 4 QG l y.1 y.2) y).φ x S w from⟨b,rfl,λx S w h=>h⟩)) λW=>x5
def nS(k:Int): Bool:=k != 6
def nR(k:Int): Bool:=k==4
def nC(k:Int): Bool:=k==6
def nP(k:Int): Int:=bif k==5 then 0 else bif k==2 then 2 else bif k==6 then 1 else 1
def nX(k:Int): Bool:=k==2||k==5
theorem pe{k:Int}(b:1<=k)(c:k<=6)(W:y9): Qn prog W (Instr.index 111 (.agg #[.bool false,.bool false,.bool false,.int .i64 0,.bool false,.bool true,.bool false,.bool false,.int .i64 1,.bool false,.bool true,.bool false,.bool false,.int .i64 2,.bool true,.bool true,.bool false,.bool false,.int .i64 1,.bool false,.bool true,.bool true,.bool false,.int .i64 1,.bool false,.bool true,.bool false,.bool false,.int .i64 0,.bool true,.bool false,.bool false,.bool true,.int .i64 1,.bool false]) (.int .i64 k)) (.agg #[.bool (nS k),.bool (nR k),.bool (nC k),.int .i64 (nP k),.bool (nX k)]):=λd _=>by
 have a:k=1\/k=2\/k=3\/k=4\/k=5\/k=6:=x3;rcases a with rfl|rfl|rfl|rfl|rfl|rfl<;>rfl
theorem bN(h:(Q2 δ vars==0)=false): 1<=δ/\δ<=6:=by
 unfold Q2 at h;by_cases a:δ<1\/7<=δ\/vars<1
 ·rw[if_pos a]at h;cases h
 ·omega
def KA(δ vars:Int)(nb:Nat)(κ:List (List Nm))(ps θ:List Py)(ν ε:Nm)(ζ:Int)(ct:List Nd): Bool :=
 bif Q2 δ vars==0 then false else bif (ps.length:Int) != Q2 δ vars then false else
 bif !Ga nb κ vars (nX δ)then false else bif !Zi (nS δ) (nR δ) (nC δ) ν ε θ.length ζ ct.length then false else
 bif Ye ps.length (λj=>YE vars (Q7 ps j))then false else bif Ye θ.length (λj=>YE vars (Q7 θ j))then false else
 bif !Gj (De nb κ.length) ct then false else true
def AD(x:PV): Bool:=KA x.δ x.vars x.box.length x.κ x.ps x.θ x.ν x.ε x.ζ x.ι&&(Qo x.ν x.ε x.box x.κ x.ι).all Gu
structure okO (δ vars:Int) (ν ε:Nm) (bx:List (Nm×Nm)) (κ:List (List Nm)) (ps θ:List Py) (ct:List Nd):Prop where
 l0:okL0 bx κ ct
 hv:-9223372036854775808<=vars/\vars<=9223372036854775807
 np:ps.length<=1048576
 nr:θ.length<=1048576
 okp:∀p,p∈ps->okP p
 okr:∀p,p∈θ->okP p
 okc:∀p,p∈ct->okP p.sum
 nums:∀x,x∈Qo ν ε bx κ ct->okN x
theorem px{lo:Nat}{Ab As Ac:u5}{cb cs cc:Nat}{us q r:Nat->z0}{z:Nat->u5}{B Uc:Nat->Nat}{Ap Ar:u5}{kp kr:Nat}(a:okO δ vars ν ε bx κ ps θ ct)(W:y9)(t:Q0 W)(I:RdK W Ab bx.length 6 (λj=>Jw (Xc bx j)))(C:RdK W As κ.length 1 (λj=>[us j]))(D:∀j,j<κ.length->SlV lo 3 V0 W (QC κ j) (us j))(E:RdK W Ac ct.length 6 (ng ct z B Uc))(F:∀j,j<ct.length->SlV lo 4 Vv W (Qw ct j).sum.ts (Ω (z j) (B j) (Uc j)))(G:RdK W Ap ps.length 2 (sI ps q))(u:∀j,j<ps.length->SlV lo 4 Vv W (Q7 ps j).ts (q j))(H:RdK W Ar θ.length 2 (sI θ r))(v:∀j,j<θ.length->SlV lo 4 Vv W (Q7 θ j).ts (r j)): DO prog tt W f25 (ja (K9 6 f25) (⟨69,[(1,.ptr 0 0),(2,.ptr 1 0)],[some (35,(tS δ vars Ab bx.length cb As κ.length cs Ap ps.length kp Ar θ.length kr ν ε ζ Ac ct.length cc)),some (4,[bV false])],[]⟩:St) ((KA δ vars bx.length κ ps θ ν ε ζ ct)=true)) (O4 69 [tA δ vars Ab bx.length cb As κ.length cs Ap ps.length kp Ar θ.length kr ν ε ζ Ac ct.length cc]) [.o 1 4 (.ret (iV (Q2 δ vars))),.gb 2 3 [.both [] [.reg 5 [],.o 4 0 (.ret (.agg [bV false,bV false,bV false,iV 0,bV false,bV true,bV false,bV false,iV 1,bV false,bV true,bV false,bV false,iV 2,bV true,bV true,bV false,bV false,iV 1,bV false,bV true,bV true,bV false,iV 1,bV false,bV true,bV false,bV false,iV 0,bV true,bV false,bV false,bV true,iV 1,bV false])),.o 4 3 (.set (.agg #[Ξ (nS δ),Ξ (nR δ),Ξ (nC δ),Θ (nP δ),Ξ (nX δ)])),.reg 36 [],.o 6 6 (.ret (bV (Ga bx.length κ vars (nX δ)))),.gb 6 9 [.g 6 10 true,.g 6 11 true,.g 6 12 true,.o 6 12 (.ret (bV (Zi (nS δ) (nR δ) (nC δ) ν ε θ.length ζ ct.length))),.g 6 13 true,.o 6 14 (.pk false),.gb 6 16 [.g 6 17 true,.g 6 18 true,.g 6 19 true,.o 6 19 (.ret (bV (Ye ps.length λj=>YE vars (Q7 ps j)))),.o 6 20 (.pk false),.gb 6 22 [.g 6 23 true,.g 6 24 true,.g 6 25 true,.o 6 25 (.ret (bV (Ye θ.length λj=>YE vars (Q7 θ j)))),.o 6 26 (.pk false),.gb 6 28 [.g 6 29 true,.g 6 30 true,.g 6 31 true,.g 6 32 true,.o 6 32 (.ret (iV (De bx.length κ.length))),.g 6 33 true,.o 6 33 (.ret (bV (Gj (De bx.length κ.length) ct))),.g 6 34 true,.o 6 35 (.pk false),.both [] [.esc 8]] [.g 6 29 false,.g 6 30 false,.g 6 31 false,.g 6 32 false,.g 6 33 false,.g 6 34 false,.o 6 35 (.pk true)]] [.g 6 23 false,.g 6 24 false,.g 6 25 false,.o 6 26 (.pk true)]] [.g 6 17 false,.g 6 18 false,.g 6 19 false,.o 6 20 (.pk true)]] [.g 6 10 false,.g 6 11 false,.g 6 12 false,.g 6 13 false,.o 6 14 (.pk true)]]] []] (λe σ _=>Vj tt (f25).results.toList e σ λs=>Z7 s.plain (s.den e0=Ξ ((KA δ vars bx.length κ ps θ ν ε ζ ct)&&(Qo ν ε bx κ ct).all Gu))) :=
 have n:=eB ((KA δ vars bx.length κ ps θ ν ε ζ ct)&&(Qo ν ε bx κ ct).all Gu);Xs (ai (c9 δ vars W)<|ZG ((Q2 δ vars)==0) false (λk=>XA ((ps.length:Int) != (Q2 δ vars)) (λm=>(n false (by rw[show(KA δ vars bx.length κ ps θ ν ε ζ ct)=false from by unfold KA;rw[k,m];rfl];rfl))) λm=>JH (KJ W) (pe (bN k).1 (bN k).2 W) (ul Ab bx.length cb cs (nX δ) (y6 a.l0.hs) a.hv W C D)<|ZG (!(Ga bx.length κ vars (nX δ))) false (λf=>Gz f f f (wC (nS δ) (nR δ) (nC δ) δ vars ζ (Ω Ab bx.length cb) (Ω As κ.length cs) (Ω Ap ps.length kp) ν ε Ar Ac θ.length kr ct.length cc W) f f<|ZG (!(Zi (nS δ) (nR δ) (nC δ) ν ε θ.length ζ ct.length)) false (λh=>Kr h h h (wZ call48 λV p g w=>d7 vars (Θ δ) (Ω Ab bx.length cb) (Ω As κ.length cs) (Ω Ap ps.length kp) (Ω Ar θ.length kr) (Ξ ν.b) (Ψ ν.s) (Θ ν.e) (Ξ ε.b) (Ψ ε.s) (Θ ε.e) (Θ ζ) (Ω Ac ct.length cc) Ap kp ps (y6 a.np) a.okp V (Ql t p) w (G.below (λ_=>rfl) p) (λj x=>(u j x).below YD p)) h<|ZG (Ye ps.length λj=>YE vars (Q7 ps j)) false (λi=>Kr i i i (wZ call48 λV p g w=>d7 vars (Θ δ) (Ω Ab bx.length cb) (Ω As κ.length cs) (Ω Ap ps.length kp) (Ω Ar θ.length kr) (Ξ ν.b) (Ψ ν.s) (Θ ν.e) (Ξ ε.b) (Ψ ε.s) (Θ ε.e) (Θ ζ) (Ω Ac ct.length cc) Ar kr θ (y6 a.nr) a.okr V (Ql t p) w (H.below (λ_=>rfl) p) (λj x=>(v j x).below YD p)) i<|ZG (Ye θ.length λj=>YE vars (Q7 θ j)) false (λd=>Zb d d d d (oR Ab As bx.length cb κ.length cs (y6 a.l0.hb) W) d (kR (De bx.length κ.length) cc (y6 a.l0.hc) a.okc W t E F) d<|ai d<|XA (!(Gj (De bx.length κ.length) ct)) (λy=>(n false (by rw[show(KA δ vars bx.length κ ps θ ν ε ζ ct)=false from by unfold KA;rw[k,m,f,h,i,d,y];rfl];rfl))) λy=>Km (show K9 6 f25=some (Kq 6 f25)from x5) (show(KA δ vars bx.length κ ps θ ν ε ζ ct)=true from by unfold KA;rw[k,m,f,h,i,d,y];rfl) (qk (some (35,(tS δ vars Ab bx.length cb As κ.length cs Ap ps.length kp Ar θ.length kr ν ε ζ Ac ct.length cc)))) (qk (some (4,[bV false])))<|trivial) λd=>DM d d d d d d d<|(n false (by rw[show(KA δ vars bx.length κ ps θ ν ε ζ ct)=false from by unfold KA;rw[k,m,f,h,i,d];rfl];rfl))) λi=>Km i i i i<|(n false (by rw[show(KA δ vars bx.length κ ps θ ν ε ζ ct)=false from by unfold KA;rw[k,m,f,h,i];rfl];rfl))) λh=>Km h h h h<|(n false (by rw[show(KA δ vars bx.length κ ps θ ν ε ζ ct)=false from by unfold KA;rw[k,m,f,h];rfl];rfl))) λf=>Kr f f f f f<|(n false (by rw[show(KA δ vars bx.length κ ps θ ν ε ζ ct)=false from by unfold KA;rw[k,m,f];rfl];rfl))) λk=>(n false (by rw[show(KA δ vars bx.length κ ps θ ν ε ζ ct)=false from by unfold KA;rw[k];rfl];rfl))) x5
theorem c8(δ vars ζ:Int)(ν ε:Nm)(Ab As Ap Ar Ac:u5)(nb cb ns cs np kp nr kr nc cc:Nat)(w:y9): NewIn prog w [] 51 #[tA δ vars Ab nb cb As ns cs Ap np kp Ar nr kr ν ε ζ Ac nc cc] (λy:Nat=>.func (.func 89) #[] #[.pointer (some ⟨y,0,none⟩)]) (λy:Nat=>Pm y 35 (tL δ vars Ab nb cb As ns cs Ap np kp Ar nr kr ν ε ζ Ac nc cc)):=by
 refine⟨λa w=>call51 a w,λW m=>?_⟩;have h:=WF W ((.clo (.func 89) [] [.ptr 0 0]:SV)=(.clo (.func 89) [] [.ptr 0 0]:SV)/\(some (35,(tS δ vars Ab nb cb As ns cs Ap np kp Ar nr kr ν ε ζ Ac nc cc)):Option (u6×List SV))=some (35,(tS δ vars Ab nb cb As ns cs Ap np kp Ar nr kr ν ε ζ Ac nc cc))) (λv c=>∃y,v=.func (.func 89) #[] #[.pointer (some ⟨y,0,none⟩)]/\Bx c y 35 #[.int .i64 δ,.int .i64 vars,.slice Ab nb cb,.slice As ns cs,.slice Ap np kp,.slice Ar nr kr,.bool ν.b,.string ν.s,.int .i64 ν.e,.bool ε.b,.string ε.s,.int .i64 ε.e,.int .i64 ζ,.slice Ac nc cc]/\W.heap.size<=y) (λs σ=>s=(.clo (.func 89) [] [.ptr 0 0]:SV)/\Xe σ.bs 0=some (35,(tS δ vars Ab nb cb As ns cs Ap np kp Ar nr kr ν ε ζ Ac nc cc))) Qu QR func51 ntmps51 results51 [tA δ vars Ab nb cb As ns cs Ap np kp Ar nr kr ν ε ζ Ac nc cc] rfl [] ⟨rfl,rfl⟩ x5 (λs σ d r a c f=>⟨r.b 0,by rw[d.1];rfl,(f.see.bs 0 _ _ d.2).1,f.sep.own 0 _ d.2⟩);refine h.mono λe c i=>?_
 obtain⟨v,rfl,⟨y,rfl,g,j⟩,k⟩:=i;exact⟨y,.bool false,λb=>b=y,rfl,⟨rfl,g,λb=>Iff.rfl⟩,λb l=>by subst l;exact⟨j,g.lt⟩,k⟩
theorem pY(δ vars ζ:Int)(ν ε:Nm)(Ab As Ap Ar Ac:u5)(nb cb ns cs np kp nr kr nc cc:Nat)(w:y9): NewIn prog w [] 54 #[tA δ vars Ab nb cb As ns cs Ap np kp Ar nr kr ν ε ζ Ac nc cc] (λy:Nat=>.func (.func 91) #[] #[.pointer (some ⟨y,0,none⟩)]) (λy:Nat=>Pm y 35 (tL δ vars Ab nb cb As ns cs Ap np kp Ar nr kr ν ε ζ Ac nc cc)):=by
 refine⟨λa w=>call54 a w,λW m=>?_⟩;have h:=WF W ((.clo (.func 91) [] [.ptr 0 0]:SV)=(.clo (.func 91) [] [.ptr 0 0]:SV)/\(some (35,(tS δ vars Ab nb cb As ns cs Ap np kp Ar nr kr ν ε ζ Ac nc cc)):Option (u6×List SV))=some (35,(tS δ vars Ab nb cb As ns cs Ap np kp Ar nr kr ν ε ζ Ac nc cc))) (λv c=>∃y,v=.func (.func 91) #[] #[.pointer (some ⟨y,0,none⟩)]/\Bx c y 35 #[.int .i64 δ,.int .i64 vars,.slice Ab nb cb,.slice As ns cs,.slice Ap np kp,.slice Ar nr kr,.bool ν.b,.string ν.s,.int .i64 ν.e,.bool ε.b,.string ε.s,.int .i64 ε.e,.int .i64 ζ,.slice Ac nc cc]/\W.heap.size<=y) (λs σ=>s=(.clo (.func 91) [] [.ptr 0 0]:SV)/\Xe σ.bs 0=some (35,(tS δ vars Ab nb cb As ns cs Ap np kp Ar nr kr ν ε ζ Ac nc cc))) Qu QR func54 ntmps54 results54 [tA δ vars Ab nb cb As ns cs Ap np kp Ar nr kr ν ε ζ Ac nc cc] rfl [] ⟨rfl,rfl⟩ x5 (λs σ d r a c f=>⟨r.b 0,by rw[d.1];rfl,(f.see.bs 0 _ _ d.2).1,f.sep.own 0 _ d.2⟩);refine h.mono λe c i=>?_
 obtain⟨v,rfl,⟨y,rfl,g,j⟩,k⟩:=i;exact⟨y,.bool false,λb=>b=y,rfl,⟨rfl,g,λb=>Iff.rfl⟩,λb l=>by subst l;exact⟨j,g.lt⟩,k⟩
theorem py{Ab As Ac:u5}{cb cs cc:Nat}{Ap Ar:u5}{kp kr:Nat}(W:y9)(R:Res): Xu prog tt (JI prog tt W) (0,0) W (vE (Kq 6 f25)) (⟨69,[(1,.ptr 0 0),(2,.ptr 1 0)],[some (35,(tS δ vars Ab bx.length cb As κ.length cs Ap ps.length kp Ar θ.length kr ν ε ζ Ac ct.length cc)),some (4,[bV false])],[some R]⟩:St) [.mk 8 1 [] (λ(a:Nat)=>.func (.func 89) #[] #[x02 a]) (λ(a:Nat)=>Pm a 35 (tL δ vars Ab bx.length cb As κ.length cs Ap ps.length kp Ar θ.length kr ν ε ζ Ac ct.length cc)) (λ(a:Nat)=>[])] (λe g _=>o7 R (P7 (λy:Nat=>(⟨69,[(2,.ptr 1 0),(63,.val (.func (.func 89) #[] #[x02 y]))],[some (35,(tS δ vars Ab bx.length cb As κ.length cs Ap ps.length kp Ar θ.length kr ν ε ζ Ac ct.length cc)),some (4,[bV false])],[]⟩:St)) 1 (λy:Nat=>Pm y 35 (tL δ vars Ab bx.length cb As κ.length cs Ap ps.length kp Ar θ.length kr ν ε ζ Ac ct.length cc))) e g) :=
 let f:OB:=some (35,(tS δ vars Ab bx.length cb As κ.length cs Ap ps.length kp Ar θ.length kr ν ε ζ Ac ct.length cc));let Z1:OB:=some (4,[bV false]);Xs (ai (c8 δ vars ζ ν ε Ab As Ap Ar Ac bx.length cb κ.length cs ps.length kp θ.length kr ct.length cc W) λ(a:Nat)=>(show(R=R)/\∃y:Nat,(∀(b:z0) (c:Nat->Prop) (d:y9),(Pm a 35 (tL δ vars Ab bx.length cb As κ.length cs Ap ps.length kp Ar θ.length kr ν ε ζ Ac ct.length cc)).φ b c d->(Pm y 35 (tL δ vars Ab bx.length cb As κ.length cs Ap ps.length kp Ar θ.length kr ν ε ζ Ac ct.length cc)).φ b c d)/\((.func (.func 89) #[] #[x02 a]:z0)=.func (.func 89) #[] #[x02 y])/\((f:OB)=f)/\((Z1:OB)=Z1)/\True from⟨rfl,a,λb c d h=>h,rfl,rfl,rfl,trivial⟩)) x5
abbrev HDj(y:Nat):z0:=.func (.func 89) #[] #[.pointer (some ⟨y,0,none⟩)]
theorem pC{Ab As Ac:u5}{cb cs cc:Nat}{Ap Ar:u5}{kp kr:Nat}{y:Nat}{x:Nm}(c:okN x)(W:y9)(d:Q0 W)(R:Res): Xu prog tt (JI prog tt W) ((⟨69,[(2,.ptr 1 0),(63,.val (.func (.func 89) #[] #[x02 y]))],[some (35,(tS δ vars Ab bx.length cb As κ.length cs Ap ps.length kp Ar θ.length kr ν ε ζ Ac ct.length cc)),some (4,[bV false])],[]⟩:St).bs.length,0) W (sJ (Kq 6 f25)) ({ ((⟨69,[(2,.ptr 1 0),(63,.val (.func (.func 89) #[] #[x02 y]))],[some (35,(tS δ vars Ab bx.length cb As κ.length cs Ap ps.length kp Ar θ.length kr ν ε ζ Ac ct.length cc)),some (4,[bV false])],[]⟩:St)).push (some 64) (.val (nA x))with rs:=[some R] }:St) [.reg 4 [],.o 10 1 (.ret (.agg [bV (neg (dm (nv x))),sV (Qx (dm (nv x))),iV (de (nv x))])),.o 10 3 (.set (Ξ (!(Gu x)))),.both [] []] (lp prog tt W (⟨69,[(2,.ptr 1 0),(63,.val (.func (.func 89) #[] #[x02 y]))],[some (35,(tS δ vars Ab bx.length cb As κ.length cs Ap ps.length kp Ar θ.length kr ν ε ζ Ac ct.length cc)),some (4,[bV false])],[]⟩:St) [some (35,(tS δ vars Ab bx.length cb As κ.length cs Ap ps.length kp Ar θ.length kr ν ε ζ Ac ct.length cc)),some (4,[bV false])] (sK (Kq 6 f25)) (Gu x) R) :=
 let a:OB:=some (35,(tS δ vars Ab bx.length cb As κ.length cs Ap ps.length kp Ar θ.length kr ν ε ζ Ac ct.length cc));let Z1:OB:=some (4,[bV false]);Xs (Km (Rq R:R=R) (qV (HDj y)) (qk a) (qk Z1)<|(λ(g:Res)=>X7 (rt d call52 λW d=>JS x.s x.b x.e W (y6 c.sz) (y6 c.lo) (y6 c.hi) d) (Dh W (.tmp 66) (.tmp 67) (neg (dm (nv x))) x.b (Qx (dm (nv x))) x.s (de (nv x)) x.e)<|XA (!(Gu x)) (λf=>Km (Rq g) (qV (HDj y)) (qk a) (qk Z1)<|(show(Gu x=false)from(by revert f;cases Gu x<;>simp))) λf=>DM (Rq g) (qk a) (qk Z1) (qk (some (32,[bV x.b,sV x.s,iV x.e]))) (qV (HDj y)) (qk a) (qk Z1)<|(show(Gu x=true)from(by revert f;cases Gu x<;>simp)))) x5
theorem pD{Ab As Ac:u5}{cb cs cc:Nat}{Ap Ar:u5}{kp kr:Nat}{y:Nat}(a:(KA δ vars bx.length κ ps θ ν ε ζ ct)=true)(b:(Qo ν ε bx κ ct).all Gu=true)(W:y9)(R:Res): Xu prog tt (JI prog tt W) (0,0) W (SG (Kq 6 f25)) (⟨69,[(2,.ptr 1 0),(63,.val (.func (.func 89) #[] #[x02 y]))],[some (35,(tS δ vars Ab bx.length cb As κ.length cs Ap ps.length kp Ar θ.length kr ν ε ζ Ac ct.length cc)),some (4,[bV false])],[some R]⟩:St) [] (λe c _=>Vj tt (f25).results.toList e c λs=>Oa R c.rs (Z7 s.plain (s.den e0=Ξ ((KA δ vars bx.length κ ps θ ν ε ζ ct)&&(Qo ν ε bx κ ct).all Gu)))) :=
 Xs ((show(R=R)/\((Ξ true:z0)=Ξ ((KA δ vars bx.length κ ps θ ν ε ζ ct)&&(Qo ν ε bx κ ct).all Gu))from⟨rfl,by rw[a,b];rfl⟩)) x5
theorem pB{lo:Nat}{Ab As Ac:u5}{cb cs cc:Nat}{us d e:Nat->z0}{m:Nat->u5}{n Uc:Nat->Nat}{Ap Ar:u5}{kp kr:Nat}(i:okO δ vars ν ε bx κ ps θ ct)(w:y9)(T:Q0 w)(U:RdK w Ab bx.length 6 (λj=>Jw (Xc bx j)))(V:RdK w As κ.length 1 (λj=>[us j]))(X:∀j,j<κ.length->SlV lo 3 V0 w (QC κ j) (us j))(Y:RdK w Ac ct.length 6 (ng ct m n Uc))(HN:∀j,j<ct.length->SlV lo 4 Vv w (Qw ct j).sum.ts (.slice (m j) (n j) (Uc j)))(HQ:RdK w Ap ps.length 2 (sI ps d))(u:∀j,j<ps.length->SlV lo 4 Vv w (Q7 ps j).ts (d j))(HU:RdK w Ar θ.length 2 (sI θ e))(z:∀j,j<θ.length->SlV lo 4 Vv w (Q7 θ j).ts (e j)): RetAt prog w 25 #[tA δ vars Ab bx.length cb As κ.length cs Ap ps.length kp Ar θ.length kr ν ε ζ Ac ct.length cc] (.bool ((KA δ vars bx.length κ ps θ ν ε ζ ct)&&(Qo ν ε bx κ ct).all Gu)):=by
 refine OI Qu QR (λa w=>call25 a w) func25 (args:=[tA δ vars Ab bx.length cb As κ.length cs Ap ps.length kp Ar θ.length kr ν ε ζ Ac ct.length cc]) x5 λW c=>?_
 have A:RdK W Ab bx.length 6 (λj=>Jw (Xc bx j)):=U.below (λ_=>rfl) c;have B:RdK W As κ.length 1 (λj=>[us j]):=V.below (λ_=>rfl) c;have C:∀j,j<κ.length->SlV lo 3 V0 W (QC κ j) (us j):=λj f=>(X j f).below YR c
 have F:RdK W Ac ct.length 6 (ng ct m n Uc):=Y.below (λ_=>rfl) c;have G:∀j,j<ct.length->SlV lo 4 Vv W (Qw ct j).sum.ts (.slice (m j) (n j) (Uc j)):=λj f=>(HN j f).below YD c
 have H:RdK W Ap ps.length 2 (sI ps d):=HQ.below (λ_=>rfl) c;have o:∀j,j<ps.length->SlV lo 4 Vv W (Q7 ps j).ts (d j):=λj f=>(u j f).below YD c
 have I:RdK W Ar θ.length 2 (sI θ e):=HU.below (λ_=>rfl) c;have p:∀j,j<θ.length->SlV lo 4 Vv W (Q7 θ j).ts (e j):=λj f=>(z j f).below YD c
 refine⟨_,_,px i W (Ql T c) A B C F G H o I p,λb σ r a w1 he hS=>?_⟩;obtain⟨hb,q,J⟩:=Bv he hS;rw[<- IR hb];refine Iz f25 (P7 (λy:Nat=>(⟨69,[(2,.ptr 1 0),(63,.val (.func (.func 89) #[] #[.pointer (some ⟨y,0,none⟩)]))],[some (35,(tS δ vars Ab bx.length cb As κ.length cs Ap ps.length kp Ar θ.length kr ν ε ζ Ac ct.length cc)),some (4,[bV false])],[]⟩:St)) 1 (λy:Nat=>Pm y 35 (tL δ vars Ab bx.length cb As κ.length cs Ap ps.length kp Ar θ.length kr ν ε ζ Ac ct.length cc))) ([]) Qu QR J rfl x5 (λR=>py W R) (λD h=>nomatch h) λσ2 r2 a2 l K L _=>?_
 obtain⟨y,hφ,k⟩:=BJ K L;obtain⟨_,hy,_⟩:=(show _/\_/\_ from hφ)
 have g:Below w.heap.size w l:=c.trans (k.see.low.mono c.size);have M:RdK l Ab bx.length 6 (λj=>Jw (Xc bx j)):=U.below (λ_=>rfl) g;have N:RdK l As κ.length 1 (λj=>[us j]):=V.below (λ_=>rfl) g;have O:∀j,j<κ.length->SlV lo 3 V0 l (QC κ j) (us j):=λj f=>(X j f).below YR g
 have P:RdK l Ac ct.length 6 (ng ct m n Uc):=Y.below (λ_=>rfl) g;have hg:a2.eval (sL (Kq 6 f25))=.func (.func 89) #[] #[.pointer (some ⟨y,0,none⟩)]:=by
  rw[show sL (Kq 6 f25)=.tmp 63 from x5];exact(k.see.ts 63 _ rfl).1
 have Z:wY (Kq 6 f25)=64:=x5;refine Eu (fn:=f25) (v:=.bool ((KA δ vars bx.length κ ps θ ν ε ζ ct)&&(Qo ν ε bx κ ct).all Gu)) (bsR:=[some (35,(tS δ vars Ab bx.length cb As κ.length cs Ap ps.length kp Ar θ.length kr ν ε ζ Ac ct.length cc)),some (4,[bV false])]) (xs:=(Qo ν ε bx κ ct)) (enc:=λx=>nA x) (good:=Gu) Qu QR (b:=(Kq 6 f25)) x5 rfl rfl rfl (by rw[Z];rfl) (λx Q=>⟨_,λR=>by rw[Z];exact pC (i.nums x Q) W (Ql T c) R⟩) k hg (λa w=>call89 a w) (EY i.l0 l hy M N O P) List.nodup_nil (λD h=>nomatch h) (λs=>?_) (λt D r' W' h1 h2 h3=>?_)
 ·obtain⟨x,Q,S⟩:=s;refine Xs (show(.bool false:z0)=.bool ((KA δ vars bx.length κ ps θ ν ε ζ ct)&&(Qo ν ε bx κ ct).all Gu)from ?_) x5;rw[show(Qo ν ε bx κ ct).all Gu=false from List.all_eq_false.2 ⟨x,Q,by simp[S]⟩,Uf]
 ·exact SE (fn:=f25) Qu QR h1 rfl (λR=>pD q (Lc.2 t) W R) h2 h3
def Of(ll:List (List AK))(j:Nat): List AK:=ll.getD j []
def AN(ll:List (List AK))(k:Nat): Nat:=((ll.take k).map List.length).sum
theorem mD{k:Nat}(h:k<ll.length): AN ll k+(Of ll k).length=AN ll (k+1):=by
 unfold AN Of;rw[Rr h,Th,List.sum_append,YM h];simp
theorem nJ(ll:List (List AK))(k:Nat): ((ll.take k).flatMap λl=>l).length=AN ll k:=by
 unfold AN;rw[List.length_flatMap]
def Zn(ll:List (List AK))(k:Nat): List AK:=(ll.take k).flatMap λl=>l
theorem Pq(ll:List (List AK))(k:Nat): (Zn ll k).length=AN ll k:=nJ ll k
theorem Ms{k:Nat}(h:k<ll.length): Zn ll k++Of ll k=Zn ll (k+1):=by
 unfold Zn Of;rw[Rr h,U4,YM h];simp
theorem GE{k:Nat}(h:ll.length<=k): Zn ll k=ll.flatMap λl=>l:=by
 unfold Zn;rw[Rj h]
theorem aV(P:u7)(a:y9){ty:u6}(b:P.underlying t=some (.slice e)): Qn P a (Builtin.cap_ #[t] ty #[.slice none 0 0]) (.int .i64 0):=λW _=>by
 simp[Builtin.cap_,run_underlying b,goInt]
theorem vZ(P:u7)(c:y9){a:TI}{e b:Nat}{d:Option Bool}(f:YH P t=some a)(g:a.k=.slice e b d)(h:b≠0): Qn P c (Instr.sliceAt t (.slice none 0 0) none (some (.int .i64 0)) none) (.slice none 0 0):=λW _=>by
 obtain⟨i,j,_⟩:=K0 f g;simp[Instr.sliceAt,Instr.slice,Ya i,G5 (P:=P) (w:=W) (isS:=true) (len:=0) (cap:=0) (lo:=none) (hi:=some (.int .i64 0)) (.inl ⟨rfl,rfl⟩) (.inr ⟨.i64,rfl⟩) (L8 0) (L8 0),Va j h]
abbrev HDk(ll:List (List AK))(A:u5)(ca:Nat):=λ(b:Nat×Hp)=>(⟨36,[(6,lV b.2.1 ((Zn ll b.1)).length b.2.2),(25,lV A ll.length ca),(26,iV (ll.length:Int)),(27,iV (b.1:Int))],[],[some (Qc 52 2 KC (Zn ll b.1) b.2.1 b.2.2)]⟩:St)
abbrev HDl:Nat×Hp:=(0,none,0)
theorem io{A:u5}{ca:Nat}{Aj:Nat->u5}{cj:Nat->Nat}(H:ll.length<=4294967296)(p:∀k,AN ll k<=4294967296)(w:y9)(I:RdK w A ll.length 1 (λj=>[Ω (Aj j) (Of ll j).length (cj j)]))(E:∀j,j<ll.length->RdK w (Aj j) (Of ll j).length 2 (λi=>KC ((Of ll j).getD i Yf))/\(Aj j=none->(Of ll j).length=0/\cj j=0)): NewIn prog w [] 92 #[Ω A ll.length ca] (λ(y:Hp)=>Ω y.1 (ll.flatMap λl=>l).length y.2) (λ(y:Hp)=>Qc 52 2 KC (ll.flatMap λl=>l) y.1 y.2) :=
 El Hp Qu QR (λa w=>call92 a w) func92 ntmps92 results92 _ rfl 0 _ _ [.loop (λ(k1:Nat)=>(⟨36,[(0,lV A ll.length ca),(3,iV ((AN ll k1:Nat):Int)),(9,lV A ll.length ca),(10,iV (ll.length:Int)),(11,iV (k1:Int))],[],[]⟩:St)) (λ(k1:Nat)=>(k1<=ll.length)) (λ(k1:Nat)=>(ll.length-k1)) (0:Nat) (λ(k1:Nat) _=>k1+1) (λ(k1:Nat)=>[.both [.o 4 0 (.set (.pointer (some (Xi A (k1*1+0))))),.o 4 1 (.set (Ω (Aj k1) (Of ll k1).length (cj k1))),.o 5 3 (.eq (iV ((AN ll (k1+1):Nat):Int))),.br false,.o 8 0 (.eq (iV ((k1+1:Nat):Int))),.next 0] [.inl 9 1 f122,.br false,.o 3 2 (.set (Θ 0)),.o 3 6 (.eq (iV ((AN ll k1:Nat):Int))),.both [.o 5 2 (.set (Θ 0)),.o 5 3 (.set (x01)),.mk 5 5 [] (λ(g:Hp)=>Ω g.1 (AN ll k1) g.2) (λ(g:Hp)=>Qc 52 2 KC (List.replicate (AN ll k1) Yf) g.1 g.2) (λ(g:Hp)=>[.eff 5 8 0 (λ(q:Hp)=>Ω q.1 (((List.replicate (AN ll k1) Yf).take 0)).length q.2) (λ(q:Hp)=>Qc 52 2 KC ((List.replicate (AN ll k1) Yf).take 0) q.1 q.2) (λ(q:Hp)=>[P0 (HDk ll A ca) ll.length ((0,q):Nat×Hp) (λ(b:Nat×Hp)=>[.both [.o 12 0 (.set (.pointer (some (Xi A (b.1*1+0))))),.o 12 1 (.set (Ω (Aj b.1) (Of ll b.1).length (cj b.1))),.eff 13 2 0 (λ(s:Hp)=>Ω s.1 ((Zn ll (b.1+1))).length s.2) (λ(s:Hp)=>Qc 52 2 KC (Zn ll (b.1+1)) s.1 s.2) (λ(s:Hp)=>[.o 14 0 (.eq (iV ((b.1+1:Nat):Int))),.nxt [s]])] []])])])] [.nil 10 99999 52 2 KC,P0 (HDk ll A ca) ll.length HDl (λ(b:Nat×Hp)=>[.both [.o 12 0 (.set (.pointer (some (Xi A (b.1*1+0))))),.o 12 1 (.set (Ω (Aj b.1) (Of ll b.1).length (cj b.1))),.eff 13 2 0 (λ(g:Hp)=>Ω g.1 ((Zn ll (b.1+1))).length g.2) (λ(g:Hp)=>Qc 52 2 KC (Zn ll (b.1+1)) g.1 g.2) (λ(g:Hp)=>[.o 14 0 (.eq (iV ((b.1+1:Nat):Int))),.nxt [g]])] []])]]])] (λW F=>have z:=I.up F (λ_=>rfl);(λ(B:∀j,j<ll.length->RdK W (Aj j) (Of ll j).length 2 (λi=>KC ((Of ll j).getD i Yf))/\(Aj j=none->(Of ll j).length=0/\cj j=0))=>Kr (qV (Ω A ll.length ca)) (qI ((AN ll 0:Nat):Int)) (qV (Ω A ll.length ca)) (qI (ll.length:Int)) (qI ((0:Nat):Int))<|ai (show 0<=ll.length from La _) λ(k1:Nat) (J:(k1<=ll.length))=>XA (decide ((k1:Int)<(ll.length:Int))) (λr=>Zb (C7 ca k1 z (XD r)) (Ic k1 0 z (XD r) x4 rfl) (show IntKind.i64.wrap (((AN ll k1:Nat):Int)+(((Of ll k1).length:Nat):Int))=((AN ll (k1+1):Nat):Int)from by have L:=mD (XD r);have:=p (k1+1);rw[Lg _ x3];omega) (show(decide (((AN ll (k1+1):Nat):Int)<0))=false from Lh x3) (QQ k1 (y6 (L1 r))) (qV (Ω A ll.length ca)) (qI ((AN ll (k1+1):Nat):Int)) (qV (Ω A ll.length ca))<|X7 (qI (ll.length:Int)) (qI (((k1+1):Nat):Int))<|ai (show k1+1<=ll.length from XD r) (show ll.length-(k1+1)<ll.length-k1 from y6 (L1 r))) λr=>Kr func122 (λa w=>call122 a w) (show(decide (((AN ll k1:Nat):Int)<0))=false from Lh x3) (aV prog W (t:=28) (e:=52) (ty:=3) x5) (show IntKind.i64.wrap (((AN ll k1:Nat):Int)-0)=((AN ll k1:Nat):Int)from by have:=p k1;rw[Lg _ x3];omega)<|XA (decide (((AN ll k1:Nat):Int)>0)) (λC=>X7 (aV prog W (t:=28) (e:=52) (ty:=3) x5) (vZ prog W (Qu 28 _ rfl) rfl x4)<|ai (o8 (w0:=W) (u:=3) (ty:=28) Xx x5 Dj Yf k9 (XD C) (y6 (p k1)) (show AN ll k1*32<=140737488355328 from y6 (p k1))) λ(g:Hp)=>ai (by have h:=bp (P:=prog) (w0:=W) (t:=28) (Qu 28 _ rfl) rfl x4 Dj (m:=0) (l:=(List.replicate (AN ll k1) Yf)) (A:=g.1) (cp:=g.2) (e:=52) (La _) (by rw[Sj];have:=L1 C;omega);rw[Sj]at h;exact h) λ(q:Hp)=>Kr (show(Ω q.1 (((List.replicate (AN ll k1) Yf).take 0)).length q.2:z0)=(Ω q.1 ((Zn ll 0)).length q.2)from(by simp[Zn])) (qV (Ω A ll.length ca)) (qI (ll.length:Int)) (qI ((0:Nat):Int)) (Zo (Qc 52 2 KC ((List.replicate (AN ll k1) Yf).take 0) q.1 q.2) (Qc 52 2 KC (Zn ll 0) q.1 q.2) λ_ _ _ h=>ZF (by simp[Zn]) (by simp[Zn]) h)<|ai (show 0<=ll.length from La _) λ(b:Nat×Hp) (D:(b.1<=ll.length))=>XA (decide ((b.1:Int)<(ll.length:Int))) (λf=>X7 (C7 ca b.1 z (XD f)) (Ic b.1 0 z (XD f) x4 rfl)<|ai (V5 (w0:=W) (ty:=28) (c:=KC) (l:=(Zn ll b.1)) (l2:=(Of ll b.1)) (l':=(Zn ll (b.1+1))) (A:=b.2.1) (cp:=b.2.2) (u:=Ω (Aj b.1) (Of ll b.1).length (cj b.1)) Xx Dj dk (Ms (XD f)) (show((Zn ll (b.1+1))).length*32<=140737488355328 from by rw[Pq];have:=p (b.1+1);omega) (λK v=>G4 Dj x4 (d:=Yf) ((B b.1 (y6 (L1 f))).1.below (λ_=>rfl) v) (B b.1 (y6 (L1 f))).2)) λ(s:Hp)=>Gz (QQ b.1 (y6 (L1 f))) (qV (Ω s.1 ((Zn ll (b.1+1))).length s.2)) (qV (Ω A ll.length ca)) (qI (ll.length:Int)) (qI (((b.1+1):Nat):Int)) (Zo (Qc 52 2 KC (Zn ll (b.1+1)) s.1 s.2) (Qc 52 2 KC (Zn ll (b.1+1)) s.1 s.2) λ_ _ _ h=>h)<|ai (show b.1+1<=ll.length from XD f) (show ll.length-(b.1+1)<ll.length-b.1 from y6 (L1 f))) λf=>(show ∃y:Hp,SV.val (Ω b.2.1 ((Zn ll b.1)).length b.2.2)=SV.val ((λ(y:Hp)=>Ω y.1 (ll.flatMap λl=>l).length y.2) y)/\∀(x:z0) (S:Nat->Prop) (w:y9),(Qc 52 2 KC (Zn ll b.1) b.2.1 b.2.2).φ x S w->((λ(y:Hp)=>Qc 52 2 KC (ll.flatMap λl=>l) y.1 y.2) y).φ x S w from⟨b.2,(by rw[show Zn ll b.1=ll.flatMap λl=>l from GE (y6 (L7 f))]),λx S w h=>ZF (by rw[show Zn ll b.1=ll.flatMap λl=>l from GE (y6 (L7 f))]) (by rw[show Zn ll b.1=ll.flatMap λl=>l from GE (y6 (L7 f))]) h⟩)) λC=>Kr (qV (Ω HDl.2.1 ((Zn ll (HDl.1))).length HDl.2.2)) (qV (Ω A ll.length ca)) (qI (ll.length:Int)) (qI ((HDl.1:Nat):Int)) (Zo (Qc 52 2 KC ([]:List AK) none 0) (Qc 52 2 KC (Zn ll (HDl.1)) (HDl.2.1) (HDl.2.2)) λ_ _ _ h=>h)<|ai (show 0<=ll.length from La _) λ(b:Nat×Hp) (D:(b.1<=ll.length))=>XA (decide ((b.1:Int)<(ll.length:Int))) (λf=>X7 (C7 ca b.1 z (XD f)) (Ic b.1 0 z (XD f) x4 rfl)<|ai (V5 (w0:=W) (ty:=28) (c:=KC) (l:=(Zn ll b.1)) (l2:=(Of ll b.1)) (l':=(Zn ll (b.1+1))) (A:=b.2.1) (cp:=b.2.2) (u:=Ω (Aj b.1) (Of ll b.1).length (cj b.1)) Xx Dj dk (Ms (XD f)) (show((Zn ll (b.1+1))).length*32<=140737488355328 from by rw[Pq];have:=p (b.1+1);omega) (λK v=>G4 Dj x4 (d:=Yf) ((B b.1 (y6 (L1 f))).1.below (λ_=>rfl) v) (B b.1 (y6 (L1 f))).2)) λ(g:Hp)=>Gz (QQ b.1 (y6 (L1 f))) (qV (Ω g.1 ((Zn ll (b.1+1))).length g.2)) (qV (Ω A ll.length ca)) (qI (ll.length:Int)) (qI (((b.1+1):Nat):Int)) (Zo (Qc 52 2 KC (Zn ll (b.1+1)) g.1 g.2) (Qc 52 2 KC (Zn ll (b.1+1)) g.1 g.2) λ_ _ _ h=>h)<|ai (show b.1+1<=ll.length from XD f) (show ll.length-(b.1+1)<ll.length-b.1 from y6 (L1 f))) λf=>(show ∃y:Hp,SV.val (Ω b.2.1 ((Zn ll b.1)).length b.2.2)=SV.val ((λ(y:Hp)=>Ω y.1 (ll.flatMap λl=>l).length y.2) y)/\∀(x:z0) (S:Nat->Prop) (w:y9),(Qc 52 2 KC (Zn ll b.1) b.2.1 b.2.2).φ x S w->((λ(y:Hp)=>Qc 52 2 KC (ll.flatMap λl=>l) y.1 y.2) y).φ x S w from⟨b.2,(by rw[show Zn ll b.1=ll.flatMap λl=>l from GE (y6 (L7 f))]),λx S w h=>ZF (by rw[show Zn ll b.1=ll.flatMap λl=>l from GE (y6 (L7 f))]) (by rw[show Zn ll b.1=ll.flatMap λl=>l from GE (y6 (L7 f))]) h⟩)) (λj G=>⟨(E j G).1.below (λ_=>rfl) F,(E j G).2⟩)) λW=>x5
def z4(x:u5×Nat×Nat): a8:=[.slice x.1 x.2.1 x.2.2]
theorem dC(x:u5×Nat×Nat): (z4 x).length=1:=rfl
def aq(ct:List Nd)(a:Nat->u5)(Uc:Nat->Nat): List AK:=(List.range ct.length).map λj=>((Qw ct j).sum,a j,Uc j)
theorem SY(ct:List Nd)(a:Nat->u5)(Uc:Nat->Nat): (aq ct a Uc).length=ct.length:=by simp[aq]
theorem qY{a:Nat->u5}{Uc:Nat->Nat}{k:Nat}(h:k<ct.length): (aq ct a Uc).getD k Yf=((Qw ct k).sum,a k,Uc k):=by
 rw[YM (by rw[SY];exact h)];simp[aq]
def Yx(l1 l2:List AK)(ct:List Nd)(a:Nat->u5)(Uc:Nat->Nat): List AK:=([l1,l2].flatMap λl=>l)++aq ct a Uc
theorem eD(A:u5)(cp:Nat){Ap Ar:u5}{c kp d kr:Nat}(e:c=l1.length)(f:d=l2.length)(n:l1.length<=1048576)(o:l2.length<=1048576)(W:y9)(h:RdK W Ap l1.length 2 (λi=>KC (l1.getD i Yf))/\(Ap=none->l1.length=0/\kp=0))(m:RdK W Ar l2.length 2 (λi=>KC (l2.getD i Yf))/\(Ar=none->l2.length=0/\kr=0)):
  NewIn prog W [Qc 28 1 z4 [(Ap,c,kp),(Ar,d,kr)] A cp] 92 #[.slice A ([(Ap,c,kp),(Ar,d,kr)]:List (u5×Nat×Nat)).length cp] (λy:Hp=>.slice y.1 ([l1,l2].flatMap λl=>l).length y.2) (λy:Hp=>Qc 52 2 KC ([l1,l2].flatMap λl=>l) y.1 y.2):=by
 subst e;subst f;refine⟨λa w=>call92 a w,λp b=>?_⟩;show ∀x S,_->_;intro x S q;have r:=Jj dC (none,0,0) q;refine(io (ll:=[l1,l2]) (A:=A) (ca:=cp) (Aj:=λj=>if j=0 then Ap else Ar) (cj:=λj=>if j=0 then kp else kr) (show 2<=4294967296 from x4) (λk=>?_) p ?_ ?_).at
 ·match k with
  | 0=>simp[AN]
  | 1=>simp[AN];omega
  | k+2=>simp[AN];omega
 ·refine RdK.congr r λj g=>?_
  match j,g with
  | 0,_=>rfl
  | 1,_=>rfl
 ·intro j g
  match j,g with
  | 0,_=>exact⟨h.1.below (λ_=>rfl) b,h.2⟩
  | 1,_=>exact⟨m.1.below (λ_=>rfl) b,m.2⟩
theorem QaH{y l:Nat}{Ap Ar Ac:u5}{kp kr cc:Nat}(d:l1.length<=1048576)(f:l2.length<=1048576)(W:y9)(p:Bx W y 35 #[Θ δ,Θ vars,vb,vs,Ω Ap l1.length kp,Ω Ar l2.length kr,Ξ ν.b,Ψ ν.s,Θ ν.e,Ξ ε.b,Ψ ε.s,Θ ε.e,Θ ζ,Ω Ac ct.length cc])(q:(RdK W Ap l1.length 2 (λi=>KC (l1.getD i Yf))/\(Ap=none->l1.length=0/\kp=0)))(r:(RdK W Ar l2.length 2 (λi=>KC (l2.getD i Yf))/\(Ar=none->l2.length=0/\kr=0))): Xu prog tt (JI prog tt W) (0,0) W (Zj (Zj (QO f91))) (O4 36 [.func (.yield l) #[] #[],x02 y]) [.o 0 0 (.set (.pointer (some ⟨y,4,none⟩))),.o 0 1 (.set (Ω Ap l1.length kp)),.o 0 2 (.set (.pointer (some ⟨y,5,none⟩))),.o 0 3 (.set (Ω Ar l2.length kr)),.row 0 5 0 [11] 28 1 z4 ([(Ap,l1.length,kp),(Ar,l2.length,kr)]) (λ(j:Hp)=>[.mk 0 5 [0] (λ(a:Hp)=>Ω a.1 ([l1,l2].flatMap λl=>l).length a.2) (λ(a:Hp)=>Qc 52 2 KC ([l1,l2].flatMap λl=>l) a.1 a.2) (λ(a:Hp)=>[])])] (λe σ _=>ZO e (P7 (λc:Hp=>(⟨36,[(0,.val (.func (.yield l) #[] #[])),(1,.val (x02 y)),(12,lV c.1 ([l1,l2].flatMap λl=>l).length c.2),(13,iV ((([l1,l2].flatMap λl=>l).length:Nat):Int)),(14,iV ((0:Nat):Int))],[],[]⟩:St)) 1 (λc:Hp=>Qc 52 2 KC ([l1,l2].flatMap λl=>l) c.1 c.2) σ)) :=
 Xs (Kr (Jd y 0 (w0:=W)) (Js _ 4 p rfl) (Je y 0 (w0:=W)) (Js _ 5 p rfl) (show([Ω Ap l1.length kp,Ω Ar l2.length kr]:a8)=List.flatMap z4 ([(Ap,l1.length,kp),(Ar,l2.length,kr)])from rfl)<|ai (k0 dC (show([(Ap,l1.length,kp),(Ar,l2.length,kr)]).length<=maxLen from(by simp[maxLen]))) λ(j:Hp)=>ai (eD j.1 j.2 rfl rfl d f W q r) λ(a:Hp)=>(show ∃c:Hp,(∀(k:z0) (m:Nat->Prop) (n:y9),(Qc 52 2 KC ([l1,l2].flatMap λl=>l) a.1 a.2).φ k m n->(Qc 52 2 KC ([l1,l2].flatMap λl=>l) c.1 c.2).φ k m n)/\((.func (.yield l) #[] #[]:z0)=.func (.yield l) #[] #[])/\((x02 y:z0)=x02 y)/\((Ω a.1 ([l1,l2].flatMap λl=>l).length a.2:z0)=Ω c.1 ([l1,l2].flatMap λl=>l).length c.2)/\((((([l1,l2].flatMap λl=>l).length:Nat):Int):Int)=((([l1,l2].flatMap λl=>l).length:Nat):Int))/\((0:Int)=((0:Nat):Int))/\True from⟨a,λk m n h=>h,rfl,rfl,rfl,rfl,rfl,trivial⟩)) x5
theorem yN{y:Nat}{A:u5}{a:Nat}{l:Nat}(k:Nat)(W:y9): Xu prog tt (JI prog tt W) (0,0) W (zL (QA (Zj (QO f91)))) (⟨36,[(0,.val (.func (.yield l) #[] #[])),(1,.val (x02 y)),(12,lV A ([l1,l2].flatMap λl=>l).length a),(13,iV ((([l1,l2].flatMap λl=>l).length:Nat):Int)),(14,iV (k:Int))],[],[]⟩:St) [] (λe σ _=>ZO e (K3 σ (zM (QA (Zj (QO f91)))) λs=>s=.val (Ξ (decide ((k:Int)<((([l1,l2].flatMap λl=>l).length:Nat):Int))))/\XT σ (⟨36,[(0,.val (.func (.yield l) #[] #[])),(1,.val (x02 y)),(12,lV A ([l1,l2].flatMap λl=>l).length a),(13,iV ((([l1,l2].flatMap λl=>l).length:Nat):Int)),(14,iV (k:Int))],[],[]⟩:St) True)) :=
 Xs (Gz (show((.val (Ξ (decide ((k:Int)<((([l1,l2].flatMap λl=>l).length:Nat):Int)))):SV)=bV (decide ((k:Int)<((([l1,l2].flatMap λl=>l).length:Nat):Int))))from rfl) (qV (.func (.yield l) #[] #[])) (qV (x02 y)) (qV (Ω A ([l1,l2].flatMap λl=>l).length a)) (qI ((([l1,l2].flatMap λl=>l).length:Nat):Int)) (qI (k:Int))<|trivial) x5
theorem yO{y:Nat}{A:u5}{a:Nat}{l:Nat}(k:Nat)(b:k<([l1,l2].flatMap λl=>l).length)(W:y9)(f:RdK W A ([l1,l2].flatMap λl=>l).length 2 (λj=>KC (List.getD ([l1,l2].flatMap λl=>l) j Yf))): Xu prog tt (JI prog tt W) (0,0) W (zK (QA (Zj (QO f91)))) (⟨36,[(0,.val (.func (.yield l) #[] #[])),(1,.val (x02 y)),(12,lV A ([l1,l2].flatMap λl=>l).length a),(13,iV ((([l1,l2].flatMap λl=>l).length:Nat):Int)),(14,iV (k:Int))],[],[]⟩:St) [.o 2 0 (.set (.pointer (some (Xi A (k*2+0))))),.o 2 1 (.set (.agg #[Θ ((List.getD ([l1,l2].flatMap λl=>l) k Yf).1.vars),Ω (List.getD ([l1,l2].flatMap λl=>l) k Yf).2.1 (List.getD ([l1,l2].flatMap λl=>l) k Yf).1.ts.length (List.getD ([l1,l2].flatMap λl=>l) k Yf).2.2]))] (λe σ d=>ZO e (JU prog tt (JI prog tt W) W (aa (AP (QA (Zj (QO f91))))) (Vc (AP (QA (Zj (QO f91))))) ((Vc (AP (QA (Zj (QO f91))))).toList.take 2) 0 σ d λσ _=>v1 σ (.tmp 18) λg=>vL σ [.tmp 19] λvs=>g=.func (.yield l) #[] #[]/\vs=[(.agg #[Θ (List.getD ([l1,l2].flatMap λl=>l) k Yf).1.vars,Ω (List.getD ([l1,l2].flatMap λl=>l) k Yf).2.1 (List.getD ([l1,l2].flatMap λl=>l) k Yf).1.ts.length (List.getD ([l1,l2].flatMap λl=>l) k Yf).2.2]:z0)]/\XT σ (⟨36,[(0,.val (.func (.yield l) #[] #[])),(1,.val (x02 y)),(12,lV A ([l1,l2].flatMap λl=>l).length a),(13,iV ((([l1,l2].flatMap λl=>l).length:Nat):Int)),(14,iV (k:Int))],[],[]⟩:St) True)) :=
 Xs (Zb (GM a k f b) (Ch k 0 f b x4 rfl rfl) (qV (.func (.yield l) #[] #[])) (show(([.agg #[Θ ((List.getD ([l1,l2].flatMap λl=>l) k Yf).1.vars),Ω (List.getD ([l1,l2].flatMap λl=>l) k Yf).2.1 (List.getD ([l1,l2].flatMap λl=>l) k Yf).1.ts.length (List.getD ([l1,l2].flatMap λl=>l) k Yf).2.2]]:a8)=[(.agg #[Θ (List.getD ([l1,l2].flatMap λl=>l) k Yf).1.vars,Ω (List.getD ([l1,l2].flatMap λl=>l) k Yf).2.1 (List.getD ([l1,l2].flatMap λl=>l) k Yf).1.ts.length (List.getD ([l1,l2].flatMap λl=>l) k Yf).2.2]:z0)])from rfl) (qV (.func (.yield l) #[] #[])) (qV (x02 y)) (qV (Ω A ([l1,l2].flatMap λl=>l).length a)) (qI ((([l1,l2].flatMap λl=>l).length:Nat):Int))<|ai (qI (k:Int))<|trivial) x5
theorem yP{y:Nat}{A:u5}{a:Nat}{l:Nat}(k:Nat)(b:Bool)(W:y9): JU prog tt (JI prog tt W) W (aa (AP (QA (Zj (QO f91))))) (Vc (AP (QA (Zj (QO f91))))) ((Vc (AP (QA (Zj (QO f91))))).toList.drop 3) 3 ((⟨36,[(0,.val (.func (.yield l) #[] #[])),(1,.val (x02 y)),(12,lV A ([l1,l2].flatMap λl=>l).length a),(13,iV ((([l1,l2].flatMap λl=>l).length:Nat):Int)),(14,iV (k:Int))],[],[]⟩:St).push (some 20) (bV b)) [] (λσ _=>K3 σ (xd (QA (Zj (QO f91)))) λs=>s=.val (Ξ (!b))/\XT σ (⟨36,[(0,.val (.func (.yield l) #[] #[])),(1,.val (x02 y)),(12,lV A ([l1,l2].flatMap λl=>l).length a),(13,iV ((([l1,l2].flatMap λl=>l).length:Nat):Int)),(14,iV (k:Int))],[],[]⟩:St) True) :=
 Xs (Gz (show((.val (Ξ (!b)):SV)=bV (!b))from rfl) (qV (.func (.yield l) #[] #[])) (qV (x02 y)) (qV (Ω A ([l1,l2].flatMap λl=>l).length a)) (qI ((([l1,l2].flatMap λl=>l).length:Nat):Int)) (qI (k:Int))<|trivial) x5
theorem yQ{y:Nat}{A:u5}{a:Nat}{l:Nat}(k:Nat)(b:k<4611686018427387904)(W:y9): Xu prog tt (JI prog tt W) (0,0) W (xc (QA (Zj (QO f91)))) (⟨36,[(0,.val (.func (.yield l) #[] #[])),(1,.val (x02 y)),(12,lV A ([l1,l2].flatMap λl=>l).length a),(13,iV ((([l1,l2].flatMap λl=>l).length:Nat):Int)),(14,iV (k:Int))],[],[]⟩:St) [.o 4 0 (.eq (iV ((k+1:Nat):Int)))] (λe σ _=>ZO e (XT σ (⟨36,[(0,.val (.func (.yield l) #[] #[])),(1,.val (x02 y)),(12,lV A ([l1,l2].flatMap λl=>l).length a),(13,iV ((([l1,l2].flatMap λl=>l).length:Nat):Int)),(14,iV ((k+1:Nat):Int))],[],[]⟩:St) True)) :=
 Xs (Gz (QQ k x3) (qV (.func (.yield l) #[] #[])) (qV (x02 y)) (qV (Ω A ([l1,l2].flatMap λl=>l).length a)) (qI ((([l1,l2].flatMap λl=>l).length:Nat):Int)) (qI ((k+1:Nat):Int))<|trivial) x5
theorem QaI{y l:Nat}{A:u5}{a:Nat}{Ap Ar Ac:u5}{kp kr cc:Nat}(W:y9)(c:Bx W y 35 #[Θ δ,Θ vars,vb,vs,Ω Ap l1.length kp,Ω Ar l2.length kr,Ξ ν.b,Ψ ν.s,Θ ν.e,Ξ ε.b,Ψ ε.s,Θ ε.e,Θ ζ,Ω Ac ct.length cc]): Xu prog tt (JI prog tt W) (0,0) W (Zj (QA (QO f91))) (⟨36,[(0,.val (.func (.yield l) #[] #[])),(1,.val (x02 y)),(12,lV A ([l1,l2].flatMap λl=>l).length a),(13,iV ((([l1,l2].flatMap λl=>l).length:Nat):Int)),(14,iV ((([l1,l2].flatMap λl=>l).length:Nat):Int))],[],[]⟩:St) [.o 5 0 (.set (.pointer (some ⟨y,13,none⟩))),.o 5 1 (.set (Ω Ac ct.length cc))] (λe σ _=>ZO e (XT σ (⟨36,[(0,.val (.func (.yield l) #[] #[])),(24,lV Ac ct.length cc),(25,iV (ct.length:Int)),(26,iV ((0:Nat):Int))],[],[]⟩:St) True)) :=
 Xs (Gz (Jf W y 0) (Cj _ 13 c rfl) (qV (.func (.yield l) #[] #[])) (qV (Ω Ac ct.length cc)) (qI (ct.length:Int)) (qI ((0:Nat):Int))<|trivial) x5
theorem yR{Ac:u5}{cc l:Nat}(k:Nat)(W:y9): Xu prog tt (JI prog tt W) (0,0) W (zL (QA (QA (QO f91)))) (⟨36,[(0,.val (.func (.yield l) #[] #[])),(24,lV Ac ct.length cc),(25,iV (ct.length:Int)),(26,iV (k:Int))],[],[]⟩:St) [] (λe σ _=>ZO e (K3 σ (zM (QA (QA (QO f91)))) λs=>s=.val (Ξ (decide ((k:Int)<(ct.length:Int))))/\XT σ (⟨36,[(0,.val (.func (.yield l) #[] #[])),(24,lV Ac ct.length cc),(25,iV (ct.length:Int)),(26,iV (k:Int))],[],[]⟩:St) True)) :=
 Xs (Kr (show((.val (Ξ (decide ((k:Int)<(ct.length:Int)))):SV)=bV (decide ((k:Int)<(ct.length:Int))))from rfl) (qV (.func (.yield l) #[] #[])) (qV (Ω Ac ct.length cc)) (qI (ct.length:Int)) (qI (k:Int))<|trivial) x5
theorem yS{Ac:u5}{cc l:Nat}{a:Nat->u5}{Uc:Nat->Nat}(k:Nat)(f:k<ct.length)(W:y9)(g:RdK W Ac ct.length 6 (cv ct a Uc)): Xu prog tt (JI prog tt W) (0,0) W (zK (QA (QA (QO f91)))) (⟨36,[(0,.val (.func (.yield l) #[] #[])),(24,lV Ac ct.length cc),(25,iV (ct.length:Int)),(26,iV (k:Int))],[],[]⟩:St) [.o 7 0 (.set (.pointer (some (Xi Ac (k*6+0))))),.o 7 1 (.set (.agg #[Θ ((Qw ct k).split),Ξ ((Qw ct k).ο.b),Ψ ((Qw ct k).ο.s),Θ ((Qw ct k).ο.e),Θ ((Qw ct k).sum.vars),Ω (a k) (Qw ct k).sum.ts.length (Uc k)]))] (λe σ d=>ZO e (JU prog tt (JI prog tt W) W (aa (AP (QA (QA (QO f91))))) (Vc (AP (QA (QA (QO f91))))) ((Vc (AP (QA (QA (QO f91))))).toList.take 3) 0 σ d λσ _=>v1 σ (.tmp 30) λh=>vL σ [.tmp 32] λvs=>h=.func (.yield l) #[] #[]/\vs=[(.agg #[Θ (Qw ct k).sum.vars,Ω (a k) (Qw ct k).sum.ts.length (Uc k)]:z0)]/\XT σ (⟨36,[(0,.val (.func (.yield l) #[] #[])),(24,lV Ac ct.length cc),(25,iV (ct.length:Int)),(26,iV (k:Int))],[],[]⟩:St) True)) :=
 Xs (Zb (VK cc k g f) (BF k 0 g f x4 rfl rfl) (qV (.func (.yield l) #[] #[])) (show(([.agg #[Θ ((Qw ct k).sum.vars),Ω (a k) (Qw ct k).sum.ts.length (Uc k)]]:a8)=[(.agg #[Θ (Qw ct k).sum.vars,Ω (a k) (Qw ct k).sum.ts.length (Uc k)]:z0)])from rfl) (qV (.func (.yield l) #[] #[])) (qV (Ω Ac ct.length cc)) (qI (ct.length:Int)) (qI (k:Int))<|trivial) x5
theorem yT{Ac:u5}{cc l:Nat}(k:Nat)(b:Bool)(W:y9): JU prog tt (JI prog tt W) W (aa (AP (QA (QA (QO f91))))) (Vc (AP (QA (QA (QO f91))))) ((Vc (AP (QA (QA (QO f91))))).toList.drop 4) 4 ((⟨36,[(0,.val (.func (.yield l) #[] #[])),(24,lV Ac ct.length cc),(25,iV (ct.length:Int)),(26,iV (k:Int))],[],[]⟩:St).push (some 33) (bV b)) [] (λσ _=>K3 σ (xd (QA (QA (QO f91)))) λs=>s=.val (Ξ (!b))/\XT σ (⟨36,[(0,.val (.func (.yield l) #[] #[])),(24,lV Ac ct.length cc),(25,iV (ct.length:Int)),(26,iV (k:Int))],[],[]⟩:St) True) :=
 Xs (Kr (show((.val (Ξ (!b)):SV)=bV (!b))from rfl) (qV (.func (.yield l) #[] #[])) (qV (Ω Ac ct.length cc)) (qI (ct.length:Int)) (qI (k:Int))<|trivial) x5
theorem yU{Ac:u5}{cc l:Nat}(k:Nat)(a:k<4611686018427387904)(W:y9): Xu prog tt (JI prog tt W) (0,0) W (xc (QA (QA (QO f91)))) (⟨36,[(0,.val (.func (.yield l) #[] #[])),(24,lV Ac ct.length cc),(25,iV (ct.length:Int)),(26,iV (k:Int))],[],[]⟩:St) [.o 9 0 (.eq (iV ((k+1:Nat):Int)))] (λe σ _=>ZO e (XT σ (⟨36,[(0,.val (.func (.yield l) #[] #[])),(24,lV Ac ct.length cc),(25,iV (ct.length:Int)),(26,iV ((k+1:Nat):Int))],[],[]⟩:St) True)) :=
 Xs (Kr (QQ k x3) (qV (.func (.yield l) #[] #[])) (qV (Ω Ac ct.length cc)) (qI (ct.length:Int)) (qI ((k+1:Nat):Int))<|trivial) x5
theorem pN{a:Nat->u5}{Uc:Nat->Nat}{k:Nat}(h:k<([l1,l2].flatMap λl=>l).length): List.getD (Yx l1 l2 ct a Uc) k Yf=List.getD ([l1,l2].flatMap λl=>l) k Yf:=by
 unfold Yx;rw[List.getD,List.getD,List.getElem?_append_left h]
theorem pO{a:Nat->u5}{Uc:Nat->Nat}{k:Nat}(h:k<ct.length): List.getD (Yx l1 l2 ct a Uc) (([l1,l2].flatMap λl=>l).length+k) Yf=((Qw ct k).sum,a k,Uc k):=by
 unfold Yx;rw[List.getD,c6 x3,Tb,<- List.getD];exact qY h
theorem fL(l1 l2:List AK)(ct:List Nd)(a:Nat->u5)(Uc:Nat->Nat): (Yx l1 l2 ct a Uc).length=([l1,l2].flatMap λl=>l).length+ct.length:=by
 unfold Yx;rw[Lq,SY]
theorem RX{y:Nat}{Ap Ar Ac:u5}{kp kr cc:Nat}{d:Nat->u5}{Uc:Nat->Nat}(I:l1.length<=1048576)(K:l2.length<=1048576)(ad:ct.length<=1048576)(w:y9)(HX:Bx w y 35 #[.int .i64 δ,.int .i64 vars,vb,vs,.slice Ap l1.length kp,.slice Ar l2.length kr,.bool ν.b,.string ν.s,.int .i64 ν.e,.bool ε.b,.string ε.s,.int .i64 ε.e,.int .i64 ζ,.slice Ac ct.length cc])(U:(RdK w Ap l1.length 2 (λi=>KC (l1.getD i Yf))/\(Ap=none->l1.length=0/\kp=0)))(X:(RdK w Ar l2.length 2 (λi=>KC (l2.getD i Yf))/\(Ar=none->l2.length=0/\kr=0)))(HC:RdK w Ac ct.length 6 (cv ct d Uc)): SeqStopsK Fence.wide 8 prog 91 #[.pointer (some ⟨y,0,none⟩)] (λx:{x // x∈(Yx l1 l2 ct d Uc)}=>#[.agg #[.int .i64 x.1.1.vars,.slice x.1.2.1 x.1.1.ts.length x.1.2.2]]) KpC (λys=>ys=(Yx l1 l2 ct d Uc).attach) (λ_=>True) (Yx l1 l2 ct d Uc).length w:=by
 intro l J Y W G H u Z h0;have ae:=fL l1 l2 ct d Uc;have ag:([l1,l2].flatMap λl=>l).length=l1.length+l2.length:=x6;have h1:=HX.later G;have h2:(RdK W Ap l1.length 2 (λi=>KC (l1.getD i Yf))/\(Ap=none->l1.length=0/\kp=0)):=⟨U.1.below (λ_=>rfl) G,U.2⟩
 have h3:(RdK W Ar l2.length 2 (λi=>KC (l2.getD i Yf))/\(Ar=none->l2.length=0/\kr=0)):=⟨X.1.below (λ_=>rfl) G,X.2⟩
 have h4:RdK W Ac ct.length 6 (cv ct d Uc):=HC.below (λ_=>rfl) G;refine callsIn_wide.2 (calls_of_wp (c:=(QO f91)) (args:=([.func (.yield l) #[] #[],.pointer (some ⟨y,0,none⟩)]:a8).toArray) func91 x5 ?_);rw[ntmps91,show(QO f91)=.seq (.seq (Zj (Zj (QO f91))) (QA (Zj (QO f91)))) (.seq (Zj (QA (QO f91))) (QA (QA (QO f91))))from x5];have L:=lw (N:=36) (args:=[.func (.yield l) #[] #[],.pointer (some ⟨y,0,none⟩)]) (L3 rfl) W;have p:∀q:Act,q.defers=[]->∀a,((∃xs,xs=(Yx l1 l2 ct d Uc).attach/\J xs a)\/(∃pre,True/\Y pre a))->q.defers=[]/\∃v,(results f91 q.tmps).run prog a=.ok v a/\(∃v',Ending.returned v=.returned v')/\((∃xs,xs=(Yx l1 l2 ct d Uc).attach/\J xs a)\/(∃pre,True/\Y pre a)):=λq hd a h=>⟨hd,_,results_none x5 _ _ _,⟨_,rfl⟩,h⟩
 refine(wpIn_wide (n:=8)).1 (wpIn_seq (wpIn_seq (Nf Qu QR (QaH (l:=l) I K W h1 h2 h3) L λσ2 _ r2 a2 w2 hp z=>?_)));obtain⟨⟨A,cp⟩,hφ,M⟩:=BJ hp z;have r:=z.see.low;have B:RdK w2 A ([l1,l2].flatMap λl=>l).length 2 (λj=>KC (List.getD ([l1,l2].flatMap λl=>l) j Yf)):=Jj Dj Yf hφ;refine IZ Qu QR (c:=QA (Zj (QO f91))) x5 (τ:=λk=>(⟨36,[(0,.val (.func (.yield l) #[] #[])),(1,.val (.pointer (some ⟨y,0,none⟩))),(12,lV A ([l1,l2].flatMap λl=>l).length cp),(13,iV ((([l1,l2].flatMap λl=>l).length:Nat):Int)),(14,iV (k:Int))],[],[]⟩:St)) (λk=>⟨rfl,rfl⟩) (l:=l) (m:=0) (n:=([l1,l2].flatMap λl=>l).length) (xs:=(Yx l1 l2 ct d Uc)) (enc:=λx=>.agg #[.int .i64 x.1.vars,.slice x.2.1 x.1.ts.length x.2.2]) Yf x3
  (F:=λV=>RdK V A ([l1,l2].flatMap λl=>l).length 2 (λj=>KC (List.getD ([l1,l2].flatMap λl=>l) j Yf))/\Bx V y 35 #[.int .i64 δ,.int .i64 vars,vb,vs,.slice Ap l1.length kp,.slice Ar l2.length kr,.bool ν.b,.string ν.s,.int .i64 ν.e,.bool ε.b,.string ε.s,.int .i64 ε.e,.int .i64 ζ,.slice Ac ct.length cc]/\RdK V Ac ct.length 6 (cv ct d Uc)) (λV V' h g=>⟨OE (λ_=>rfl) h.1 g,g.bx h.2.1,OE (λ_=>rfl) h.2.2 g⟩)
  (ci:=2) (dst:=20) (o:=ve (QA (Zj (QO f91))) 2) x5 (f:=.tmp 18) (args:=[.tmp 19]) x5 x5 (λk=>rfl) x5
  (λk V _ _=>⟨_,yN k V⟩) (λk V g O=>⟨_,by rw[Lj,pN g];exact yO k g V O.1⟩) (λk V b _=>⟨_,yP k b V⟩) (λk V g=>⟨_,yQ k x3 V⟩)
  H u (λpre x P h Q=>Z pre x P h Q) M ⟨B,h1.later r,h4.below (λ_=>rfl) r⟩ (YG H r h0) (λq a k1 t C=>?_) (λq a pre k1 t=>p q t a (.inr ⟨pre,trivial,k1⟩))
 refine wpIn_seq (Nf Qu QR (QaI a t.2.1) k1 λσ5 _ r5 a5 w5 R D=>?_);have S:=(QV a R).2 _ _ _ D;have E:=D.see.low;have T:RdK w5 Ac ct.length 6 (cv ct d Uc):=t.2.2.below (λ_=>rfl) E;rw[Lj]at C;refine IZ Qu QR (c:=QA (QA (QO f91))) x5 (τ:=λk=>(⟨36,[(0,.val (.func (.yield l) #[] #[])),(24,lV Ac ct.length cc),(25,iV (ct.length:Int)),(26,iV (k:Int))],[],[]⟩:St)) (λk=>⟨rfl,rfl⟩) (l:=l) (m:=([l1,l2].flatMap λl=>l).length) (n:=ct.length) (xs:=(Yx l1 l2 ct d Uc)) (enc:=λx=>.agg #[.int .i64 x.1.vars,.slice x.2.1 x.1.ts.length x.2.2]) Yf x3
  (F:=λV=>RdK V Ac ct.length 6 (cv ct d Uc)) (λV V' h g=>OE (λ_=>rfl) h g)
  (ci:=3) (dst:=33) (o:=ve (QA (QA (QO f91))) 3) x5 (f:=.tmp 30) (args:=[.tmp 32]) x5 x5 (λk=>rfl) x5
  (λk V _ _=>⟨_,yR k V⟩) (λk V g O=>⟨_,by rw[pO g];exact yS k g V O⟩) (λk V b _=>⟨_,yT k b V⟩) (λk V g=>⟨_,yU k x3 V⟩)
  H u (λpre x P h Q=>Z pre x P h Q) S T (YG H E C) (λq a k1 t C=>?_) (λq a pre k1 t=>p q t a (.inr ⟨pre,trivial,k1⟩))
 refine p q k1.defers a (.inl ⟨_,rfl,?_⟩);rw[Rj (by rw[List.length_attach];omega)]at C;exact C
theorem gC{z:Nat}(w:y9): RetAt prog w 56 #[.int .u8 (z:Int)] (Ξ (decide ((z:Int)>6))) :=
 rk [] λW b a=>a
abbrev HDm:z0:=.func (.func 56) #[] #[]
theorem xr{A:u5}{c:Nat}(l:m.size<=4294967296)(w:y9)(g:RdK w A m.size 1 (λj=>[.int .u8 ((bt m j:Nat):Int)])): RetAt prog w 93 #[Ω A m.size c,.func (.func 56) #[] #[]] (Θ (ZD m.size λj=>decide (((bt m j:Nat):Int)>6))) :=
 rk [P1 (λ(k:Nat)=>(⟨19,[(0,lV A m.size c),(1,.val HDm),(4,iV 0),(6,lV A m.size c),(7,iV (m.size:Int)),(8,iV (k:Int))],[],[]⟩:St)) m.size (λj=>decide (((bt m j:Nat):Int)>6)) (λ(k:Nat)=>[.both [.o 4 3 (.set (.pointer (some (Xi A (k*1+0))))),.o 4 4 (.set (.int .u8 ((bt m k:Nat):Int))),.o 4 5 (.ret (bV (decide (((bt m k:Nat):Int)>6)))),.both [] [.o 6 0 (.eq (iV ((k+1:Nat):Int))),.next 0]] []])] λW h p=>have e:=g.up h (λ_=>rfl);Gz (qV (Ω A m.size c)) (qV HDm) (qI 0) (qV (Ω A m.size c)) (qI (m.size:Int)) (qI ((0:Nat):Int))<|ai (c0 m.size (λj=>decide (((bt m j:Nat):Int)>6))) λ(k:Nat) (b:cQ m.size (λj=>decide (((bt m j:Nat):Int)>6)) k)=>XA (decide ((k:Int)<(m.size:Int))) (λa=>JH (BD _ c k e (XD a)) (jE (i:=k) (o:=0) e (y6 (L1 a)) x4 rfl) (gC (z:=bt m k) W)<|XA (decide (((bt m k:Nat):Int)>6)) (λd=>(show(Θ (k:Int):z0)=(Θ (ZD m.size λj=>decide (((bt m j:Nat):Int)>6)))from Ly (Value.int .i64) (KS (λj=>decide (((bt m j:Nat):Int)>6)) b.2 (y6 (L1 a)) d).symm)) λd=>DM (QQ k (y6 (L1 a))) (qV (Ω A m.size c)) (qV HDm) (qI 0) (qV (Ω A m.size c)) (qI (m.size:Int)) (qI (((k+1):Nat):Int))<|ai (cS b (XD a) d) (O1 (XD a))) λa=>(show(Θ (-1):z0)=(Θ (ZD m.size λj=>decide (((bt m j:Nat):Int)>6)))from Ly (Value.int .i64) (Vk (λj=>decide (((bt m j:Nat):Int)>6)) λj q=>b.2 j (y6 (L7 a))).symm)
theorem xq{A:u5}{c:Nat}(a:m.size<=4294967296)(w:y9)(b:RdK w A m.size 1 (λj=>[.int .u8 ((bt m j:Nat):Int)])): RetAt prog w 55 #[Ω A m.size c,.func (.func 56) #[] #[]] (Ξ (Ye m.size λj=>decide (((bt m j:Nat):Int)>6))) :=
 rk [.o 1 2 (.ret (iV (ZD m.size λj=>decide (((bt m j:Nat):Int)>6))))] λW d f=>have e:=b.up d (λ_=>rfl);ai (xr (c:=c) a W e)<|(show(Ξ (decide ((ZD m.size λj=>decide (((bt m j:Nat):Int)>6))>=0)):z0)=Ξ (Ye m.size λj=>decide (((bt m j:Nat):Int)>6))from Ly Ξ (GL m.size λj=>decide (((bt m j:Nat):Int)>6)))
def Gc(p:Py): Bool:=bif decide ((p.ts.length:Int)>40)then false else !Ye p.ts.length λj=>J9 (Qb p.ts j).c||Ye (Qb p.ts j).m.size λi=>decide (((bt (Qb p.ts j).m i:Nat):Int)>6)
def AE(vars:Int)(a b:Nat)(ζ:Int): Bool:=bif decide (vars>4)then false else bif decide ((a:Int)>4)then false else bif decide ((b:Int)>64)then false else bif decide (ζ>512)then false else true
def Kv(vars:Int)(a b:Nat)(ζ:Int)(c:List Nm)(ps:List AK): Bool:=AE vars a b ζ&&(c.all (λx=>!J9 x)&&ps.all λp=>Gc p.1)
structure okW (bx:List (Nm×Nm)) (κ:List (List Nm)) (l1 l2:List AK) (ct:List Nd) (Ua:Nat->Option Addr) (Uc:Nat->Nat):Prop where
 l0:okL0 bx κ ct
 n1:l1.length<=1048576
 n2:l2.length<=1048576
 okp:∀x,x∈Yx l1 l2 ct Ua Uc->okP x.1
theorem wH{Ab As Ap Ar Ac:u5}{cb cs cc:Nat}{kp kr:Nat}{g:Nat->u5}{Uc:Nat->Nat}(W:y9): DO prog tt W f26 (ja (K9 2 f26) (⟨56,[(1,.ptr 0 0),(2,.ptr 1 0)],[some (35,(tS δ vars Ab bx.length cb As κ.length cs Ap l1.length kp Ar l2.length kr ν ε ζ Ac ct.length cc)),some (4,[bV false])],[]⟩:St) ((AE vars l2.length ct.length ζ)=true)) (O4 56 [tA δ vars Ab bx.length cb As κ.length cs Ap l1.length kp Ar l2.length kr ν ε ζ Ac ct.length cc]) [.gb 1 4 [.gb 1 10 [.gb 1 16 [.both [] [.esc 3]] []] []] []] (λe σ _=>Vj tt (f26).results.toList e σ λs=>Z7 s.plain (s.den e0=Ξ (Kv vars l2.length ct.length ζ (Qo ν ε bx κ ct) (Yx l1 l2 ct g Uc)))) :=
 have c:=eB (Kv vars l2.length ct.length ζ (Qo ν ε bx κ ct) (Yx l1 l2 ct g Uc));Xs (ZG (decide (vars>4)) false (λa=>ZG (decide ((l2.length:Int)>4)) false (λb=>ZG (decide ((ct.length:Int)>64)) false (λd=>XA (decide (ζ>512)) (λf=>(c false (by unfold Kv;rw[show(AE vars l2.length ct.length ζ)=false from by unfold AE;rw[a,b,d,f];rfl];rfl))) λf=>Km (show K9 2 f26=some (Kq 2 f26)from x5) (show(AE vars l2.length ct.length ζ)=true from by unfold AE;rw[a,b,d,f];rfl) (qk (some (35,(tS δ vars Ab bx.length cb As κ.length cs Ap l1.length kp Ar l2.length kr ν ε ζ Ac ct.length cc)))) (qk (some (4,[bV false])))<|trivial) λd=>(c false (by unfold Kv;rw[show(AE vars l2.length ct.length ζ)=false from by unfold AE;rw[a,b,d];rfl];rfl))) λb=>(c false (by unfold Kv;rw[show(AE vars l2.length ct.length ζ)=false from by unfold AE;rw[a,b];rfl];rfl))) λa=>(c false (by unfold Kv;rw[show(AE vars l2.length ct.length ζ)=false from by unfold AE;rw[a];rfl];rfl))) x5
theorem QaT{Ab As Ap Ar Ac:u5}{cb cs cc:Nat}{kp kr:Nat}(W:y9)(R:Res): Xu prog tt (JI prog tt W) (0,0) W (vE (Kq 2 f26)) (⟨56,[(1,.ptr 0 0),(2,.ptr 1 0)],[some (35,(tS δ vars Ab bx.length cb As κ.length cs Ap l1.length kp Ar l2.length kr ν ε ζ Ac ct.length cc)),some (4,[bV false])],[some R]⟩:St) [.mk 3 1 [] (λ(a:Nat)=>.func (.func 89) #[] #[x02 a]) (λ(a:Nat)=>Pm a 35 (tL δ vars Ab bx.length cb As κ.length cs Ap l1.length kp Ar l2.length kr ν ε ζ Ac ct.length cc)) (λ(a:Nat)=>[])] (λe g _=>o7 R (P7 (λy:Nat=>(⟨56,[(1,.ptr 0 0),(2,.ptr 1 0),(28,.val (.func (.func 89) #[] #[x02 y]))],[some (35,(tS δ vars Ab bx.length cb As κ.length cs Ap l1.length kp Ar l2.length kr ν ε ζ Ac ct.length cc)),some (4,[bV false])],[]⟩:St)) 1 (λy:Nat=>Pm y 35 (tL δ vars Ab bx.length cb As κ.length cs Ap l1.length kp Ar l2.length kr ν ε ζ Ac ct.length cc))) e g) :=
 let f:OB:=some (35,(tS δ vars Ab bx.length cb As κ.length cs Ap l1.length kp Ar l2.length kr ν ε ζ Ac ct.length cc));let Z1:OB:=some (4,[bV false]);Xs (ai (c8 δ vars ζ ν ε Ab As Ap Ar Ac bx.length cb κ.length cs l1.length kp l2.length kr ct.length cc W) λ(a:Nat)=>(show(R=R)/\∃y:Nat,(∀(b:z0) (c:Nat->Prop) (d:y9),(Pm a 35 (tL δ vars Ab bx.length cb As κ.length cs Ap l1.length kp Ar l2.length kr ν ε ζ Ac ct.length cc)).φ b c d->(Pm y 35 (tL δ vars Ab bx.length cb As κ.length cs Ap l1.length kp Ar l2.length kr ν ε ζ Ac ct.length cc)).φ b c d)/\((.func (.func 89) #[] #[x02 a]:z0)=.func (.func 89) #[] #[x02 y])/\((f:OB)=f)/\((Z1:OB)=Z1)/\True from⟨rfl,a,λb c d h=>h,rfl,rfl,rfl,trivial⟩)) x5
abbrev HDn(y:Nat):z0:=.func (.func 89) #[] #[.pointer (some ⟨y,0,none⟩)]
theorem QaU{Ab As Ap Ar Ac:u5}{cb cs cc:Nat}{kp kr:Nat}{y:Nat}{x:Nm}(W:y9)(R:Res): Xu prog tt (JI prog tt W) ((⟨56,[(1,.ptr 0 0),(2,.ptr 1 0),(28,.val (.func (.func 89) #[] #[x02 y]))],[some (35,(tS δ vars Ab bx.length cb As κ.length cs Ap l1.length kp Ar l2.length kr ν ε ζ Ac ct.length cc)),some (4,[bV false])],[]⟩:St).bs.length,0) W (sJ (Kq 2 f26)) ({ ((⟨56,[(1,.ptr 0 0),(2,.ptr 1 0),(28,.val (.func (.func 89) #[] #[x02 y]))],[some (35,(tS δ vars Ab bx.length cb As κ.length cs Ap l1.length kp Ar l2.length kr ν ε ζ Ac ct.length cc)),some (4,[bV false])],[]⟩:St)).push (some 29) (.val (nA x))with rs:=[some R] }:St) [.o 5 1 (.ret (bV (J9 x))),.both [] []] (lp prog tt W (⟨56,[(1,.ptr 0 0),(2,.ptr 1 0),(28,.val (.func (.func 89) #[] #[x02 y]))],[some (35,(tS δ vars Ab bx.length cb As κ.length cs Ap l1.length kp Ar l2.length kr ν ε ζ Ac ct.length cc)),some (4,[bV false])],[]⟩:St) [some (35,(tS δ vars Ab bx.length cb As κ.length cs Ap l1.length kp Ar l2.length kr ν ε ζ Ac ct.length cc)),some (4,[bV false])] (sK (Kq 2 f26)) (!J9 x) R) :=
 let a:OB:=some (35,(tS δ vars Ab bx.length cb As κ.length cs Ap l1.length kp Ar l2.length kr ν ε ζ Ac ct.length cc));let Z1:OB:=some (4,[bV false]);Xs (Km (Rq R:R=R) (qV (HDn y)) (qk a) (qk Z1)<|(λ(d:Res)=>ai (sk x W)<|XA (J9 x) (λc=>Km (Rq d) (qV (HDn y)) (qk a) (qk Z1)<|(show((!J9 x)=false)from(by rw[c];rfl))) λc=>DM (Rq d) (qk a) (qk Z1) (qk (some (32,[bV x.b,sV x.s,iV x.e]))) (qV (HDn y)) (qk a) (qk Z1)<|(show((!J9 x)=true)from(by rw[c];rfl)))) x5
theorem QaV{Ab As Ap Ar Ac:u5}{cb cs cc:Nat}{kp kr:Nat}{z:Nat}(W:y9)(R:Res): Xu prog tt (JI prog tt W) (0,0) W (vE (SG (Kq 2 f26))) (⟨56,[(1,.ptr 0 0),(2,.ptr 1 0),(28,.val (.func (.func 89) #[] #[x02 z]))],[some (35,(tS δ vars Ab bx.length cb As κ.length cs Ap l1.length kp Ar l2.length kr ν ε ζ Ac ct.length cc)),some (4,[bV false])],[some R]⟩:St) [.mk 7 1 [] (λ(a:Nat)=>.func (.func 91) #[] #[x02 a]) (λ(a:Nat)=>Pm a 35 (tL δ vars Ab bx.length cb As κ.length cs Ap l1.length kp Ar l2.length kr ν ε ζ Ac ct.length cc)) (λ(a:Nat)=>[])] (λe g _=>o7 R (P7 (λy:Nat=>(⟨56,[(1,.ptr 0 0),(2,.ptr 1 0),(33,.val (.func (.func 91) #[] #[x02 y]))],[some (35,(tS δ vars Ab bx.length cb As κ.length cs Ap l1.length kp Ar l2.length kr ν ε ζ Ac ct.length cc)),some (4,[bV false])],[]⟩:St)) 1 (λy:Nat=>Pm y 35 (tL δ vars Ab bx.length cb As κ.length cs Ap l1.length kp Ar l2.length kr ν ε ζ Ac ct.length cc))) e g) :=
 let f:OB:=some (35,(tS δ vars Ab bx.length cb As κ.length cs Ap l1.length kp Ar l2.length kr ν ε ζ Ac ct.length cc));let Z1:OB:=some (4,[bV false]);Xs (ai (pY δ vars ζ ν ε Ab As Ap Ar Ac bx.length cb κ.length cs l1.length kp l2.length kr ct.length cc W) λ(a:Nat)=>(show(R=R)/\∃y:Nat,(∀(b:z0) (c:Nat->Prop) (d:y9),(Pm a 35 (tL δ vars Ab bx.length cb As κ.length cs Ap l1.length kp Ar l2.length kr ν ε ζ Ac ct.length cc)).φ b c d->(Pm y 35 (tL δ vars Ab bx.length cb As κ.length cs Ap l1.length kp Ar l2.length kr ν ε ζ Ac ct.length cc)).φ b c d)/\((.func (.func 91) #[] #[x02 a]:z0)=.func (.func 91) #[] #[x02 y])/\((f:OB)=f)/\((Z1:OB)=Z1)/\True from⟨rfl,a,λb c d h=>h,rfl,rfl,rfl,trivial⟩)) x5
abbrev HDo(y:Nat):z0:=.func (.func 91) #[] #[.pointer (some ⟨y,0,none⟩)]
theorem QaW{Ab As Ap Ar Ac:u5}{cb cs cc:Nat}{kp kr:Nat}{y:Nat}{x:AK}(r:okP x.1)(W:y9)(u:RdK W x.2.1 x.1.ts.length 4 (λj=>QG (Qb x.1.ts j)))(R:Res): Xu prog tt (JI prog tt W) ((⟨56,[(1,.ptr 0 0),(2,.ptr 1 0),(33,.val (.func (.func 91) #[] #[x02 y]))],[some (35,(tS δ vars Ab bx.length cb As κ.length cs Ap l1.length kp Ar l2.length kr ν ε ζ Ac ct.length cc)),some (4,[bV false])],[]⟩:St).bs.length,0) W (sJ (SG (Kq 2 f26))) ({ ((⟨56,[(1,.ptr 0 0),(2,.ptr 1 0),(33,.val (.func (.func 91) #[] #[x02 y]))],[some (35,(tS δ vars Ab bx.length cb As κ.length cs Ap l1.length kp Ar l2.length kr ν ε ζ Ac ct.length cc)),some (4,[bV false])],[]⟩:St)).push (some 34) (.val (.agg #[Θ x.1.vars,Ω x.2.1 x.1.ts.length x.2.2]))with rs:=[some R] }:St) [.both [] [P1 (λ(k:Nat)=>(⟨56,[(1,.ptr 0 0),(2,.ptr 1 0),(33,.val (.func (.func 91) #[] #[x02 y])),(40,lV x.2.1 x.1.ts.length x.2.2),(41,iV (x.1.ts.length:Int)),(42,iV (k:Int))],[none,none,none],[none]⟩:St)) x.1.ts.length (λj=>J9 (Qb x.1.ts j).c||Ye (Qb x.1.ts j).m.size λi=>decide (((bt (Qb x.1.ts j).m i:Nat):Int)>6)) (λ(k:Nat)=>[.both [.o 13 0 (.set (.pointer (some (Xi x.2.1 (k*4+0))))),.o 13 1 (.set (.agg #[Ψ ((Qb x.1.ts k).m),Ξ ((Qb x.1.ts k).c.b),Ψ ((Qb x.1.ts k).c.s),Θ ((Qb x.1.ts k).c.e)])),.o 14 2 (.ret (bV (J9 (Qb x.1.ts k).c))),.gb 14 4 [.mk 14 6 [] (λ(d:Hp)=>Ω d.1 (Qb x.1.ts k).m.size d.2) (λ(d:Hp)=>I2 (Qb x.1.ts k).m d.1) (λ(d:Hp)=>[.o 14 7 (.retr [1] (Ξ (Ye (Qb x.1.ts k).m.size λi=>decide (((bt (Qb x.1.ts k).m i:Nat):Int)>6)))),.both [] [.o 16 0 (.eq (iV ((k+1:Nat):Int))),.next 0]])] []] []])]] (lp prog tt W (⟨56,[(1,.ptr 0 0),(2,.ptr 1 0),(33,.val (.func (.func 91) #[] #[x02 y]))],[some (35,(tS δ vars Ab bx.length cb As κ.length cs Ap l1.length kp Ar l2.length kr ν ε ζ Ac ct.length cc)),some (4,[bV false])],[]⟩:St) [some (35,(tS δ vars Ab bx.length cb As κ.length cs Ap l1.length kp Ar l2.length kr ν ε ζ Ac ct.length cc)),some (4,[bV false])] (sK (SG (Kq 2 f26))) (Gc x.1) R) :=
 let l:OB:=some (35,(tS δ vars Ab bx.length cb As κ.length cs Ap l1.length kp Ar l2.length kr ν ε ζ Ac ct.length cc));let Z1:OB:=some (4,[bV false]);let Z2:OB:=some (52,[iV x.1.vars,lV x.2.1 x.1.ts.length x.2.2]);Xs (Km (Rq R:R=R) (qV (HDo y)) (qk l) (qk Z1)<|(λ(q:Res)=>XA (decide ((x.1.ts.length:Int)>40)) (λg=>Km (Rq q) (qV (HDo y)) (qk l) (qk Z1)<|(show((Gc x.1)=false)from(by unfold Gc;rw[g];rfl))) λg=>Zb (qV (HDo y)) (qV (Ω x.2.1 x.1.ts.length x.2.2)) (qI (x.1.ts.length:Int)) (qI ((0:Nat):Int)) (qk l) (qk Z1) (qk Z2) (Yu q)<|ai (c0 x.1.ts.length (λj=>J9 (Qb x.1.ts j).c||Ye (Qb x.1.ts j).m.size λi=>decide (((bt (Qb x.1.ts j).m i:Nat):Int)>6))) λ(k:Nat) (v:cQ x.1.ts.length (λj=>J9 (Qb x.1.ts j).c||Ye (Qb x.1.ts j).m.size λi=>decide (((bt (Qb x.1.ts j).m i:Nat):Int)>6)) k)=>XA (decide ((k:Int)<(x.1.ts.length:Int))) (λh=>JH (YN x.2.2 k u (XD h)) (Zf k 0 u (XD h) x4 rfl rfl) (sk (Qb x.1.ts k).c W)<|ZG (J9 (Qb x.1.ts k).c) false (λt=>ai (Cn prog W 9 82 5 x5 x5 x5 (Qb x.1.ts k).m) λ(d:Hp)=>ai (show AQ prog W [I2 (Qb x.1.ts k).m d.1] 55 #[Ω d.1 (Qb x.1.ts k).m.size d.2,.func (.func 56) #[] #[]] (Ξ (Ye (Qb x.1.ts k).m.size λi=>decide (((bt (Qb x.1.ts k).m i:Nat):Int)>6)))from⟨λa w=>call55 a w,λz B D E C=>(xq (A:=d.1) (c:=d.2) (m:=(Qb x.1.ts k).m) (y6 ((r.tms _ (Zh (XD h))).1)) z (ia C)).at⟩)<|XA (Ye (Qb x.1.ts k).m.size λi=>decide (((bt (Qb x.1.ts k).m i:Nat):Int)>6)) (λp=>Km (Rq q) (qV (HDo y)) (qk l) (qk Z1)<|(show((Gc x.1)=false)from(by unfold Gc;rw[g,KK (f:=(λj=>J9 (Qb x.1.ts j).c||Ye (Qb x.1.ts j).m.size λi=>decide (((bt (Qb x.1.ts j).m i:Nat):Int)>6))) (XD h) (show(J9 (Qb x.1.ts k).c||(Ye (Qb x.1.ts k).m.size λi=>decide (((bt (Qb x.1.ts k).m i:Nat):Int)>6)))=true from by rw[t,p];rfl)];rfl))) λp=>Zb (QQ k (y7 (L1 h) r.len)) (qV (HDo y)) (qV (Ω x.2.1 x.1.ts.length x.2.2)) (qI (x.1.ts.length:Int)) (qI (((k+1):Nat):Int)) (qk l) (qk Z1) (qk Z2)<|ai (Yu q)<|ai (cS v (XD h) (show(J9 (Qb x.1.ts k).c||(Ye (Qb x.1.ts k).m.size λi=>decide (((bt (Qb x.1.ts k).m i:Nat):Int)>6)))=false from by rw[t,p];rfl)) (O1 (XD h))) λt=>Km (Rq q) (qV (HDo y)) (qk l) (qk Z1)<|(show((Gc x.1)=false)from(by unfold Gc;rw[g,KK (f:=(λj=>J9 (Qb x.1.ts j).c||Ye (Qb x.1.ts j).m.size λi=>decide (((bt (Qb x.1.ts j).m i:Nat):Int)>6))) (XD h) (show(J9 (Qb x.1.ts k).c||(Ye (Qb x.1.ts k).m.size λi=>decide (((bt (Qb x.1.ts k).m i:Nat):Int)>6)))=true from by rw[t];rfl)];rfl))) λh=>DM (Rq q) (qk l) (qk Z1) (qk Z2) (qV (HDo y)) (qk l) (qk Z1)<|(show((Gc x.1)=true)from(by unfold Gc;rw[g,J2 (f:=(λj=>J9 (Qb x.1.ts j).c||Ye (Qb x.1.ts j).m.size λi=>decide (((bt (Qb x.1.ts j).m i:Nat):Int)>6))) (λj F=>v.2 j (y6 (L7 h)))];rfl)))) x5
theorem wI{Ab As Ap Ar Ac:u5}{cb cs cc:Nat}{kp kr:Nat}{b:Nat->u5}{Uc:Nat->Nat}{y:Nat}(a:(AE vars l2.length ct.length ζ)=true)(d:(Qo ν ε bx κ ct).all (λx=>!J9 x)=true)(f:((Yx l1 l2 ct b Uc).all λp=>Gc p.1)=true)(W:y9)(R:Res): Xu prog tt (JI prog tt W) (0,0) W (SG (SG (Kq 2 f26))) (⟨56,[(1,.ptr 0 0),(2,.ptr 1 0),(33,.val (.func (.func 91) #[] #[x02 y]))],[some (35,(tS δ vars Ab bx.length cb As κ.length cs Ap l1.length kp Ar l2.length kr ν ε ζ Ac ct.length cc)),some (4,[bV false])],[some R]⟩:St) [] (λe c _=>Vj tt (f26).results.toList e c λs=>Oa R c.rs (Z7 s.plain (s.den e0=Ξ (Kv vars l2.length ct.length ζ (Qo ν ε bx κ ct) (Yx l1 l2 ct b Uc))))) :=
 Xs ((show(R=R)/\((Ξ true:z0)=Ξ (Kv vars l2.length ct.length ζ (Qo ν ε bx κ ct) (Yx l1 l2 ct b Uc)))from⟨rfl,by unfold Kv;rw[a,d,f];rfl⟩)) x5
theorem mW(ν ε:Nm)(δ vars ζ:Int)(l1 l2:List AK)(lo cb cs cc:Nat)(Ua:Nat->u5)(Uc:Nat->Nat)(Ap Ar:u5)(kp kr:Nat){Ab As Ac:u5}{us:Nat->z0}(f:okW bx κ l1 l2 ct Ua Uc)(w:y9)(F:RdK w Ab bx.length 6 (λj=>Jw (Xc bx j)))(G:RdK w As κ.length 1 (λj=>[us j]))(H:∀j,j<κ.length->SlV lo 3 V0 w (QC κ j) (us j))(I:RdK w Ac ct.length 6 (cv ct Ua Uc))(t:(RdK w Ap l1.length 2 (λi=>KC (l1.getD i Yf))/\(Ap=none->l1.length=0/\kp=0)))(u:(RdK w Ar l2.length 2 (λi=>KC (l2.getD i Yf))/\(Ar=none->l2.length=0/\kr=0)))(J:∀x,x∈(Yx l1 l2 ct Ua Uc)->RdK w x.2.1 x.1.ts.length 4 (λj=>QG (Qb x.1.ts j))): RetAt prog w 26 #[tA δ vars Ab bx.length cb As κ.length cs Ap l1.length kp Ar l2.length kr ν ε ζ Ac ct.length cc] (.bool (Kv vars l2.length ct.length ζ (Qo ν ε bx κ ct) (Yx l1 l2 ct Ua Uc))):=by
 refine OI Qu QR (λa w=>call26 a w) func26 (args:=[tA δ vars Ab bx.length cb As κ.length cs Ap l1.length kp Ar l2.length kr ν ε ζ Ac ct.length cc]) x5 λW g=>?_
 have al:RdK W Ab bx.length 6 (λj=>Jw (Xc bx j)):=F.below (λ_=>rfl) g;have ao:RdK W As κ.length 1 (λj=>[us j]):=G.below (λ_=>rfl) g;have aw:∀j,j<κ.length->SlV lo 3 V0 W (QC κ j) (us j):=λj z=>(H j z).below YR g
 have aB:RdK W Ac ct.length 6 (cv ct Ua Uc):=I.below (λ_=>rfl) g;have bd:(RdK W Ap l1.length 2 (λi=>KC (l1.getD i Yf))/\(Ap=none->l1.length=0/\kp=0)):=⟨t.1.below (λ_=>rfl) g,t.2⟩
 have bi:(RdK W Ar l2.length 2 (λi=>KC (l2.getD i Yf))/\(Ar=none->l2.length=0/\kr=0)):=⟨u.1.below (λ_=>rfl) g,u.2⟩
 have K:∀x,x∈(Yx l1 l2 ct Ua Uc)->RdK W x.2.1 x.1.ts.length 4 (λj=>QG (Qb x.1.ts j)):=λx e=>(J x e).below (λ_=>rfl) g
 refine⟨_,_,wH W,λb σ r a w1 he hS=>?_⟩;obtain⟨hb,A,L⟩:=Bv he hS;rw[<- IR hb];refine Iz f26 (P7 (λy:Nat=>(⟨56,[(1,.ptr 0 0),(2,.ptr 1 0),(28,.val (.func (.func 89) #[] #[.pointer (some ⟨y,0,none⟩)]))],[some (35,(tS δ vars Ab bx.length cb As κ.length cs Ap l1.length kp Ar l2.length kr ν ε ζ Ac ct.length cc)),some (4,[bV false])],[]⟩:St)) 1 (λy:Nat=>Pm y 35 (tL δ vars Ab bx.length cb As κ.length cs Ap l1.length kp Ar l2.length kr ν ε ζ Ac ct.length cc))) ([]) Qu QR L rfl x5 (λR=>QaT W R) (λD h=>nomatch h) λσ2 r2 a2 l M N _=>?_
 obtain⟨y,hφ,n⟩:=BJ M N;obtain⟨_,hy,_⟩:=(show _/\_/\_ from hφ)
 have c:Below w.heap.size w l:=g.trans (n.see.low.mono g.size);have O:RdK l Ab bx.length 6 (λj=>Jw (Xc bx j)):=F.below (λ_=>rfl) c;have P:RdK l As κ.length 1 (λj=>[us j]):=G.below (λ_=>rfl) c;have Q:∀j,j<κ.length->SlV lo 3 V0 l (QC κ j) (us j):=λj z=>(H j z).below YR c
 have S:RdK l Ac ct.length 6 (cv ct Ua Uc):=I.below (λ_=>rfl) c;have bk:(RdK l Ap l1.length 2 (λi=>KC (l1.getD i Yf))/\(Ap=none->l1.length=0/\kp=0)):=⟨t.1.below (λ_=>rfl) c,t.2⟩
 have bl:(RdK l Ar l2.length 2 (λi=>KC (l2.getD i Yf))/\(Ar=none->l2.length=0/\kr=0)):=⟨u.1.below (λ_=>rfl) c,u.2⟩
 have bs:∀x,x∈(Yx l1 l2 ct Ua Uc)->RdK l x.2.1 x.1.ts.length 4 (λj=>QG (Qb x.1.ts j)):=λx e=>(J x e).below (λ_=>rfl) c
 have hg:a2.eval (sL (Kq 2 f26))=.func (.func 89) #[] #[.pointer (some ⟨y,0,none⟩)]:=by
  rw[show sL (Kq 2 f26)=.tmp 28 from x5];exact(n.see.ts 28 _ rfl).1
 have hp:wY (Kq 2 f26)=29:=x5;refine Eu (fn:=f26) (v:=.bool (Kv vars l2.length ct.length ζ (Qo ν ε bx κ ct) (Yx l1 l2 ct Ua Uc))) (bsR:=[some (35,(tS δ vars Ab bx.length cb As κ.length cs Ap l1.length kp Ar l2.length kr ν ε ζ Ac ct.length cc)),some (4,[bV false])]) (xs:=(Qo ν ε bx κ ct)) (enc:=λx=>nA x) (good:=λx=>!J9 x) Qu QR (b:=(Kq 2 f26)) x5 rfl rfl rfl (by rw[hp];rfl) (λx e=>⟨_,λR=>by rw[hp];exact QaU W R⟩) n hg (λa w=>call89 a w) (EY f.l0 l hy O P Q S) List.nodup_nil (λD h=>nomatch h) (λk=>?_) (λB D r3 w3 h1 h2 h3=>?_)
 ·obtain⟨x,e,o⟩:=k;refine Xs (show(.bool false:z0)=.bool (Kv vars l2.length ct.length ζ (Qo ν ε bx κ ct) (Yx l1 l2 ct Ua Uc))from ?_) x5;unfold Kv;rw[show((Qo ν ε bx κ ct).all λx=>!J9 x)=false from List.all_eq_false.2 ⟨x,e,by simp[o]⟩,Bool.false_and,Uf]
 refine Iz f26 (P7 (λy:Nat=>(⟨56,[(1,.ptr 0 0),(2,.ptr 1 0),(33,.val (.func (.func 91) #[] #[.pointer (some ⟨y,0,none⟩)]))],[some (35,(tS δ vars Ab bx.length cb As κ.length cs Ap l1.length kp Ar l2.length kr ν ε ζ Ac ct.length cc)),some (4,[bV false])],[]⟩:St)) 1 (λy:Nat=>Pm y 35 (tL δ vars Ab bx.length cb As κ.length cs Ap l1.length kp Ar l2.length kr ν ε ζ Ac ct.length cc))) (D::[]) Qu QR h1 rfl x5 (λR=>QaV W R) h3 λσ4 r4 a4 m T U V=>?_
 obtain⟨y4,X,q⟩:=BJ T U;obtain⟨_,Y,_⟩:=(show _/\_/\_ from X)
 have d:Below w.heap.size w m:=g.trans (q.see.low.mono g.size);have bX:RdK m Ab bx.length 6 (λj=>Jw (Xc bx j)):=F.below (λ_=>rfl) d;have bY:RdK m As κ.length 1 (λj=>[us j]):=G.below (λ_=>rfl) d;have ca:∀j,j<κ.length->SlV lo 3 V0 m (QC κ j) (us j):=λj z=>(H j z).below YR d
 have Z:RdK m Ac ct.length 6 (cv ct Ua Uc):=I.below (λ_=>rfl) d;have ad:(RdK m Ap l1.length 2 (λi=>KC (l1.getD i Yf))/\(Ap=none->l1.length=0/\kp=0)):=⟨t.1.below (λ_=>rfl) d,t.2⟩
 have ae:(RdK m Ar l2.length 2 (λi=>KC (l2.getD i Yf))/\(Ar=none->l2.length=0/\kr=0)):=⟨u.1.below (λ_=>rfl) d,u.2⟩
 have cd:∀x,x∈(Yx l1 l2 ct Ua Uc)->RdK m x.2.1 x.1.ts.length 4 (λj=>QG (Qb x.1.ts j)):=λx e=>(J x e).below (λ_=>rfl) d
 have ag:a4.eval (sL (SG (Kq 2 f26)))=.func (.func 91) #[] #[.pointer (some ⟨y4,0,none⟩)]:=by
  rw[show sL (SG (Kq 2 f26))=.tmp 33 from x5];exact(q.see.ts 33 _ rfl).1
 have C:wY (SG (Kq 2 f26))=34:=x5;refine Eu (fn:=f26) (v:=.bool (Kv vars l2.length ct.length ζ (Qo ν ε bx κ ct) (Yx l1 l2 ct Ua Uc))) (bsR:=[some (35,(tS δ vars Ab bx.length cb As κ.length cs Ap l1.length kp Ar l2.length kr ν ε ζ Ac ct.length cc)),some (4,[bV false])]) (xs:=(Yx l1 l2 ct Ua Uc)) (enc:=λx=>.agg #[.int .i64 x.1.vars,.slice x.2.1 x.1.ts.length x.2.2]) (good:=λx=>Gc x.1) Qu QR (b:=(SG (Kq 2 f26))) x5 rfl rfl rfl (by rw[C];rfl) (λx e=>⟨_,λR=>by rw[C];exact QaW (f.okp x e) W (K x e) R⟩) q ag (λa w=>call91 a w) (RX f.n1 f.n2 f.l0.hc m Y ad ae Z) h2 V (λk=>?_) (λs D2 r6 w6 k1 k2 k3=>?_)
 ·obtain⟨x,e,o⟩:=k;refine Xs (show(.bool false:z0)=.bool (Kv vars l2.length ct.length ζ (Qo ν ε bx κ ct) (Yx l1 l2 ct Ua Uc))from ?_) x5;unfold Kv;rw[show((Yx l1 l2 ct Ua Uc).all λp=>Gc p.1)=false from List.all_eq_false.2 ⟨x,e,by simp[o]⟩,Uf,Uf]
 ·exact SE (fn:=f26) Qu QR k1 rfl (λR=>wI A (Lc.2 B) (Lc.2 s) W R) k2 k3
def gS(x:PV): List Py:=(x.ps++x.θ)++x.ι.map (·.sum)
def ee(l1 l2:List AK)(ct:List Nd)(a:Nat->u5)(Uc:Nat->Nat): List AK:=(l1++l2)++aq ct a Uc
theorem Iv(l1 l2:List AK)(ct:List Nd)(a:Nat->u5)(Uc:Nat->Nat): Yx l1 l2 ct a Uc=ee l1 l2 ct a Uc:=by simp[Yx,ee]
def Iw(l:List Py)(U:Nat->u5)(u:Nat->Nat): List AK:=(List.range l.length).map λj=>(Q7 l j,U j,u j)
theorem Gk(l:List Py)(U:Nat->u5)(u:Nat->Nat): (Iw l U u).length=l.length:=by simp[Iw]
theorem kS{l:List Py}{U:Nat->u5}{u:Nat->Nat}{j:Nat}(h:j<l.length): (Iw l U u).getD j Yf=(Q7 l j,U j,u j):=by
 rw[ZP (by rw[Gk];exact h)];simp[Iw]
theorem dg(l:List Py)(U:Nat->u5)(u:Nat->Nat): (Iw l U u).map (λx:AK=>x.1)=l:=by
 apply List.ext_getElem?;intro j;unfold Iw;by_cases a:j<l.length
 ·rw[List.map_map,List.getElem?_map,List.getElem?_range a,m0 a];show some (Q7 l j)=_;unfold Q7;rw[ZP a]
 ·rw[m1 x7,m1 x3]
theorem zh{A a:u5}{n b c d:Nat}(h:(.slice A n c:z0)=.slice a b d): A=a/\n=b/\c=d:=by
 injection h with e f g
 exact⟨e,f,g⟩
structure RowsH (lo:Nat) (w:World) (x:PV) (Ab As Ap Ar Ac:Option Addr) (cb cs kp kr cc:Nat) (Us Up Ur Uc:Nat->Option Addr) (us up ur uc:Nat->Nat):Prop where
 b:RdK w Ab x.box.length 6 (λj=>Jw (Xc x.box j))
 s:RdK w As x.κ.length 1 (zZ x.κ Us us)
 sp:∀j,j<x.κ.length->SlV lo 3 V0 w (QC x.κ j) (.slice (Us j) (QC x.κ j).length (us j))
 q:RdK w Ap x.ps.length 2 (yW x.ps Up up)
 qn:Ap=none->x.ps.length=0/\kp=0
 qs:∀j,j<x.ps.length->SlV lo 4 Vv w (Q7 x.ps j).ts (.slice (Up j) (Q7 x.ps j).ts.length (up j))
 r:RdK w Ar x.θ.length 2 (yW x.θ Ur ur)
 rn:Ar=none->x.θ.length=0/\kr=0
 rs:∀j,j<x.θ.length->SlV lo 4 Vv w (Q7 x.θ j).ts (.slice (Ur j) (Q7 x.θ j).ts.length (ur j))
 c:RdK w Ac x.ι.length 6 (cv x.ι Uc uc)
 cn:∀j,j<x.ι.length->SlV lo 4 Vv w (Qw x.ι j).sum.ts (.slice (Uc j) (Qw x.ι j).sum.ts.length (uc j))
theorem MH{lo:Nat}{w:y9}{x:PV}(h:Five lo w x vb vs vp vr vc): ∃Ab As Ap Ar Ac cb cs kp kr cc Us Up Ur Uc us up ur uc,vb=.slice Ab x.box.length cb/\vs=.slice As x.κ.length cs/\vp=.slice Ap x.ps.length kp/\vr=.slice Ar x.θ.length kr/\vc=.slice Ac x.ι.length cc/\RowsH lo w x Ab As Ap Ar Ac cb cs kp kr cc Us Up Ur Uc us up ur uc:=by
 obtain⟨c,d,e,f,g⟩:=h;obtain⟨Ab,cb,i,_,_,j⟩:=SlV.enc (nm0,nm0) c;obtain⟨As,cs,Us,us,k,_,_,l,m⟩:=SlV.rdPt2 d;obtain⟨Ap,kp,Up,up,n,_,o,p,a⟩:=SlV.rdPy2 e;obtain⟨Ar,kr,Ur,ur,q,_,r,s,b⟩:=SlV.rdPy2 f;obtain⟨Ac,cc,Uc,uc,t,_,_,u,v⟩:=SlV.rdNd2 g;exact⟨Ab,As,Ap,Ar,Ac,cb,cs,kp,kr,cc,Us,Up,Ur,Uc,us,up,ur,uc,i,k,n,q,t,j,l,m,p,o,a,s,r,b,u,v⟩
theorem dQ{lo:Nat}{w:y9}{A:u5}{c:Nat}(h:SlV lo 4 Vv w l (.slice A l.length c)): RdK w A l.length 4 (λj=>QG (Qb l j)):=by
 obtain⟨b,d,e,_,_,a⟩:=SlV.enc DL h;obtain⟨rfl,_,rfl⟩:=zh e;exact a
section
variable {lo:Nat} {w:World} {x:PV} {Ab As Ap Ar Ac:Option Addr} {cb cs kp kr cc:Nat} {Us Up Ur Uc:Nat->Option Addr} {us up ur uc:Nat->Nat} (h:RowsH lo w x Ab As Ap Ar Ac cb cs kp kr cc Us Up Ur Uc us up ur uc)
include h
theorem RowsH.below{e:y9}(a:Below w.heap.size w e): RowsH lo e x Ab As Ap Ar Ac cb cs kp kr cc Us Up Ur Uc us up ur uc :=
 ⟨h.b.below (λ_=>rfl) a,h.s.below (λ_=>rfl) a,λj d=>(h.sp j d).below YR a,h.q.below (λ_=>rfl) a,h.qn,λj d=>(h.qs j d).below YD a,h.r.below (λ_=>rfl) a,h.rn,λj d=>(h.rs j d).below YD a,h.c.below (λ_=>rfl) a,λj d=>(h.cn j d).below YD a⟩
theorem RowsH.q1:RdK w Ap (Iw x.ps Up up).length 2 (λi=>KC ((Iw x.ps Up up).getD i Yf))/\(Ap=none->(Iw x.ps Up up).length=0/\kp=0):=by
 rw[Gk];exact⟨h.q.congr λj a=>by rw[kS a];rfl,h.qn⟩
theorem RowsH.r1:RdK w Ar (Iw x.θ Ur ur).length 2 (λi=>KC ((Iw x.θ Ur ur).getD i Yf))/\(Ar=none->(Iw x.θ Ur ur).length=0/\kr=0):=by
 rw[Gk];exact⟨h.r.congr λj a=>by rw[kS a];rfl,h.rn⟩
theorem RowsH.X(y:AK)(a:y∈ee (Iw x.ps Up up) (Iw x.θ Ur ur) x.ι Uc uc): RdK w y.2.1 y.1.ts.length 4 (λj=>QG (Qb y.1.ts j)):=by
 unfold ee at a;simp only[Rs]at a;rcases a with(a|a)|a
 ·obtain⟨j,b,rfl⟩:=Ri.1 a;exact dQ (h.qs j (Lr.1 b))
 ·obtain⟨j,b,rfl⟩:=Ri.1 a;exact dQ (h.rs j (Lr.1 b))
 ·obtain⟨j,b,rfl⟩:=Ri.1 a;exact dQ (h.cn j (Lr.1 b))
omit h in
theorem gT:(ee (Iw x.ps Up up) (Iw x.θ Ur ur) x.ι Uc uc).map (λx:AK=>x.1)=gS x:=by
 unfold ee gS;rw[Th,Th,dg,dg];congr 1;unfold aq;rw[List.map_map];apply List.ext_getElem?;intro j;by_cases a:j<x.ι.length
 ·rw[List.getElem?_map,List.getElem?_range a,List.getElem?_map,m0 a];show some (Qw x.ι j).sum=_;unfold Qw;rw[ZP a];rfl
 ·rw[m1 x7,m1 x7]
end
def Kl(x:PV): Bool:=AE x.vars x.θ.length x.ι.length x.ζ&&((Qo x.ν x.ε x.box x.κ x.ι).all (λx=>!J9 x)&&(gS x).all Gc)
structure okX (x:PV):Prop where
 o:okO x.δ x.vars x.ν x.ε x.box x.κ x.ps x.θ x.ι
theorem ou(l:List AK)(f:Py->Bool): (l.all λp=>f p.1)=(l.map (·.1)).all f:=by rw[List.all_map];rfl
theorem RL{s:Nm×Nm}(h:s∈bx): s.1∈Qo ν ε bx κ ct/\s.2∈Qo ν ε bx κ ct:=by
 unfold Qo;constructor<;>(simp only[Rs,Uk];left;left;right;exact⟨s,h,x6⟩)
theorem tm{x:PV}(h:okX x)(p:Py)(a:p∈gS x): okP p:=by
 unfold gS at a;simp only[Rs,Ri]at a;rcases a with(a|a)|⟨n,a,b⟩
 ·exact h.o.okp _ a
 ·exact h.o.okr _ a
 ·rw[<- b];exact h.o.okc _ a
theorem nL{lo:Nat}{t:Int}(x:PV)(h:okX x)(w:y9)(n:Q0 w)(u:Five lo w x vb vs vp vr vc)(g:∀W,Below w.heap.size w W->AD x=true->Kl x=true->x.box.length=0->RetAt prog W 27 #[vs] (.int .i64 t)): RetAt prog w 10 #[yA x vb vs vp vr vc] (.int .i64 (E7 (AD x) (Kl x) x.box.length t (KM x.box))):=by
 obtain⟨d⟩:=h;obtain⟨Ab,As,Ap,Ar,Ac,cb,cs,kp,kr,cc,Us,Up,Ur,Uc,us,up,ur,uc,rfl,rfl,rfl,rfl,rfl,a⟩:=MH u;have e:=gT (x:=x) (Up:=Up) (Ur:=Ur) (Uc:=Uc) (up:=up) (ur:=ur) (uc:=uc);have j:∀y,y∈Yx (Iw x.ps Up up) (Iw x.θ Ur ur) x.ι Uc uc->okP y.1:=λy l=>tm ⟨d⟩ _ (by rw[Iv]at l;rw[<- e];exact Ri.2 ⟨y,l,rfl⟩)
 have m:Kv x.vars (Iw x.θ Ur ur).length x.ι.length x.ζ (Qo x.ν x.ε x.box x.κ x.ι) (Yx (Iw x.ps Up up) (Iw x.θ Ur ur) x.ι Uc uc)=Kl x:=by
  unfold Kv Kl;rw[ou,Iv,e,Gk]
 refine nM (AD x) (Kl x) t x (L9 d.l0.hb x4) (λs k=>⟨d.nums _ (RL k).1,d.nums _ (RL k).2⟩) w n a.b ?_ ?_ ?_
 ·intro W f;have a:=a.below f;exact pB d W (Ql n f) a.b a.s a.sp a.c a.cn a.q a.qs a.r a.rs
 ·intro W f _;have a:=a.below f;have p:=mW x.ν x.ε x.δ x.vars x.ζ (Iw x.ps Up up) (Iw x.θ Ur ur) lo cb cs cc Uc uc Ap Ar kp kr ⟨d.l0,by rw[Gk];exact d.np,by rw[Gk];exact d.nr,j⟩ W a.b a.s a.sp a.c a.q1 a.r1 (λy l=>a.X y (by rw[<- Iv];exact l));rw[m,Gk,Gk]at p;exact p
 ·intro W f v z A;exact g W f (y8 v) (y8 z) (y8 A)
noncomputable def chkN(x:PV): Int:=E7 (AD x) (Kl x) x.box.length (TF x.κ x.vars.toNat) (KM x.box)
theorem pq{p:List Nm}{x:Nm}(h:p∈κ)(a:x∈p): x∈Qo ν ε bx κ ct:=by
 unfold Qo;simp only[Rs,Uk];left;right
 exact⟨p,h,a⟩
theorem WP{x:PV}(h:AD x=true)(g:x.box.length=0): ∃N:Nat,x.vars=(N:Int)/\1<=N/\x.κ.length=N+1/\∀j,j<N+1->(QC x.κ j).length=N:=by
 unfold AD at h;have b:=(L6.1 h).1;unfold KA at b;have a:Ga x.box.length x.κ x.vars (nX x.δ)=true:=by
  cases e:Ga x.box.length x.κ x.vars (nX x.δ)with
  | true=>rfl
  | false =>
   rw[e]at b;revert b;cases Q2 x.δ x.vars==0<;>cases (x.ps.length:Int) != Q2 x.δ x.vars<;>intro h<;>simp at h
 have l:1<=x.vars:=by
  cases e:Q2 x.δ x.vars==0 with
  | true=>rw[e]at b;exact absurd b x6
  | false =>
   unfold Q2 at e;by_cases i:x.δ<1\/7<=x.δ\/x.vars<1
   ·rw[if_pos i]at e;cases e
   ·omega
 unfold Ga at a;rw[g]at a;cases e:nX x.δ with
 | true =>
  rw[e]at a;simp at a;omega
 | false =>
  rw[e]at a;simp only[Bool.or_false,show decide ((((0:Nat):Nat):Int)>0)=false from rfl,cond_false,Lu,Sv,Bool.not_eq_true']at a;refine⟨x.vars.toNat,x3,x3,x3,λj m=>?_⟩;have c:Q6 x.vars (QC x.κ j)=false:=by
   cases k:Q6 x.vars (QC x.κ j)with
   | false=>rfl
   | true =>
    have d:=(anyB_iff (f:=λj=>Q6 x.vars (QC x.κ j))).2 ⟨j,(by omega:j<x.κ.length),k⟩;rw[a.2]at d;cases d
  unfold Q6 at c;simp at c;omega
theorem gD{x:PV}(h:Kl x=true): x.vars<=4:=by
 unfold Kl at h;have a:=(L6.1 h).1;unfold AE at a;cases e:decide (x.vars>4)with
 | true=>simp only[e]at a;cases a
 | false=>have:=L7 e;omega
theorem aG{x:PV}(h:Kl x=true){q:Nm}(b:q∈Qo x.ν x.ε x.box x.κ x.ι): okS q:=by
 unfold Kl at h;have c:=Lc.1 (L6.1 (L6.1 h).2).1 q b;have a:J9 q=false:=y8 c;unfold J9 at a;simp only[Bool.or_eq_false_iff,decide_eq_false_iff_not]at a;exact⟨x3,x3,x3⟩
theorem aW{lo:Nat}(x:PV)(h:okX x)(w:y9)(d:Q0 w)(e:Five lo w x vb vs vp vr vc): RetAt prog w 10 #[yA x vb vs vp vr vc] (.int .i64 (chkN x)):=by
 refine nL (t:=TF x.κ x.vars.toNat) x h w d e λW f j g k=>?_
 obtain⟨N,n,a,b,c⟩:=WP j k;have o:=gD g;have i:=mh (lo:=lo) b c (λp l q m=>aG g (pq l m)) a x3 W (Ql d f) (e.s.below (kV lo) f);rw[show N=x.vars.toNat by omega]at i;exact i
