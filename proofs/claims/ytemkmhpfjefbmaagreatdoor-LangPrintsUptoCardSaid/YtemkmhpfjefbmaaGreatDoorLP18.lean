/- Laws beneath the statement. -/
import Derived.Test.YtemkmhpfjefbmaaGreatDoorLP17
import Derived.Shelf.Strings.SlTrimAscii
import Derived.Lib.SmallJoins
namespace Go.Proofs.YtemkmhpfjefbmaaGreatDoor
set_option linter.defProp false
open Tryz
set_option maxHeartbeats 4000000
set_option maxRecDepth 100000
open Go.RowKit Go.Lib
def TB:Nat:=1000000000000000000
def Ph:0<TB:=x4
variable{z:Int}
theorem kL(a:-9223372036854775808<=z)(b:z<=9223372036854775807):ZL z=.tuple #[.int .i64 z,.bool true]:=by grind[ZL]
def pd(s:ByteArray)(w:World)(a:s.size<=16777216)(b:Qa s<9223372036854775808):
  xP prog 163 #[.string s] w (.int .u64 (Qa s:Nat)):=by
 have c:=x0f (λW=>aX s false W a);rw[show Qe false (Qa s)=(Qa s:Int)from rfl,kL x3 x3]at c;have g:IntKind.u64.wrap (Qa s:Int)=(Qa s:Int):=by rw[b7];omega
 generalize Qa s=v at *;clear b;go_enter func163,ntmps163
 go_wp2_with fail
 refine(c.out _).mono ?_
 rintro e i ⟨rfl,f⟩;go_wp2
 go_ret
 exact⟨rfl,f⟩
def Wi:(prog.info? 9).map (λi=>(i.zero,i.size,i.bytes))=some (some (x00),1,16):=x5
def dP(v j:Nat):y9:=.string ⟨(DJ 18 (v / TB^j)).toArray⟩
def zW(v k j:Nat):y9:=if j=k then .string ⟨(decDigits (v / TB^k)).toArray⟩else dP v j
variable{v:Nat}
theorem zB(h:v / TB≠0):decDigits v=decDigits (v / TB)++DJ 18 v:=fF 18 v h
theorem I2(v k:Nat):v / TB^(k+1)=v / TB^k / TB:=by rw[Rk,R8]
def p9:∀n,repeatL [48] n=List.replicate n 48
 |0=>rfl
 |n+1=>by rw[repeatL,p9 n,List.replicate_succ];rfl
theorem Dx(l m:List UInt8):(⟨l.toArray⟩:xM)++⟨m.toArray⟩=⟨(l++m).toArray⟩:=by
 rfl
def Qa4(r:Nat)(a:r<TB):(⟨(repeatL [48] (18-nDigits r)).toArray⟩:xM)++⟨(decDigits r).toArray⟩=⟨(DJ 18 r).toArray⟩:=by
 rw[Wr 18 r (Jy a x4),p9,Dx]
def C5(l:List UInt8):(⟨l.toArray⟩:xM).size=l.length:=by rfl
def sr:y9->Nat | .string s=>Qa s|_=>0
def EC{u:Nat}(h:u<=v):nDigits u<=nDigits v:=Jy (Lw h (lt_pow_nDigits v)) (nDigits_pos v)
theorem B7{n:Nat}(h:v<256^n):nDigits v<=3*n+1:=by
 refine Jy ?_ (Sw _)
 have a:256^n<=1000^n:=Nat.pow_le_pow_left x4 n
 grind[T1]
variable{k:Nat}
def QcA{n:Nat}(h:v<256^n)(b:TB^k<=v):k<n:=by
 have c:256^k<=TB^k:=Nat.pow_le_pow_left x4 k;exact(Nat.pow_lt_pow_iff_right (a:=256) x4).1 x3
variable{j:Nat}
theorem QcB(h:TB^k<=v)(a:j<=k):v / TB^j≠0:=by
 have b:TB^j<=TB^k:=Lh x4 a;have c:0<v / TB^j:=Nat.div_pos x3 (Se Ph);omega
def kP(l m:List UInt8):Lib.byteCells l++Lib.strCells ⟨m.toArray⟩=Lib.byteCells (l++m):=by simp[Lib.byteCells,Lib.strCells]
def Pk(v k p:Nat):List UInt8:=if p=k+1 then[]else decDigits (v / TB^p)
def lH(v k p:Nat):(Pk v k p).length<=nDigits v:=by
 unfold Pk;split;all_goals simp[Ji,EC,Rn]
def cv(v k q:Nat):List UInt8:=if q=k then decDigits (v / TB^k)else DJ 18 (v / TB^q)
theorem zX(v k q:Nat):zW v k q=.string ⟨(cv v k q).toArray⟩:=by grind[zW,cv,dP]
def mW(v k q:Nat):(cv v k q).length<=nDigits v+18:=by
 unfold cv;split
 ·rw[Ji];exact L6 (EC (Rn _ _)) (Rm _ _)
 simp[Wp]
theorem jh{q:Nat}(a:q<=k)(h:k=0\/TB^k<=v):Pk v k (q+1)++cv v k q=Pk v k q:=by
 grind[Pk,cv,I2,QcB,zB]
def UY(s:ByteArray)(w:World)(hs:s.size<=65536)(hT:Tab10 w):
  xP prog 119 #[.string s] w (.string ⟨(decDigits (Qa s)).toArray⟩):=by
 have U:=x0f (λW=>Io 1000000000000000000 W x4);have O:=x0f (λ(m:ByteArray) W (h:m.size<=65536)=>Wx m (QL TB) W x3 (by rw[GE];decide));have I:Qa (QL TB)=TB:=XT _;simp only[I,if_neg (Nat.ne_of_gt Ph)]at O;have Q:=x0f (λ(r:Nat) W (h:r<TB)=>pd (QL r) W (by rw[GE];exact L6 (Xf (k:=8) (n:=8) x4 (Ut h x4)) x4) (by rw[XT];exact Ut h x4));simp only[XT]at Q;have V:=x0f (λ(r:Nat) W (h:r<TB) (f:Below w.heap.size w W)=>tV r (Ut h x4) W (hT.later f));have X:=x0f (λ(c:Nat) W (h:c<=18)=>Tryz.strings_Repeat (⟨#[48]⟩:ByteArray) c W x3 (by show 1*c<=_;omega));clear hT I;generalize Y:Qa s=v at *;have D:v<256^s.size:=Y▸Dk s;have Z:=x0f (B7 D);have J:=x0f D;have HV:=x0f Y;clear Y D;go_enter func119,ntmps119
 go_wp2_with fail
 go_loopw [0,3] (λmg out wr=>∃(k:Nat) (m:ByteArray),mg=.string m/\Qa m=v / TB^k/\m.size<=65536/\k<=s.size/\Hid (k=0\/TB^k<=v)/\OwnR wr w.heap.size 9 out k (dP v)/\Below w.heap.size w wr) (λmg _ _=>sr mg)
 case atStart=>exact⟨0,s,rfl,by rw[Tx,Vf];exact HV.out,hs,L7 _,x0f (.inl rfl),OwnR.nil_ _ _ _ _,p5 _ _⟩
 case round =>
  obtain⟨k,m,rfl,S,ad,hk,ag,a,g⟩:=hrel;have HM:=x0f S;have H:v / TB^k % TB<TB:=Re _ Ph;have T:=x0f (λW=>O.out m W ad);rw[S,<- I2]at T;have c2:=x0f (λW=>Q.out _ W H);have c3:=x0f (λW f=>V.out _ W H f);have K:k+1<=9223372036854775807:=x3;have L:(k+1)*16<=140737488355328:=x3;by_cases u:v / TB^(k+1)=0
  ·have he:(QL (v / TB^(k+1))).toList=[]:=nstr_empty.2 u;have hV:v / TB^k % TB=v / TB^k:=by
    rw[I2]at u;exact Rc (xF (Nat.div_eq_zero_iff.1 u) Ph)
   have HF:=x0f (show zW v k=λj=>if j=k then .string ⟨(decDigits (v / TB^k % TB)).toArray⟩else dP v j by rw[hV];rfl);clear H hV u S O Q V X HM;generalize QL (v / TB^(k+1))=q at *;generalize QL (v / TB^k % TB)=r at *;generalize (⟨(decDigits (v / TB^k % TB)).toArray⟩:ByteArray)=d at *;generalize v / TB^k % TB=R at *;go_wp2_with fail
   refine(U.out _).mono ?_
   rintro e w1 ⟨rfl,f⟩;replace g:=nxt g f;replace a:=a.below f (L4 _);clear f;go_wp2_with fail
   refine(T.out _).mono ?_
   rintro e w2 ⟨rfl,f⟩;replace g:=nxt g f;replace a:=a.below f (L4 _);clear f;go_wp2_with fail
   refine(c2.out _).mono ?_
   rintro e w3 ⟨rfl,f⟩;replace g:=nxt g f;replace a:=a.below f (L4 _);clear f;go_wp2_with fail
   refine(c3.out _ g).mono ?_
   rintro e w4 ⟨rfl,f⟩;replace g:=nxt g f;replace a:=a.below f (L4 _);clear f;go_wp2_with (at_builtin;refine Ax rfl (.tmp 22) (.tmp 24) _ rfl w.heap.size 9 (.string ⟨#[]⟩) 16 Tryz.underlying91 Wi rfl _ k (dP v) _ rfl rfl a rfl K L g.size ?_;intro v' C o y ao)
   replace y:=g.trans y;rw[<- HF.out]at o;obtain⟨A,c,rfl,bq,aw,_⟩:=o.rd;have aB:=Lib.fresh_isBuilder 83 5 C;have cS:=x0f (λ(b:Nat) (l:List UInt8) W h g=>Tryz.Builder_String_any C.heap.size b l W h g);have cW:=x0f (λ(b:Nat) (bs:List Value) (x:ByteArray) W h hl g=>lI C.heap.size b bs x W h hl g);have hL:=b1 C (.cells #[.pointer none,.slice none 0 0] 83);clear T c2 c3 U a;have HB:=x0f y;have bu:((k+1:Nat):Int)<=65537:=x3;have bc:∀W,(Builtin.len_ #[91] 3 #[.slice A (k+1) c]).run prog W=.ok (.int .i64 ((k+1:Nat):Int)) W:=λW=>by
    rw[run_len_slice (P:=prog) (h:=Tryz.underlying91)];rfl
   go_wp2_with fail
   simp only[bc,xT];go_wp2
   go_loopw [9] (λi wr=>∃p:Nat,p<=k+1/\i=.int .i64 ((p:Int)-1)/\Lib.IsBuilder 83 5 C.heap.size C.heap.size (Lib.byteCells (Pk v k p)) wr/\Below C.heap.size C wr) (λi _=>(RowKit.intOf i+1).toNat)
   case atStart =>
    refine⟨k+1,L4 _,x6,?_,hL⟩;unfold Pk;rw[if_pos rfl];exact aB
   case round =>
    obtain⟨p,hp,rfl,E,B⟩:=hrel;rcases p with _|q
    ·have cs:=x0f (cS.out _ _ wr E B.size);have t:¬(0:Int)<=((0:Nat):Int)-1:=x3;have hd:decide ((0:Int)<=((0:Nat):Int)-1)=false:=Lc t;have HE:=x0f (show Pk v k 0=decDigits v by unfold Pk;rw[if_neg x3,Tx,Vf]);go_wp2_with fail
     refine cs.out.mono ?_
     rintro e w8 ⟨rfl,f⟩;go_wp2
     go_ret
     exact⟨by rw[HE.out];rfl,nxt HB.out (B.trans f)⟩
    ·have u:q<=k:=x3;obtain⟨b,off,rfl,hc⟩:=aw x3;have g1:=Lj B (hc q x3);rw[zX]at g1;have bd:=mW v k q;have M:=lH v k (q+1);have hN:=Z.out;have cw:=x0f (cW.out _ _ (⟨(cv v k q).toArray⟩:ByteArray) wr E (by rw[Lib.byteCells_length,C5];omega) B.size);have HS:=x0f (jh u ag.out);clear hc M bd hN E;have e1:((q+1:Nat):Int)-1=(q:Int):=x3;rw[e1];have t:(0:Int)<=(q:Int):=x3;have hd:decide ((0:Int)<=(q:Int))=true:=Lk t;have bv:(q:Int)<((k+1:Nat):Int):=x3;go_wp2_with fail
     refine cw.out.mono ?_
     rintro e w8 ⟨rfl,bi,f⟩;go_wp2
     refine⟨⟨q,x3,by go_num,.inr ?_,B.trans f⟩,by simp[RowKit.intOf]⟩;rw[<- HS.out,<- kP];exact bi
  ·have he:(QL (v / TB^(k+1))).toList.isEmpty=false:=by
    rw[U4];exact λh=>u (nstr_empty.1 h)
   have F:TB^(k+1)<=v:=by
    rcases R5 v (TB^(k+1))with h|h
    ·exact absurd (Sg h) u
    ·exact h
   have bk:k+1<=s.size:=Sv (QcA (k:=k+1) J.out F);have t:v / TB^(k+1)<v / TB^k:=by
    rw[I2]at u ⊢;exact Nat.div_lt_self (Nat.pos_of_ne_zero λh=>u (by rw[h,Nat.zero_div])) x4
   have bl:(QL (v / TB^(k+1))).size<=65536:=by
    rw[GE];refine L6 (Xf (k:=8) (n:=s.size) x4 ?_) hs;exact Lw (Rn _ _) J.out
   have bm:nDigits (v / TB^k % TB)<=18:=Jy H x4;have G:(⟨(decDigits (v / TB^k % TB)).toArray⟩:ByteArray).size=nDigits (v / TB^k % TB):=by rw[C5,Ji]
   have bX:¬ 9223372036854775807<(⟨(repeatL [48] (18-nDigits (v / TB^k % TB))).toArray⟩:ByteArray).size+(⟨(decDigits (v / TB^k % TB)).toArray⟩:ByteArray).size:=by
    rw[G,C5,p9,Sl];omega
   have hw:IntKind.i64.wrap (18-((⟨(decDigits (v / TB^k % TB)).toArray⟩:ByteArray).size:Int))=((18-nDigits (v / TB^k % TB):Nat):Int):=by
    rw[G,Le _ x3];omega
   have c4:=x0f (λW=>X.out (18-nDigits (v / TB^k % TB)) W (V9 _ _));have HP:=x0f (Qa4 _ H);have N:=x0f (show Qa (QL (v / TB^(k+1)))=v / TB^(k+1)from XT _);have HD:=x0f (show DJ 18 (v / TB^k % TB)=DJ 18 (v / TB^k)from Wq 18 _);have bn:=x0f F;have bp:=x0f t;clear H u S O Q V X F t G bm;generalize QL (v / TB^(k+1))=q at *;generalize QL (v / TB^k % TB)=r at *;generalize (⟨(decDigits (v / TB^k % TB)).toArray⟩:ByteArray)=d at *;generalize 18-nDigits (v / TB^k % TB)=z at *;generalize (⟨(repeatL [48] z).toArray⟩:ByteArray)=x at *;generalize v / TB^k % TB=R at *;go_wp2_with fail
   refine(U.out _).mono ?_
   rintro e w1 ⟨rfl,f⟩;replace g:=nxt g f;replace a:=a.below f (L4 _);clear f;go_wp2_with fail
   refine(T.out _).mono ?_
   rintro e w2 ⟨rfl,f⟩;replace g:=nxt g f;replace a:=a.below f (L4 _);clear f;go_wp2_with fail
   refine(c2.out _).mono ?_
   rintro e w3 ⟨rfl,f⟩;replace g:=nxt g f;replace a:=a.below f (L4 _);clear f;go_wp2_with fail
   refine(c3.out _ g).mono ?_
   rintro e w4 ⟨rfl,f⟩;replace g:=nxt g f;replace a:=a.below f (L4 _);clear f;go_wp2_with fail
   refine(c4.out _).mono ?_
   rintro e C ⟨rfl,f⟩;replace g:=nxt g f;replace a:=a.below f (L4 _);clear f;go_wp2_with (at_builtin;refine Ax rfl (.tmp 26) (.tmp 33) _ rfl w.heap.size 9 (.string ⟨#[]⟩) 16 Tryz.underlying91 Wi rfl _ k (dP v) _ rfl rfl a rfl K L g.size ?_;intro v' w6 o y ao)
   refine⟨⟨k+1,q,rfl,N.out,bl,bk,x0f (.inr bn.out),o.congr λj hj=>?_,g.trans y⟩,?_⟩
   ·by_cases e:j=k
    ·subst e;rw[if_pos rfl];unfold dP;rw[<- HD.out,<- HP.out]
    ·rw[if_neg e]
   ·show Qa q<Qa m;rw[N.out,HM.out];exact bp.out
def Wn(h:k=0\/10^k<=v)(b:v / 10^(k+1)=0):DJ (k+1) v=decDigits v:=by
 have e:v / 10^(k+1)=v / 10^k / 10:=by rw[Rk,R8]
 rw[e]at b;have a:v / 10^k<10:=x3;rw[Gp,Rc a];rcases h with rfl|h
 ·rw[Tx,Vf]at a ⊢;rw[KB a];rfl
 ·have c:v / 10^k≠0:=Nat.ne_of_gt (Nat.div_pos h (Se x4));rw[fF k v c,KB a];rfl
variable{d:Nat}
def WL(a:d≠0)(h:d<256):QL d=⟨#[UInt8.ofNat d]⟩:=by
 have hn:nd 8 d=1:=WD 8 x4 (l3 h) (λ_=>x7);unfold QL VX;rw[hn];simp[QG,Rc h]
def gx(h:d<256):byt ⟨#[UInt8.ofNat d]⟩ 0=d:=by
 show(UInt8.ofNat d).toNat=d;simp;omega
def Uk(P:xO)(t t' e:o0)(a:P.underlying t=some (.slice e))(b:P.underlying e=some (.int .u8))(d:P.underlying t'=some .string)(c:UInt8)(W:xH):
  (convert t t' (.slice (some ⟨W.heap.size,0,none⟩) 1 1)).run P (W.alloc (.cells #[.int .u8 (c.toNat:Nat)] e))=.ok (.string ⟨#[c]⟩) (W.alloc (.cells #[.int .u8 (c.toNat:Nat)] e)) :=
 run_convert_bytes_back (P:=P) _ t t' e ⟨W.heap.size,0,none⟩ 1 [c] a b d (λj f=>by
  have:j=0:=l3 f;subst this;rw[add_plain,World.cell?_alloc_new];rfl)
def E6(s:ByteArray)(w:World)(hs:s.size<=65536):
  xP prog 126 #[.string s] w (.string ⟨(decDigits (Qa s)).toArray⟩):=by
 have O:=x0f (λ(m:ByteArray) W (h:m.size<=65536)=>In m ⟨#[10]⟩ W x3 x4);have B:Qa (⟨#[10]⟩:ByteArray)=10:=x4;simp only[B,if_neg (show ¬(10:Nat)=0 by decide)]at O;generalize Q:Qa s=v at *;have x:v<256^s.size:=Q▸Dk s;have ad:=B7 x;have R:=x0f x;have HV:=x0f Q;have cC:=x0f (λc W=>Uk prog 81 9 5 Tryz.underlying81 Tryz.underlying5 Tryz.underlying9 c W);clear Q x B;go_enter func126,ntmps126
 go_wp2_with fail
 go_loopw [0,3] (λS out wr=>∃(k:Nat) (m o:ByteArray),S=.string m/\out=.string o/\Qa m=v / 10^k/\m.size<=65536/\k<=nDigits v/\Hid (k=0\/10^k<=v)/\Hid (o=⟨(DJ k v).toArray⟩)/\Below w.heap.size w wr) (λS _ _=>sr S)
 case atStart=>exact⟨0,s,_,rfl,rfl,by rw[Tx,Vf];exact HV.out,hs,L7 _,x0f (.inl rfl),x0f rfl,p5 _ _⟩
 case round =>
  obtain⟨k,m,o,rfl,rfl,hm,T,hk,C,U,f⟩:=hrel;have HM:=x0f hm;have E:v / 10^k % 10<10:=Re _ x4;have F:=x0f (λW=>O.out m W T);have V:v / 10^(k+1)=v / 10^k / 10:=by rw[Rk,R8]
  rw[hm,<- V]at F;have G:o.size=k:=by rw[U.out,C5,Wp]
  have N:=x0f (show(⟨#[tC (v / 10^k % 10)]⟩:ByteArray)++o=⟨(DJ (k+1) v).toArray⟩by rw[U.out,Gp];exact Dx [tC (v / 10^k % 10)] _);have ag:¬ 9223372036854775807<(⟨#[tC (v / 10^k % 10)]⟩:ByteArray).size+o.size:=by
   rw[G];show ¬ _<1+k;omega
  have H:=λW=>cC.out (tC (v / 10^k % 10)) W
  have l:(tC (v / 10^k % 10)).toNat=48+v / 10^k % 10:=DA E;have HQ:(v / 10^(k+1)=0)\/(v / 10^(k+1)≠0/\10^(k+1)<=v/\k+1<=nDigits v/\v / 10^(k+1)<v / 10^k):=by
   by_cases h:v / 10^(k+1)=0
   ·exact .inl h
   ·refine .inr ⟨h,?_,?_,?_⟩
    ·rcases R5 v (10^(k+1))with g|g
     ·exact absurd (Sg g) h
     ·exact g
    ·rcases R5 v (10^(k+1))with g|g
     ·exact absurd (Sg g) h
     ·exact Sv ((Nat.pow_lt_pow_iff_right (a:=10) x4).1 (Lw g (lt_pow_nDigits v)))
    ·rw[V]at h ⊢;exact Nat.div_lt_self (Nat.pos_of_ne_zero λg=>h (by rw[g,Nat.zero_div])) x4
  have I:(QL (v / 10^(k+1))).size<=65536:=by
   rw[GE];refine L6 (Xf (k:=8) (n:=s.size) x4 ?_) hs;exact Lw (Rn _ _) R.out
  have p:=x0f (show Qa (QL (v / 10^(k+1)))=v / 10^(k+1)from XT _);have b:=x0f (nstr_empty (v:=v / 10^(k+1)));have u:=x0f (λh=>Wn (v:=v) (k:=k) C.out h);have J:=x0f HQ;have K:=x0f I;clear V G C U HQ I O;by_cases L:v / 10^k % 10=0
  ·have he:(QL (v / 10^k % 10)).toList=[]:=nstr_empty.2 L;have M:((48+v / 10^k % 10:Nat):Int)=48:=x3;simp only[l,M]at H;clear L E M;generalize (QL (v / 10^k % 10))=r at *;generalize QL (v / 10^(k+1))=q at *;generalize (⟨#[tC (v / 10^k % 10)]⟩:ByteArray)=cs at *;clear l;rcases J.out with d|⟨d,i,y,j⟩
   ·have z:q.toList=[]:=b.out.2 d;have Y:=x0f (u.out d);clear d;go_wp2_with fail
    refine(F.out _).mono ?_
    rintro e Z ⟨rfl,A⟩;replace f:=nxt f A;go_wp2_with fail
    go_ret
    exact⟨by rw[<- Y.out,<- N.out];rfl,EI f _⟩
   ·have z:q.toList.isEmpty=false:=by rw[U4];exact λh=>d (b.out.1 h)
    have HG:=x0f i;have HL:=x0f j;clear d i j;go_wp2_with fail
    refine(F.out _).mono ?_
    rintro e Z ⟨rfl,A⟩;replace f:=nxt f A;go_wp2_with fail
    refine⟨⟨k+1,q,_,rfl,rfl,p.out,K.out,y,x0f (.inr HG.out),N,EI f _⟩,?_⟩;show Qa q<Qa m;rw[p.out,HM.out];exact HL.out
  ·have hi:∀W,(Instr.index 9 (.string (QL (v / 10^k % 10))) (.int .i64 0)).run prog W=.ok (.int .u8 (v / 10^k % 10:Nat)) W:=λW=>by
    have h1:=WL L (Ut E x4);have g:=io (P:=prog) (t:=9) (⟨#[UInt8.ofNat (v / 10^k % 10)]⟩:ByteArray) Tryz.underlying9 0 (by exact Nat.one_pos) W;rw[gx (Ut E x4)]at g;rw[h1];exact g
   have he:(QL (v / 10^k % 10)).toList.isEmpty=false:=by rw[U4];exact λh=>L (nstr_empty.1 h)
   have hw:IntKind.u8.wrap (48+(v / 10^k % 10:Nat))=((48+v / 10^k % 10:Nat):Int):=VZ x3 x3;simp only[l]at H;clear L E l;generalize (QL (v / 10^k % 10))=r at *;generalize QL (v / 10^(k+1))=q at *;generalize (⟨#[tC (v / 10^k % 10)]⟩:ByteArray)=cs at *;generalize ((48+v / 10^k % 10:Nat):Int)=X at *;generalize ((v / 10^k % 10:Nat):Int)=D at *;rcases J.out with d|⟨d,i,y,j⟩
   ·have z:q.toList=[]:=b.out.2 d;have Y:=x0f (u.out d);clear d;go_wp2_with fail
    refine(F.out _).mono ?_
    rintro e Z ⟨rfl,A⟩;replace f:=nxt f A;go_wp2_with fail
    go_ret
    exact⟨by rw[<- Y.out,<- N.out];rfl,EI f _⟩
   ·have z:q.toList.isEmpty=false:=by rw[U4];exact λh=>d (b.out.1 h)
    have HG:=x0f i;have HL:=x0f j;clear d i j;go_wp2_with fail
    refine(F.out _).mono ?_
    rintro e Z ⟨rfl,A⟩;replace f:=nxt f A;go_wp2_with fail
    refine⟨⟨k+1,q,_,rfl,rfl,p.out,K.out,y,x0f (.inr HG.out),N,EI f _⟩,?_⟩;show Qa q<Qa m;rw[p.out,HM.out];exact HL.out
open Go
def DD(v:Nat):xM:=⟨(decDigits v).toArray⟩
def bW(v:Nat):(DD v).size=nDigits v:=by simp[DD,C5,Ji]
def Qe9(s:xM)(W:xH)(a:s.size<=65536)(b:Tab10 W):xP prog 119 #[.string s] W (.string (DD (Qa s))):=UY s W a b
def jB(s:xM)(W:xH)(a:s.size<=65536):xP prog 126 #[.string s] W (.string (DD (Qa s))):=E6 s W a
variable{s:xM}
def zY(a:s.size<=65536):(⟨#[45]⟩:xM).size+(DD (Qa s)).size<=9223372036854775807:=by
 have h:=B7 (Dk s);rw[bW];show 1+_<=_;omega
variable{b:Bool}
theorem vR(h:decide (JZ (Qe b (Qa s))<0)=true):(⟨#[45]⟩:xM)++DD (Qa s)=Qz (Qe b (Qa s)):=by
 grind[Nt,Qz,itoa,DD,Xd,Dx]
theorem vS(h:decide (JZ (Qe b (Qa s))<0)=false):DD (Qa s)=Qz (Qe b (Qa s)):=by
 grind[Nt,Qz,itoa,DD,Xd]
def Dn(s:xM):Bool:=hasPrefix s.data.toList [45]
def Xl(s:xM):xM:=⟨(trimPrefix s.data.toList [45]).toArray⟩
def mb(s:xM)(W:xH):xP prog 282 #[.string s,.string ⟨#[45]⟩] W (.tuple #[.string (Xl s),.bool (Dn s)]) :=
 (Tryz.strings_CutPrefix s ⟨#[45]⟩ W).mono λe a ⟨b,c⟩=>⟨b,by rw[c];exact p5 _ _⟩
theorem sd(b:Bool)(v:Nat)(W:xH):xP prog 151 #[.agg #[.bool b,.string (QL v)]] W (.agg #[.bool (neg (Qe b v)),.string (QJ (Qe b v))]):=by
 grind[Cl,XT]
theorem Qai(W:World)(p q:Operand)(x y:Int):Qp prog W (do eqGuard .eql 30 p q (vI x) (vI y);binOp .eql 30 (vI x) (vI y)) (.bool (decide (x=y))):=λa _=>by
 have h:(neg x=neg y/\(QJ x).toList=(QJ y).toList)↔x=y:=by
  rw[S5,S5];exact⟨λh=>QaH h.1 (ByteArray.ext (l3 h.2)),λh=>by rw[h];exact⟨rfl,rfl⟩⟩
 unfold vI;simp[go_sem];by_cases e:x=y
 ·subst e;simp
 ·have b:=mt h.1 e;by_cases c:neg x=neg y<;>by_cases d:(QJ x).toList=(QJ y).toList<;>simp_all
def vT(c:s.size<=65536)(w:xH)(a:Tab10 w):RetAt prog w 71 #[.agg #[Ξ b,Ψ s]] (Ψ (Qz (Qe b (Qa s)))) :=
 rk [x04 1 2 (sV (DD (Qa s))),x04 2 1 (iV (JZ (Qe b (Qa s)))),.both [x03 3 1 (Ψ (⟨#[45]⟩++(DD (Qa s))))] []] λW d e=>(λ(a:Tab10 W)=>X0 (wu a call119 λW h=>Qe9 s W c h) (rc W call113 λW=>GI s b W)<|Xi (decide ((JZ (Qe b (Qa s)))<0)) (λhn=>ai (SI W (.const (Ψ ⟨#[45]⟩)) (.tmp 10) ⟨#[45]⟩ (DD (Qa s)) (zY c))<|(show(Ψ (⟨#[45]⟩++(DD (Qa s))):y9)=Ψ (Qz (Qe b (Qa s)))from Lu Ψ (vR hn))) λhn=>(show(Ψ (DD (Qa s)):y9)=Ψ (Qz (Qe b (Qa s)))from Lu Ψ (vS hn))) (a.later d)
def eK(a:s.size<=65536)(w:xH):RetAt prog w 82 #[.agg #[Ξ b,Ψ s]] (Ψ (Qz (Qe b (Qa s)))) :=
 rk [x04 1 1 (iV (JZ (Qe b (Qa s)))),.both [x04 2 2 (sV (DD (Qa s))),x03 2 3 (Ψ (⟨#[45]⟩++(DD (Qa s))))] [x04 3 2 (sV (DD (Qa s)))]] λW c d=>ai (rc W call123 λW=>Ko s b W x3)<|ai (λhn:(decide ((JZ (Qe b (Qa s)))<0))=true=>X0 (rc W call126 λW=>jB s W a) (SI W (.const (Ψ ⟨#[45]⟩)) (.tmp 8) ⟨#[45]⟩ (DD (Qa s)) (zY a))<|(show(Ψ (⟨#[45]⟩++(DD (Qa s))):y9)=Ψ (Qz (Qe b (Qa s)))from Lu Ψ (vR hn))) λhn:(decide ((JZ (Qe b (Qa s)))<0))=false=>ai (rc W call126 λW=>jB s W a)<|(show(Ψ (DD (Qa s)):y9)=Ψ (Qz (Qe b (Qa s)))from Lu Ψ (vS hn))
def bL(b:Bool)(s:xM)(W:xH)(a:s.size<=65536)(h:Tab10 W):xP prog 71 #[.agg #[.bool b,.string s]] W (.string (Qz (Qe b (Qa s)))):=(vT a W h).at
def Ia(b:Bool)(s:xM)(W:xH)(a:s.size<=65536):xP prog 82 #[.agg #[.bool b,.string s]] W (.string (Qz (Qe b (Qa s)))):=(eK a W).at
def UI(z:Int)(W:xH)(a:Zr z<=65536)(h:Tab10 W):xP prog 71 #[.agg #[.bool (neg z),.string (QJ z)]] W (.string (Qz z)):=by
 have c:=bL (neg z) (QJ z) W (by rw[XU];exact a) h;rwa [Xp]at c
theorem NA(z:Int):(Qz z).size<=nDigits z.natAbs+1:=by
 have h:(Qz z).size=(itoa z).length:=by unfold Qz;rw[C5]
 rw[h];unfold itoa;split
 ·rw[Li,Ji];exact L4 _
 ·rw[Ji,show z.toNat=z.natAbs by omega];omega
def Z9(W:xH)(x y:x0h)(a b c:xM)(d:a.size+b.size<=9223372036854775807)(h:a++b=c):Qp prog W (do eqGuard .add 9 x y (.string a) (.string b);binOp .add 9 (.string a) (.string b)) (.string c):=h▸SI W x y a b d
def gH(W:xH)(p q:x0h)(x y:Int)(h:x=y):Qp prog W (do eqGuard .eql 30 p q (vI x) (vI y);binOp .eql 30 (vI x) (vI y)) (.bool true):=by
 have c:=Qai W p q x y;rwa [Lk h]at c
theorem x9(m e:Int):(dm (dy m e)).natAbs<=m.natAbs:=by
 by_cases h:m=0
 ·subst h;rw[Jj];exact L4 _
 grind[UQ,Tj]
variable{e:Int}
theorem nt{m:Int}{n:Nat}(h:m.natAbs<256^n):(dy m e=0/\de (dy m e)=0)\/(e<=de (dy m e)/\de (dy m e)<=e+8*n):=by
 by_cases b:m=0
 ·subst b;rw[Jj];exact .inl ⟨rfl,rfl⟩
 ·right;rw[(UQ e b).2];let⟨k,c⟩:=Ck (v:=m.natAbs) x3;have d:2^tz m.natAbs<=m.natAbs:=by
   grind
  have f:(256:Nat)^n=2^(8*n):=by rw[show(256:Nat)=2^8 from rfl,<- T1]
  have g:tz m.natAbs<8*n:=(Nat.pow_lt_pow_iff_right (a:=2) x4).1 x3;omega
def yt(x:Dyadic):List UInt8:=if de x=0 then itoa (dm x)else itoa (dm x)++112::itoa (de x)
def Dg(x:Dyadic):xM:=⟨(yt x).toArray⟩
theorem ve{x:Dyadic}(h:(de x==0)=true):Qz (dm x)=Dg x:=by
 grind[Dg,yt,Qz]
theorem vd{x:Dyadic}(h:(de x==0)=false):(Qz (dm x)++(⟨#[112]⟩:xM))++Qz (de x)=Dg x:=by
 grind[Dg,yt,Qz,Dx]
theorem WR{x:Dyadic}(h:(de x != 0)=true):(Qz (dm x)++(⟨#[112]⟩:xM))++Qz (de x)=Dg x:=by grind[vd]
theorem WS{x:Dyadic}(h:(de x != 0)=false):Qz (dm x)=Dg x:=by grind[ve]
structure Tk where
 s:ByteArray
 a:Int
structure Ln where
 l:List Tk
 e:Int
def Ub:Tk:=⟨⟨#[]⟩,0⟩
def Qg(l:List Tk)(k:Nat):Tk:=l.getD k Ub
def Xv(l:List Ln)(k:Nat):Ln:=l.getD k ⟨[],0⟩
def Jh:xM:=⟨#[98,111,120]⟩
def Q6:xM:=⟨#[115,105,109,112,108,101,120]⟩
def Xo:xM:=⟨#[115,112,108,105,116]⟩
def Zq:xM:=⟨#[108,101,97,102]⟩
def Zh:xM:=⟨#[101,112,115]⟩
def Xh:xM:=⟨#[100,101,108,116,97]⟩
def Qy:xM:=⟨#[98,117,100,103,101,116]⟩
def ZC:xM:=⟨#[112,111,108,121]⟩
def Xu:xM:=⟨#[114,117,108,101]⟩
def wKinds:List xM:=[⟨#[]⟩,⟨#[114,97,110,103,101]⟩,⟨#[114,97,116,105,111]⟩,⟨#[112,111,115,105,116,105,118,101]⟩,⟨#[109,105,110,105,109,117,109]⟩,⟨#[122,101,114,111,115]⟩,⟨#[99,104,101,99,107]⟩]
def MK(bx:List (Nm×Nm))(κ:List (List Nm)):Int:=bif (2*(bx.length:Int))==0 then(κ.length:Int)else 2*(bx.length:Int)
def ZP(c:UInt8):Bool:=(c==32)||(c==9)
def sub(s:List UInt8)(i j:Nat):xM:=⟨((s.take j).drop i).toArray⟩
def D3(s:List UInt8)(at_:Int)(k:Nat)(a:List Tk×Option Nat):List Tk×Option Nat:=match a.2 with
 |none=>a
 |some i=>(a.1++[⟨sub s i k,at_+(i:Int)⟩],none)
def ZT(s:List UInt8)(at_:Int)(k:Nat)(a:List Tk×Option Nat):List Tk×Option Nat:=bif ZP (s.getD k 0)then D3 s at_ k a else match a.2 with
 |none=>(a.1,some k)
 |some _=>a
def Qd(s:List UInt8)(at_:Int):Nat->List Tk×Option Nat
 |0=>([],none)
 |k+1=>ZT s at_ k (Qd s at_ k)
def YI(s:List UInt8)(at_:Int):List Tk:=(D3 s at_ s.length (Qd s at_ s.length)).1
def VE(l:List Tk):Bool:=decide ((l.length:Int)>0)&&((bt (Qg l 0).s 0:Int) != 35)
def Qi:List UInt8->List (List UInt8)
 |[]=>[[]]
 |c::r=>bif c==10 then[]::Qi r else match Qi r with
  |[]=>[[c]]
  |l::m=>(c::l)::m
def Qo:List (List UInt8)->Int->List Ln
 |[],_=>[]
 |l::r,at_=>bif VE (YI l at_)then⟨YI l at_,at_+(l.length:Int)⟩::Qo r (at_+(l.length:Int)+1)else Qo r (at_+(l.length:Int)+1)
theorem Fz(y:List (List UInt8)):∀(x:List (List UInt8)) (a:Int),Qo (x++y) a=Qo x a++Qo y (a+((x.map λl=>l.length+1).sum:Nat))
 |[],a=>by simp[Qo]
 |l::x,a=>by
  rw[List.cons_append,Qo,Qo,Fz y x]
  grind
theorem O0:∀a:List UInt8,((Qi a).map λl=>l.length+1).sum=a.length+1
 |[]=>rfl
 |c::a=>by
  unfold Qi;have:=O0 a
  grind
def dN(x:Dyadic):Nm:=⟨neg (dm x),QJ (dm x),de x⟩
def Ht(κ:List (List Nm))(i j:Nat):Nm:=dN (nv (Xm (Qu κ (i+1)) j)-nv (Xm (Qu κ 0) j))
def Co(κ:List (List Nm))(N i:Nat):List Nm:=(List.range N).map (Ht κ i)
def AG(κ:List (List Nm))(N:Nat):List (List Nm):=(List.range N).map (Co κ N)
variable{α:Type}
def yE(f:Nat->α)(k:Nat):(List.range k).map f++[f k]=(List.range (k+1)).map f:=by
 simp[S7]
def CX(A:xN)(c b:Nat):xN:=A.map λa=>⟨a.block,if c=1 then a.off else a.off+b,none⟩
variable{d:TI}{w0:xH}{f:Nat->o3}
def yG{t e a n c:Nat}{i:Option Bool}{A:xN}(j:Yw prog t=some d)(m:d.k=.slice e a i)(p:a≠0)(hn:n+1<=c)(q:RdK w0 A (n+1) a f):
  Qp prog w0 (Instr.sliceAt t (.slice A (n+1) c) (some (.int .i64 1)) none none) (.slice (CX A c a) n (c-1)):=λW _=>by
 obtain⟨b,off,rfl,_⟩:=q (Sw _);have h:=JO prog W b off (n+1) c 1 (n+1) (some (.int .i64 1)) none j m p (.inr ⟨.i64,rfl⟩) (.inl ⟨rfl,rfl⟩) x3 hn;rw[h,Tl];rfl
variable{w:xH}
theorem pZ{n c a:Nat}{A:xN}(hn:n+1<=c)(d:RdK w A (n+1) a f):RdK w (CX A c a) n a (λj=>f (j+1)):=λe=>by
 obtain⟨b,off,rfl,g⟩:=d (Sw _)
 grind[CX]
def xX(v:y9):o3:=[v]
variable{P:xO}
theorem qW(w0:xH){t b:Nat}(ty e:Nat){a bytes:Nat}(bt cp3:Nat){c:α->o3}(ll ll':List (List α))(l l':List α)(A A2:xN)(cp cp2:Nat)(f:RowT P t b a 1 bytes)(h:∀x,(c x).length=k)(i:l=l')(d:ll++[l']=ll')(j:ll'.length*bytes<=140737488355328):
  ∀W,Below w0.heap.size w0 W->∀g,Bx W g bt #[.slice A2 l.length cp2]->∀x S,(Qj (G4 a k c ll A cp) (Qc e k c l A2 cp2)).φ x S W ->
   Gc P W (λy:Hp=>.slice y.1 ll'.length y.2) (λy:Hp=>G4 a k c ll' y.1 y.2) x S (Zo .append #[t,b] ty [.slice A ll.length cp,.slice (some ⟨g,0,none⟩) 1 cp3]):=by
 grind[wW]
abbrev HJa:Nat×Hp:=(0,none,0)
abbrev HJb(q1:Nat×Hp)(κ:List (List Nm))(N:Nat):=(List.range q1.1).map (Co κ N)
abbrev HJc(d:Nat×Hp)(κ:List (List Nm))(q1:Nat×Hp):=(List.range (d.1+1)).map (Ht κ q1.1)
abbrev HJd(q1:Nat×Hp)(κ:List (List Nm))(N:Nat):=(List.range (q1.1+1)).map (Co κ N)
abbrev HJe:=List.range (HJa.1)
variable{As:xN}{Au:Nat->xN}{cu:Nat->Nat}{κ:List (List Nm)}{N:Nat}
def xf{cs:Nat}(L:N<=1048576)(t:N+1<=cs)(hpN:κ.length=N+1)(hpl:∀j,j<N+1->(Qu κ j).length=N)(hok:∀p,p∈κ->∀x,x∈p->okS x)(w:xH)(z:QV w)(D:RdK w As (N+1) 1 (λj=>[Ω (Au j) N (cu j)]))(F:∀j,j<N+1->RdK w (Au j) N 3 (λk=>Xk (Xm (Qu κ j) k))):NewIn prog w [] 112 #[Ω As (N+1) cs] (λ(y:Hp)=>Ω y.1 (AG κ N).length y.2) (λ(y:Hp)=>G4 43 3 Xk (AG κ N) y.1 y.2) :=
 Bf Hp Qm QU (λa w=>call112 a w) func112 ntmps112 results112 _ rfl 0 _ _ [x03 2 1 (Ω (CX As cs 1) N (cs-1)),.nil 3 99999 43 1 xX,.cnv 3 99999 0 (G4 43 3 Xk ((List.range 0).map (Co κ N)) none 0),YE (λ(q1:Nat×Hp)=>(⟨41,[(0,lV As (N+1) cs),(3,lV q1.2.1 ((HJb q1 κ N)).length q1.2.2),(9,lV (CX As cs 1) N (cs-1)),(10,iV (N:Int)),(11,iV (q1.1:Int))],[],[some (G4 43 3 Xk (HJb q1 κ N) q1.2.1 q1.2.2)]⟩:St)) N HJa (λ(q1:Nat×Hp)=>[.both [x03 4 0 (.pointer (some (Q5 (CX As cs 1) (q1.1*1+0)))),x03 4 1 (Ω (Au (q1.1+1)) N (cu (q1.1+1))),.nil 7 99999 32 3 Xk,YE (λ(d:Nat×Hp)=>(⟨41,[(0,lV As (N+1) cs),(3,lV q1.2.1 ((HJb q1 κ N)).length q1.2.2),(5,lV (Au (q1.1+1)) N (cu (q1.1+1))),(6,lV d.2.1 (((List.range d.1).map (Ht κ q1.1))).length d.2.2),(9,lV (CX As cs 1) N (cs-1)),(10,iV (N:Int)),(11,iV (q1.1:Int)),(16,iV (N:Int)),(17,iV (d.1:Int))],[],[none,some (Qc 32 3 Xk ((List.range d.1).map (Ht κ q1.1)) d.2.1 d.2.2)]⟩:St)) N HJa (λ(d:Nat×Hp)=>[.both [.reg 13 [],x03 9 3 (.pointer (some (Q5 (Au (q1.1+1)) (d.1*3+0)))),x03 9 4 (nA (Xm (Qu κ (q1.1+1)) d.1)),x03 9 6 (.pointer (some (Q5 As (0*1+0)))),x03 9 7 (Ω (Au 0) N (cu 0)),x03 9 9 (.pointer (some (Q5 (Au 0) (d.1*3+0)))),x03 9 10 (nA (Xm (Qu κ 0) d.1)),x04 9 11 (.agg [bV ((Ht κ q1.1 d.1).b),sV ((Ht κ q1.1 d.1).s),iV ((Ht κ q1.1 d.1).e)]),x08 9 13 1 (λ(g:Hp)=>(Ω g.1 ((HJc d κ q1)).length g.2,Qc 32 3 Xk (HJc d κ q1) g.1 g.2,[x05 10 0 (iV ((d.1+1:Nat):Int)),.nxt [g]]))] [.join 11 3 0 1,x08 11 3 0 (λ(g:Hp)=>(Ω g.1 ((HJd q1 κ N)).length g.2,G4 43 3 Xk (HJd q1 κ N) g.1 g.2,[x05 12 0 (iV ((q1.1+1:Nat):Int)),.nxt [g]]))]])] []])] (λW u=>have G:=Ql z u;have B:=D.up u (λ_=>rfl);have E:=(pZ (f:=λj=>[Ω (Au j) N (cu j)]) t D).up u (λ_=>rfl);(λ(v:∀j,j<N+1->RdK W (Au j) N 3 (λk=>Xk (Xm (Qu κ j) k)))=>Yx (yG (Qm 25 _ rfl) rfl x4 t B) (show ∀(x:y9) (S:Nat->Prop) (w:xH),(Qc 43 1 xX ([]:o3) none 0).φ x S w->(G4 43 3 Xk ((List.range 0).map (Co κ N)) none 0).φ x S w from wX _ 3 Xk _) (qV (Ω As (N+1) cs)) (qV (Ω HJa.2.1 ((HJe.map (Co κ N))).length HJa.2.2)) (qV (Ω (CX As cs 1) N (cs-1))) (qI (N:Int)) (qI ((HJa.1:Nat):Int)) (Yq (G4 43 3 Xk ((List.range 0).map (Co κ N)) none 0) (G4 43 3 Xk (HJe.map (Co κ N)) HJa.2.1 HJa.2.2) λ_ _ _ h=>h)<|ai (show 0<=N from L7 _) λ(q1:Nat×Hp) (H:(q1.1<=N))=>Xi (decide ((q1.1:Int)<(N:Int))) (λq=>Yx (Zy (cs-1) E q1.1 (Qt q)) (J6 E q1.1 0 (Qt q) x4 rfl) (qV (Ω As (N+1) cs)) (qV (Ω q1.2.1 ((HJb q1 κ N)).length q1.2.2)) (qV (Ω (Au (q1.1+1)) N (cu (q1.1+1)))) (qV (Ω HJa.2.1 ((HJe.map (Ht κ q1.1))).length HJa.2.2)) (qV (Ω (CX As cs 1) N (cs-1))) (qI (N:Int))<|KJ (qI (q1.1:Int)) (qI (N:Int)) (qI ((HJa.1:Nat):Int)) (XR (G4 43 3 Xk (HJb q1 κ N) q1.2.1 q1.2.2)) (Yq (Qc 32 3 Xk ([]:List Nm) none 0) (Qc 32 3 Xk (HJe.map (Ht κ q1.1)) (HJa.2.1) (HJa.2.2)) λ_ _ _ h=>h)<|ai (show 0<=N from L7 _) λ(d:Nat×Hp) (I:(d.1<=N))=>Xi (decide ((d.1:Int)<(N:Int))) (λr=>GL (Es (cu (q1.1+1)) (v (q1.1+1) (Uy (Qt q))) d.1 (Qt r)) (JW (v (q1.1+1) (Uy (Qt q))) d.1 0 (Qt r) x4 rfl rfl) (Zy cs B 0 (Sw N)) (J6 B 0 0 (Sw N) x4 rfl) (Es (cu 0) (v 0 (Sw N)) d.1 (Qt r)) (JW (v 0 (Sw N)) d.1 0 (Qt r) x4 rfl rfl) (show RetAt prog W 150 #[nA (Xm (Qu κ (q1.1+1)) d.1),nA (Xm (Qu κ 0) d.1)] (nA (Ht κ q1.1 d.1))from⟨λa w=>call150 a w,λJ C=>Qem J (hok _ (Ka (show q1.1+1<κ.length by rw[hpN];have:=L0 q;omega)) _ (KU (show d.1<(Qu κ (q1.1+1)).length by rw[hpl (q1.1+1) (x8 (L0 q))];exact(Qt r)))).nd (hok _ (Ka (show 0<κ.length by rw[hpN];omega)) _ (KU (show d.1<(Qu κ 0).length by rw[hpl 0 x3];exact(Qt r)))).nd (hok _ (Ka (show q1.1+1<κ.length by rw[hpN];have:=L0 q;omega)) _ (KU (show d.1<(Qu κ (q1.1+1)).length by rw[hpl (q1.1+1) (x8 (L0 q))];exact(Qt r)))).db (hok _ (Ka (show 0<κ.length by rw[hpN];omega)) _ (KU (show d.1<(Qu κ 0).length by rw[hpl 0 x3];exact(Qt r)))).db x4 (Ql G C)⟩)<|ai (YJ W 43 32 1 1 Xk ((List.range d.1).map (Ht κ q1.1)) ([Ht κ q1.1 d.1]) (HJc d κ q1) d.2.1 d.2.2 ([Ξ ((Ht κ q1.1 d.1).b),Ψ ((Ht κ q1.1 d.1).s),Θ ((Ht κ q1.1 d.1).e)]) ZY Xx Gn (yE (Ht κ q1.1) d.1) (show(((List.range (d.1+1)).map (Ht κ q1.1))).length*32<=140737488355328 from by rw[Rg,Sb];have:=L0 r;omega) rfl rfl) λ(g:Hp)=>Yx (QD d.1 x3) (qV (Ω As (N+1) cs)) (qV (Ω q1.2.1 ((HJb q1 κ N)).length q1.2.2)) (qV (Ω (Au (q1.1+1)) N (cu (q1.1+1)))) (qV (Ω g.1 ((HJc d κ q1)).length g.2)) (qV (Ω (CX As cs 1) N (cs-1))) (qI (N:Int)) (qI (q1.1:Int))<|Ky (qI (N:Int)) (qI (((d.1+1):Nat):Int)) (XR (G4 43 3 Xk (HJb q1 κ N) q1.2.1 q1.2.2)) (Yq (Qc 32 3 Xk (HJc d κ q1) g.1 g.2) (Qc 32 3 Xk (HJc d κ q1) g.1 g.2) λ_ _ _ h=>h)<|ai (show d.1+1<=N from Qt r) (show N-(d.1+1)<N-d.1 from x8 (L0 r))) λr=>ai (qW W 165 32 43 1 (HJb q1 κ N) (HJd q1 κ N) ((List.range d.1).map (Ht κ q1.1)) (Co κ N q1.1) q1.2.1 d.2.1 q1.2.2 d.2.2 M7 Xx (show((List.range d.1).map (Ht κ q1.1))=Co κ N q1.1 from by rw[(show d.1=N from x8 (L1 r))];rfl) (yE (Co κ N) q1.1) (show(((List.range (q1.1+1)).map (Co κ N))).length*24<=140737488355328 from by rw[Rg,Sb];have:=L0 q;omega)) λ(g:Hp)=>GL (QD q1.1 x3) (qV (Ω As (N+1) cs)) (qV (Ω g.1 ((HJd q1 κ N)).length g.2)) (qV (Ω (CX As cs 1) N (cs-1))) (qI (N:Int)) (qI (((q1.1+1):Nat):Int)) (Yq (G4 43 3 Xk (HJd q1 κ N) g.1 g.2) (G4 43 3 Xk (HJd q1 κ N) g.1 g.2) λ_ _ _ h=>h)<|ai (show q1.1+1<=N from Qt q) (show N-(q1.1+1)<N-q1.1 from x8 (L0 q))) λq=>(show ∃y:Hp,SV.val (Ω q1.2.1 (((List.range q1.1).map (Co κ N))).length q1.2.2)=SV.val ((λ(y:Hp)=>Ω y.1 (AG κ N).length y.2) y)/\∀(x:y9) (S:Nat->Prop) (w:xH),(G4 43 3 Xk ((List.range q1.1).map (Co κ N)) q1.2.1 q1.2.2).φ x S w->((λ(y:Hp)=>G4 43 3 Xk (AG κ N) y.1 y.2) y).φ x S w from⟨q1.2,(by rw[(show q1.1=N from x8 (L1 q))];rfl),λx S w h=>(by rw[(show q1.1=N from x8 (L1 q))]at h;exact h)⟩)) (λj K=>(F j K).below (λ_=>rfl) u)) λW=>x5
def QaO:ND nm0.b nm0.s nm0.e (nv nm0):=⟨rfl,x4,x4,x4⟩
def nm0_ok:okS nm0:=⟨x4,x4,x4⟩
def DR(κ:List (List Nm))(N i j:Nat):Dyadic:=nv (Xm ((AG κ N).getD i []) j)
def QcW{x:Dyadic}{L T:Nat}(h:DB L T x)(hLT:L+T<=4000000):nv (dN x)=x:=(WC h hLT).val
section
variable{As:xN}{cs:Nat}{Au:Nat->xN}{cu:Nat->Nat}{κ:List (List Nm)}{N:Nat}(hpN:κ.length=N+1)(hpl:∀j,j<N+1->(Qu κ j).length=N)(hok:∀p,p∈κ->∀x,x∈p->okS x)
include hpN hpl hok
theorem xZ{i j:Nat}(d:i<N)(a:j<N):DB 200 361 (nv (Xm (Qu κ (i+1)) j)-nv (Xm (Qu κ 0) j)):=by
 have b:=hok _ (Ka (show i+1<κ.length by omega)) _ (KU (show j<(Qu κ (i+1)).length by rw[hpl (i+1) x3];exact a));have c:=hok _ (Ka (show 0<κ.length by omega)) _ (KU (show j<(Qu κ 0).length by rw[hpl 0 x3];exact a));exact zy b.db c.db
omit hpN hpl hok in
theorem qT{i j:Nat}(a:i<N)(b:j<N):Xm ((AG κ N).getD i []) j=Ht κ i j:=by
 grind[AG,Co,Xm]
theorem wV{i j:Nat}(a:i<N)(b:j<N):DR κ N i j=nv (Xm (Qu κ (i+1)) j)-nv (Xm (Qu κ 0) j):=by
 unfold DR;rw[qT a b];exact QcW (xZ hpN hpl hok a b) x4
theorem qU(i j:Nat):ND (Xm ((AG κ N).getD i []) j).b (Xm ((AG κ N).getD i []) j).s (Xm ((AG κ N).getD i []) j).e (DR κ N i j)/\DB 200 361 (DR κ N i j):=by
 by_cases h:i<N/\j<N
 ·have a:=xZ hpN hpl hok h.1 h.2;have c:=WC a x4;rw[wV hpN hpl hok h.1 h.2,qT h.1 h.2];exact⟨c,a⟩
 ·have d:Xm ((AG κ N).getD i []) j=nm0:=by
   grind[AG,Co,Xm]
  unfold DR;rw[d];exact⟨QaO,UJ nm0_ok.db x4 x4⟩
omit hpN hpl hok in
theorem Qeo{A:xN}{g:Nat}{x:y9}{S:Nat->Prop}(h:(G4 43 3 Xk (AG κ N) A g).φ x S w):RdM w A N (λ_=>N) (λi j=>(Xm ((AG κ N).getD i []) j).b) (λi j=>(Xm ((AG κ N).getD i []) j).s) (λi j=>(Xm ((AG κ N).getD i []) j).e):=by
 have f:=QbU Xx nm0 h;have k:(AG κ N).length=N:=by simp[AG]
 rw[k]at f;intro l;let⟨b,off,e,m⟩:=f l;refine⟨b,off,e,λi n=>?_⟩;let⟨o,ci,k1,a,c,d⟩:=m i n;have p:((AG κ N).getD i []).length=N:=by
  grind[AG,Co]
 dsimp only at k1 a c d;rw[p]at k1 a c d;exact⟨o,ci,k1,a,c,d⟩
omit hok in
theorem xg(a:1<=N)(b:N<=8):aH κ=(N:Int):=by
 grind[aH,Kf,Xb]
omit hok in
theorem Qb5{lo:Nat}(c:1<=N)(d:N<=4)(a:RdK w As (N+1) 1 (λj=>[.slice (Au j) N (cu j)]))(b:∀j,j<N+1->SlV lo 3 VT w (Qu κ j) (.slice (Au j) N (cu j))):RetAt prog w 110 #[.slice As (N+1) cs] (.int .i64 (N:Int)):=by
 have h:=Qew cs κ (λj=>.slice (Au j) N (cu j)) x3 w (by rw[hpN];exact a) (by rw[hpN];exact b)
 grind[xg]
end
variable{lo:Nat}
def xi{cs:Nat}(s:N<=1048576)(e:N+1<=cs)(hpN:κ.length=N+1)(hpl:∀j,j<N+1->(Qu κ j).length=N)(hok:∀p,p∈κ->∀x,x∈p->okS x)(m:1<=N)(n:N<=4)(w:xH)(f:QV w)(t:RdK w As (N+1) 1 (λj=>[Ω (Au j) N (cu j)]))(u:∀j,j<N+1->RdK w (Au j) N 3 (λk=>Xk (Xm (Qu κ j) k)))(v:∀j,j<N+1->SlV lo 3 VT w (Qu κ j) (Ω (Au j) N (cu j))):RetAt prog w 64 #[Ω As (N+1) cs] (.tuple #[nA (dN (K4 N (DR κ N))),Θ 0]) :=
 rk [x04 1 1 (iV (N:Int)),.br false,x09 3 1 [] (λ(b:Hp)=>(Ω b.1 (AG κ N).length b.2,G4 43 3 Xk (AG κ N) b.1 b.2,[.o 3 2 (.retr [0] (.tuple #[nA (dN (K4 N (DR κ N))),Θ 0]))]))] λW d D=>have q:=Ql f d;have r:=t.up d (λ_=>rfl);(λ(y:∀j,j<N+1->RdK W (Au j) N 3 (λk=>Xk (Xm (Qu κ j) k)))=>(λ(z:∀j,j<N+1->SlV lo 3 VT W (Qu κ j) (Ω (Au j) N (cu j)))=>X0 (Qb5 (cs:=cs) hpN hpl m n r z) (show((N:Int)==0)=false from Lp.2 x3)<|ai (xf s e hpN hpl hok W q r y) λ(b:Hp)=>ai (show Cv prog W [G4 43 3 Xk (AG κ N) b.1 b.2] 111 #[Ω b.1 (AG κ N).length b.2] (.tuple #[nA (dN (K4 N (DR κ N))),Θ 0])from⟨λa w=>call111 a w,λB g x S C=>(by have h:=(QaD 200 361 b.1 b.2 (DR κ N) m n x4 (λi j=>(qU hpN hpl hok i j).1) (λi j=>(qU hpN hpl hok i j).2) B (Ql q g) (Qeo C)).at;rw[show(AG κ N).length=N from by simp[AG]];exact h)⟩)<|(show(.tuple #[nA (dN (K4 N (DR κ N))),Θ 0]:y9)=.tuple #[nA (dN (K4 N (DR κ N))),Θ 0]from rfl)) (λj l=>(v j l).below YH d)) (λj l=>(u j l).below (λ_=>rfl) d)
def eE(κ:List (List Nm))(N:Nat):Int:=bif sg (dN (K4 N (DR κ N)))==0 then 5 else 0
abbrev HJf(N:Nat)(κ:List (List Nm)):=dN (K4 N (DR κ N))
def qY{cs:Nat}(i:N<=1048576)(c:N+1<=cs)(hpN:κ.length=N+1)(hpl:∀j,j<N+1->(Qu κ j).length=N)(hok:∀p,p∈κ->∀x,x∈p->okS x)(l:1<=N)(m:N<=4)(w:xH)(d:QV w)(n:RdK w As (N+1) 1 (λj=>[Ω (Au j) N (cu j)]))(q:∀j,j<N+1->RdK w (Au j) N 3 (λk=>Xk (Xm (Qu κ j) k)))(r:∀j,j<N+1->SlV lo 3 VT w (Qu κ j) (Ω (Au j) N (cu j))):RetAt prog w 28 #[Ω As (N+1) cs] (Θ (eE κ N)) :=
 have h:=eI (eE κ N);rk [x04 1 1 (.tup [.agg [bV ((HJf N κ).b),sV ((HJf N κ).s),iV ((HJf N κ).e)],iV 0]),x04 2 4 (iV (sg (HJf N κ))),.both [] []] λW a z=>have t:=Ql d a;have u:=n.up a (λ_=>rfl);(λ(v:∀j,j<N+1->RdK W (Au j) N 3 (λk=>Xk (Xm (Qu κ j) k)))=>(λ(y:∀j,j<N+1->SlV lo 3 VT W (Qu κ j) (Ω (Au j) N (cu j)))=>X0 (xi i c hpN hpl hok l m W t u v y) (rc W call65 λW=>GB (HJf N κ).s (HJf N κ).b (HJf N κ).e W)<|Xi ((sg (dN (K4 N (DR κ N))))==0) (λf=>(h 5 (by unfold eE;rw[f];rfl))) λf=>(h 0 (by unfold eE;rw[f];rfl))) (λj g=>(r j g).below YH a)) (λj g=>(q j g).below (λ_=>rfl) a)
theorem pJ{v:y9}(hpN:κ.length=N+1)(hpl:∀j,j<N+1->(Qu κ j).length=N)(h:SlV lo 1 (kz lo) w κ v):
  ∃(As:xN) (cs:Nat) (Au:Nat->xN) (cu:Nat->Nat),v=.slice As (N+1) cs/\N+1<=cs/\RdK w As (N+1) 1 (λj=>[.slice (Au j) N (cu j)])/\(∀j,j<N+1->RdK w (Au j) N 3 (λk=>Xk (Xm (Qu κ j) k)))/\∀j,j<N+1->SlV lo 3 VT w (Qu κ j) (.slice (Au j) N (cu j)):=by
 obtain⟨As,cs,i,rfl,b,_,d,f⟩:=h.rdPt;rw[hpN]at b d f ⊢;have key:∀j,∃(A:xN) (c:Nat),j<N+1->i j=.slice A N c/\RdK w A N 3 (λk=>Xk (Xm (Qu κ j) k)):=λj=>by
  by_cases a:j<N+1
  ·let⟨A,c,e,_,_,g⟩:=(f j a).enc nm0;rw[hpl j a]at e g;exact⟨A,c,λ_=>⟨e,g⟩⟩
  ·exact⟨none,0,λh=>absurd h a⟩
 refine⟨As,cs,λj=>Classical.choose (key j),λj=>Classical.choose (Lq (key j)),rfl,b,d.congr λj a=>?_,λj a=>?_,λj a=>?_⟩;all_goals grind
def ni{v:y9}(hpN:κ.length=N+1)(hpl:∀j,j<N+1->(Qu κ j).length=N)(hok:∀p,p∈κ->∀x,x∈p->okS x)(a:1<=N)(b:N<=4)(w:xH)(c:QV w)(h:SlV lo 1 (kz lo) w κ v):RetAt prog w 28 #[v] (.int .i64 (eE κ N)):=by
 obtain⟨As,cs,Au,cu,rfl,k1,d,e,f⟩:=pJ hpN hpl h;exact qY x3 k1 hpN hpl hok a b w c d e f
open Go.Sort
def PF{n:Nat}(a:s.size<=n):Zr (dm (dy (Qe b (Qa s)) e))<=n:=L6 (J0 (x9 _ _)) (L6 (GN b s) a)
def fT{n:Nat}(h:Zr z<=n):(Qz z).size<=3*n+2:=by
 have c:=NA z;have a:=Bc z;have b:z.natAbs<256^n:=L9 a (Lh x4 h);have d:=B7 b;omega
theorem fW(h:-1000000<=z/\z<=1000000):(Qz z).size<=8:=by
 grind[NA,nDigits]
def UK(b:Bool)(d:s.size<=1000)(f:-100000<=e/\e<=100000):-1000000<=de (dy (Qe b (Qa s)) e)/\de (dy (Qe b (Qa s)) e)<=1000000:=by
 have a:(Qe b (Qa s)).natAbs<256^s.size:=by rw[Xd];exact Dk s
 rcases nt (e:=e) a with⟨_,c⟩|c
 ·omega
 ·omega
def Qe6(a:s.size<=1000):(Qz (dm (dy (Qe b (Qa s)) e))).size+(⟨#[112]⟩:xM).size<=9223372036854775807:=by
 have h:=fT (PF (b:=b) (e:=e) a);show _+1<=_;omega
def Qe7(a:s.size<=1000)(c:-100000<=e/\e<=100000):(Qz (dm (dy (Qe b (Qa s)) e))++(⟨#[112]⟩:xM)).size+(Qz (de (dy (Qe b (Qa s)) e))).size<=9223372036854775807:=by
 have h:=fT (PF (b:=b) (e:=e) a);have d:=fW (UK b a c);rw[ByteArray.size_append];show _+1+_<=_;omega
def DI(n:Int)(W:xH)(h:-1000000<=n/\n<=1000000)(c:Tab10 W):xP prog 32 #[.int .i64 n] W (.string (Qz n)):=by
 refine(Tryz.strconv_Itoa n x3 x3 W c).mono ?_
 rintro e b ⟨rfl,k,a,rfl⟩;have d:Below W.heap.size W (grow (W.drewN k) a):=⟨rfl,rfl,rfl,by show W.heap.size<=(W.heap++a).size;rw[Array.size_append];omega,λj f=>by show(W.heap++a)[j]?=_;rw[Array.getElem?_append_left f]⟩
 exact⟨rfl,d⟩
def A8(z:Int)(W:xH)(a:Zr z<=65536):xP prog 82 #[.agg #[.bool (neg z),.string (QJ z)]] W (.string (Qz z)):=by
 have c:=Ia (neg z) (QJ z) W (by rw[XU];exact a);rwa [Xp]at c
def gk(z e:Int)(W:xH)(d:Zr z<=65536)(f:-1000000<=e/\e<=1000000)(a:QV W):xP prog 106 #[.agg #[.bool (neg z),.string (QJ z)],.int .i64 e] W (vN (dy z e)):=by
 have c:=AF (QJ z) (neg z) e W (by rw[XU];omega) x3 x3 a;rwa [Xp]at c
def Yg(s:xM)(k:Nat):xM:=⟨(s.data.toList.take k).toArray⟩
def Q8(s:xM)(k:Nat):xM:=⟨(s.data.toList.drop k).toArray⟩
theorem qX(s:xM)(k:Nat):s.extract 0 k=Yg s k:=by
 apply ByteArray.ext;rw[Va]
 grind[Yg]
def mJ(s:xM)(k:Nat):s.extract k s.size=Q8 s k:=by
 apply ByteArray.ext;rw[Va];unfold Q8;apply Array.ext';simp[Rh]
def JG(W:xH)(s:xM)(k:Nat)(h:k<=s.size):Qp prog W (Instr.sliceAt 9 (.string s) none (some (.int .i64 (k:Int))) none) (.string (Yg s k)):=λa _=>by
 rw[run_sliceAt_string (h:=Tryz.underlying9),run_slice_string_h (ht:=Tryz.underlying9) (h0:=x3) (h2:=x3),<- qX];rfl
def ax(W:xH)(s:xM)(k:Nat)(h:k<=s.size):Qp prog W (Instr.sliceAt 9 (.string s) (some (.int .i64 (k:Int))) none none) (.string (Q8 s k)):=λa _=>by
 rw[run_sliceAt_string (h:=Tryz.underlying9),run_slice_string_l (ht:=Tryz.underlying9) (h0:=x3) (h1:=x3),<- mJ];rfl
abbrev HJg(b:Bool)(s:xM)(e:Int):=dy (Qe b (Qa s)) e
def B3(c:s.size<=1000)(g:-100000<=e/\e<=100000)(w:xH)(d:QV w)(a:Tab10 w):RetAt prog w 35 #[rN b s e] (Ψ (Dg (dy (Qe b (Qa s)) e))) :=
 rk [x04 1 1 (.val (vN (HJg b s e))),.both [x04 3 2 (sV (Qz (dm (HJg b s e))))] [.reg 9 [],x04 4 2 (sV (Qz (dm (HJg b s e)))),x03 4 3 (Ψ (Qz (dm (HJg b s e))++(⟨#[112]⟩:xM))),x04 4 6 (sV (Qz (de (HJg b s e)))),x03 4 7 (Ψ (Dg (HJg b s e)))]] λW i j=>(λ(a:Tab10 W)=>(λ(d:QV W)=>ai (rt d call59 λW h=>KA s b e W x3 x3 x3 h)<|Xi ((de (dy (Qe b (Qa s)) e))==0) (λf=>ai (wu a call71 λW h=>UI (dm (HJg b s e)) W (L6 (PF c) x4) h)<|(show(Ψ (Qz (dm (dy (Qe b (Qa s)) e))):y9)=Ψ (Dg (dy (Qe b (Qa s)) e))from Lu Ψ (ve f))) λf=>Ky (wu a call71 λW h=>UI (dm (HJg b s e)) W (L6 (PF c) x4) h) (SI W (.tmp 14) (.const (Ψ ⟨#[112]⟩)) (Qz (dm (HJg b s e))) ⟨#[112]⟩ (Qe6 c)) (wu a call32 λW h=>DI (de (HJg b s e)) W (UK _ c g) h) (Z9 W (.tmp 15) (.tmp 18) (Qz (dm (HJg b s e))++(⟨#[112]⟩:xM)) (Qz (de (HJg b s e))) (Dg (HJg b s e)) (Qe7 c g) (vd f))<|j) (Ql d i)) (a.later i)
def X8(a:s.size<=1000)(c:-100000<=e/\e<=100000)(w:xH):RetAt prog w 42 #[rN b s e] (Ψ (Dg (dy (Qe b (Qa s)) e))) :=
 rk [x04 1 1 (.val (vN (dy (Qe b (Qa s)) e))),x04 2 2 (sV (Qz (dm (dy (Qe b (Qa s)) e)))),.both [x03 4 1 (Ψ (Qz (dm (dy (Qe b (Qa s)) e))++(⟨#[112]⟩:xM))),x04 4 4 (.val (vI (de (dy (Qe b (Qa s)) e)))),x04 4 5 (sV (Qz (de (dy (Qe b (Qa s)) e)))),x03 4 6 (Ψ (Dg (dy (Qe b (Qa s)) e)))] []] λW g f=>X0 (rc W call76 λW=>Je s b e W x3 x3 x3) (rc W call82 λW=>A8 (dm (dy (Qe b (Qa s)) e)) W (L6 (PF a) x4))<|ai (λd:((de (dy (Qe b (Qa s)) e)) != 0)=true=>Ky (SI W (.tmp 13) (.const (Ψ ⟨#[112]⟩)) (Qz (dm (dy (Qe b (Qa s)) e))) ⟨#[112]⟩ (Qe6 a)) (rc W call83 λW=>BB (de (dy (Qe b (Qa s)) e)) W (x8 (UK b a c)) (x8 (UK b a c))) (rc W call82 λW=>A8 (de (dy (Qe b (Qa s)) e)) W (L6 (jl (x8 (UK b a c)) (x8 (UK b a c))) x4)) (Z9 W (.tmp 14) (.tmp 18) (Qz (dm (dy (Qe b (Qa s)) e))++(⟨#[112]⟩:xM)) (Qz (de (dy (Qe b (Qa s)) e))) (Dg (dy (Qe b (Qa s)) e)) (Qe7 a c) (WR d))<|f) λd:((de (dy (Qe b (Qa s)) e)) != 0)=false=>(show(Ψ (Qz (dm (dy (Qe b (Qa s)) e))):y9)=Ψ (Dg (dy (Qe b (Qa s)) e))from Lu Ψ (WS d))
def G5(x:Tk):o3:=[.string x.s,.int .i64 x.a]
def KT(w0:xH)(v:y9):Qp prog w0 (Instr.makeInterface 103 v) (.iface 103 v):=λw _=>x5
def BI(z:Int):y9:=.iface 103 (.int .i64 z)
structure χ where
 A0:Option Addr
 c0:Nat
 ls:List Ln
 Al:Nat->Option Addr
 cl:Nat->Nat
 A:Option Addr
 c:Nat
 l:List Tk
 ne:Int
 en:Int
def χ.cs(s:χ)(xs:o3):o3:=.slice s.A0 s.ls.length s.c0::.slice s.A s.l.length s.c::.int .i64 s.ne::.int .i64 s.en::xs
structure χ.ok (s:χ) (w:World):Prop where
 h0:s.ls.length<=s.c0
 r0:RdK w s.A0 s.ls.length 2 (λj=>[.slice (s.Al j) (Xv s.ls j).l.length (s.cl j),.int .i64 (Xv s.ls j).e])
 hl:∀j,j<s.ls.length->(Xv s.ls j).l.length<=s.cl j
 rl:∀j,j<s.ls.length->RdK w (s.Al j) (Xv s.ls j).l.length 2 (λi=>G5 (Qg (Xv s.ls j).l i))
 hc:s.l.length<=s.c
 rd:RdK w s.A s.l.length 2 (λj=>G5 (Qg s.l j))
def χ.nx(s:χ):χ:={ s with A:=CX s.A s.c 2,c:=s.c-1,l:=s.l.drop 1 }
def χ.ln(s:χ):χ:={ s with A0:=CX s.A0 s.c0 2,c0:=s.c0-1,ls:=s.ls.drop 1,Al:=λj=>s.Al (j+1),cl:=λj=>s.cl (j+1),A:=s.Al 0,c:=s.cl 0,l:=(Xv s.ls 0).l,ne:=(Xv s.ls 0).e }
def Qer(w0:xH){A:xN}{c:Nat}(l:List Tk)(d:0<l.length)(a:l.length<=c)(b:RdK w0 A l.length 2 (λj=>G5 (Qg l j))):
  Qp prog w0 (Instr.sliceAt 70 (.slice A l.length c) (some (.int .i64 1)) none none) (.slice (CX A c 2) (l.drop 1).length (c-1)):=by
 obtain⟨n,hn⟩:∃n,l.length=n+1:=⟨l.length-1,x3⟩
 rw[hn]at b a ⊢;rw[show(l.drop 1).length=n by rw[Lf];omega];exact yG (Qm 70 _ rfl) rfl x4 a b
def yW{A:xN}{c:Nat}{l:List α}(a:l.length<=c)(b:RdK w0 A l.length 2 f):RdK w0 (CX A c 2) (l.drop 1).length 2 (λj=>f (j+1)):=by
 cases l with
 |nil=>intro h;simp at h
 |cons x l=>exact pZ a b
def kV(l:List Tk)(j:Nat):Qg (l.drop 1) j=Qg l (j+1):=by
 simp[Qg]
def FB(l:List Ln)(j:Nat):Xv (l.drop 1) j=Xv l (j+1):=by
 simp[Xv]
def χ.ok.nx{s:χ}(h:s.ok w):s.nx.ok w:=⟨h.h0,h.r0,h.hl,h.rl,(by show(s.l.drop 1).length<=s.c-1;rw[Lf];have:=h.hc;omega),(yW h.hc h.rd).congr λj _=>by show _=G5 (Qg (s.l.drop 1) j);rw[kV]⟩
def χ.ok.ln{s:χ}(h:s.ok w)(b:0<s.ls.length):s.ln.ok w:=by
 have c:∀j,j<(s.ls.drop 1).length->j+1<s.ls.length:=λj a=>by rw[Lf]at a;omega
 refine⟨by show(s.ls.drop 1).length<=s.c0-1;rw[Lf];have:=h.h0;omega,(yW h.h0 h.r0).congr λj _=>?_,λj a=>?_,λj a=>?_,h.hl 0 b,h.rl 0 b⟩
 ·show _=[Value.slice (s.Al (j+1)) (Xv (s.ls.drop 1) j).l.length (s.cl (j+1)),.int .i64 (Xv (s.ls.drop 1) j).e];rw[FB]
 ·show(Xv (s.ls.drop 1) j).l.length<=s.cl (j+1);rw[FB];exact h.hl _ (c j a)
 ·show RdK w (s.Al (j+1)) (Xv (s.ls.drop 1) j).l.length 2 (λi=>G5 (Qg (Xv (s.ls.drop 1) j).l i));rw[FB];exact h.rl _ (c j a)
variable{l:List Tk}
theorem ri(h:k<l.length):Qg l k∈l:=by
 grind[Qg]
def Qau{A:xN}{c:Nat}{l:List Ln}(a:0<l.length)(d:l.length<=c)(e:∃b o,A=some ⟨b,o,none⟩)(w:xH):(Instr.sliceAt 68 (.slice A l.length c) (some (.int .i64 1)) none none).run prog w=.ok (.slice (CX A c 2) (l.drop 1).length (c-1)) w:=by
 obtain⟨b,o,rfl⟩:=e;rw[JO prog w b o l.length c 1 l.length (some (.int .i64 1)) none (Qm 68 _ rfl) rfl x4 (.inr ⟨.i64,rfl⟩) (.inl ⟨rfl,rfl⟩) a d,Tl,Lf];rfl
def Cj(x:Tk):(G5 x).length=2:=rfl
def SO(x:Tk)(u:y9)(h:u∈G5 x):u.oneCell'=true:=by
 simp only[G5,Lb,Ri,or_false]at h;rcases h with rfl|rfl<;>rfl
def YW:Option Nat->Int
 |none=>-1
 |some i=>(i:Int)
section
variable{l:List UInt8}{a:Int}{p:Nat}
theorem Bq:∀ {p i:Nat},(Qd l a p).2=some i->i<p
 |0,_,h=>nomatch h
 |p+1,i,h=>by
  have b:(ZT l a p (Qd l a p)).2=some i:=h;unfold ZT at b;cases e:ZP (l.getD p 0)with
  |true =>
   rw[e]at b;unfold D3 at b;cases c:(Qd l a p).2 with
   |none=>rw[cond_true,c]at b;rw[c]at b;cases b
   |some j=>rw[cond_true,c]at b;cases b
  |false =>
   rw[e,cond_false]at b;cases c:(Qd l a p).2 with
   |none=>rw[c]at b;have d:=o7 b;omega
   |some j=>rw[c]at b;rw[c]at b;have d:=o7 b;have:=Bq c;omega
theorem ru(h:ZP (l.getD p 0)=true):Qd l a (p+1)=D3 l a p (Qd l a p):=by
 grind[ZT,Qd]
theorem rq(h:ZP (l.getD p 0)=false)(e:(Qd l a p).2=none):Qd l a (p+1)=((Qd l a p).1,some p):=by
 grind[ZT,Qd]
theorem eD{i:Nat}(h:ZP (l.getD p 0)=false)(e:(Qd l a p).2=some i):Qd l a (p+1)=Qd l a p:=by
 grind[ZT,Qd]
def kY(h:ZP (l.getD p 0)=false):∃i,(Qd l a (p+1)).2=some i:=by
 cases e:(Qd l a p).2 with
 |none=>rw[rq h e];exact⟨_,rfl⟩
 |some i=>rw[eD h e];exact⟨_,e⟩
theorem FY:∀ {w:Nat},1<=w->(∀j,j<w->ZP (l.getD (p+j) 0)=false)->Qd l a (p+w)=Qd l a (p+1)
 |1,_,_=>rfl
 |w+2,_,h=>by
  have b:=FY (w:=w+1) x3 λj c=>h j x3
  let⟨i,d⟩:=kY (a:=a) (h 0 x3);rw[<- b,show p+(w+2)=(p+(w+1))+1 by omega];simp_all[eD]
theorem At:∀p,(Qd l a p).1.length<=p
 |0=>L4 _
 |p+1=>by
  have h:=At p
  grind[ZT,Qd,D3]
def ar{o:Option Nat}(h:decide (YW o>=0)=false):o=none:=by
 cases o with
 |none=>rfl
 |some i=>have:=L1 h;exact absurd (Int.natCast_nonneg i) this
def Nn{o:Option Nat}(h:decide (YW o>=0)=true):∃i,o=some i/\YW o=(i:Int):=by
 cases o with
 |none=>exact absurd (L0 h) x4
 |some i=>exact⟨i,rfl,rfl⟩
theorem UV(h:decide (YW (Qd l a p).2>=0)=true):D3 l a p (Qd l a p)=((Qd l a p).1++[⟨sub l (YW (Qd l a p).2).toNat p,a+YW (Qd l a p).2⟩],none):=by
 let⟨i,e,b⟩:=Nn h
 grind[D3]
def UU(h:decide (YW (Qd l a p).2>=0)=false):D3 l a p (Qd l a p)=Qd l a p:=by
 unfold D3;rw[ar h]
end
variable{p:Nat}
theorem XC(h:p<s.size)(a:(((Utf8.decode s p).1:Nat):Int)=32\/(((Utf8.decode s p).1:Nat):Int)=9):ZP (s.data.toList.getD p 0)=true/\(Utf8.decode s p).2=1:=by
 rcases R5 (s.data.toList.getD p 0).toNat 128 with b|b
 ·have e:=fE h b;rw[e]at a ⊢;refine⟨?_,rfl⟩;unfold ZP;rcases a with a|a
  ·have c:(((s.data.toList.getD p 0).toNat:Nat):Int)=32:=a;rw[show s.data.toList.getD p 0=32 from UInt8.toNat_inj.1 (show(s.data.toList.getD p 0).toNat=32 by omega)];rfl
  ·have c:(((s.data.toList.getD p 0).toNat:Nat):Int)=9:=a;rw[show s.data.toList.getD p 0=9 from UInt8.toNat_inj.1 (show(s.data.toList.getD p 0).toNat=9 by omega)];rfl
 grind[UM]
theorem lG{c:UInt8}(h:128<=c.toNat):ZP c=false:=by
 unfold ZP;rw[Rf];exact⟨Lp.2 λe=>by rw[e]at h;exact absurd h x4,Lp.2 λe=>by rw[e]at h;exact absurd h x4⟩
theorem Yp(h:p<s.size)(a:¬(((Utf8.decode s p).1:Nat):Int)=32)(b:¬(((Utf8.decode s p).1:Nat):Int)=9):1<=(Utf8.decode s p).2/\p+(Utf8.decode s p).2<=s.size/\∀j,j<(Utf8.decode s p).2->ZP (s.data.toList.getD (p+j) 0)=false:=by
 rcases R5 (s.data.toList.getD p 0).toNat 128 with c|c
 ·have e:=fE h c;rw[e]at a b ⊢;refine⟨L4 _,h,λj d=>?_⟩;have:j=0:=by have f:j<1:=d;omega
  subst this;unfold ZP;rw[Rf];exact⟨Lp.2 λe=>a (by rw[T9]at e;rw[e];rfl),Lp.2 λe=>b (by rw[T9]at e;rw[e];rfl)⟩
 grind[UM,lG]
theorem SJ(s:xM)(o:Option Nat)(p:Nat)(h:decide (YW o>=0)=true)(a:∀i,o=some i->i<=p)(c:p<=s.size)(W:xH):Qp prog W (Instr.sliceAt 9 (.string s) (some (.int .i64 (YW o))) (some (.int .i64 (p:Int))) none) (.string (sub s.data.toList (YW o).toNat p)):=λd _=>by
 let⟨i,e,b⟩:=Nn h;have f:=a i e;rw[b,run_sliceAt_string (h:=Tryz.underlying9),run_slice_string (h:=Tryz.underlying9) (h0:=x3) (h1:=x3) (h2:=x3)];congr 2;apply ByteArray.ext;rw[Va]
 grind[sub]
section
variable{l:List UInt8}{a:Int}{p w:Nat}
def QbY(b:1<=w)(h:∀j,j<w->ZP (l.getD (p+j) 0)=false)(hn:decide (YW (Qd l a p).2<0)=true):Qd l a (p+w)=((Qd l a p).1,some p):=by
 rw[FY b h];refine rq (h 0 x3) ?_
 cases e:(Qd l a p).2 with
 |none=>rfl
 |some i=>rw[e]at hn;have c:(i:Int)<0:=L0 hn;omega
def QbZ(b:1<=w)(h:∀j,j<w->ZP (l.getD (p+j) 0)=false)(hn:decide (YW (Qd l a p).2<0)=false):Qd l a (p+w)=Qd l a p:=by
 rw[FY b h];cases e:(Qd l a p).2 with
 |none=>rw[e]at hn;exact absurd (show(-1:Int)<0 by decide) (L1 hn)
 |some i=>exact eD (h 0 x3) e
def kW(b:ZP (l.getD p 0)=true/\w=1)(h:decide (YW (Qd l a p).2>=0)=true):Qd l a (p+w)=((Qd l a p).1++[⟨sub l (YW (Qd l a p).2).toNat p,a+YW (Qd l a p).2⟩],none):=by
 rw[b.2,ru b.1,UV h]
def kX(b:ZP (l.getD p 0)=true/\w=1)(h:decide (YW (Qd l a p).2>=0)=false):Qd l a (p+w)=((Qd l a p).1,none):=by
 rw[b.2,ru b.1,UU h,<- ar h]
variable{x:List Tk×Option Nat}(E:Qd l a p=x)
include E
theorem FV{t:Nat}{A:xN}{c:Nat}{X:y9}{S:Nat->Prop}{w:xH}(h:(Qc t 2 G5 x.1 A c).φ X S w):(Qc t 2 G5 (Qd l a p).1 A c).φ X S w:=by rw[E];exact h
theorem FW{A:xN}{c:Nat}:Value.slice A x.1.length c=Value.slice A (Qd l a p).1.length c:=by rw[E]
theorem O7:YW x.2=YW (Qd l a p).2:=by rw[E]
end
variable{a:Int}
def ew(h:decide (YW (Qd s.data.toList a p).2>=0)=true):0<=YW (Qd s.data.toList a p).2/\YW (Qd s.data.toList a p).2<p:=by
 let⟨i,e,b⟩:=Nn h;have:=Bq e;omega
theorem iN(b:p=s.size)(h:decide (YW (Qd s.data.toList a p).2>=0)=true):(Qd s.data.toList a p).1++[⟨sub s.data.toList (YW (Qd s.data.toList a p).2).toNat s.size,a+YW (Qd s.data.toList a p).2⟩]=YI s.data.toList a:=by
 subst b;simp_all[YI,UV]
theorem iM(b:p=s.size)(h:decide (YW (Qd s.data.toList a p).2>=0)=false):(Qd s.data.toList a p).1=YI s.data.toList a:=by
 subst b;simp_all[YI,UU]
def Y9:RowT prog 70 70 102 2 24:=⟨x5,⟨102,x5⟩,x5,x4,x4⟩
abbrev HJh(s:xM)(a:Int)(q1:Nat×Hp):=Qd s.data.toList a q1.1
abbrev HJi(s:xM)(a:Int)(q1:Nat×Hp):=sub s.data.toList (YW (HJh s a q1).2).toNat q1.1
abbrev HJj(q1:Nat×Hp)(s:xM):=(q1.1+(Utf8.decode s q1.1).2,q1.2)
noncomputable def HJk(s:xM)(a:Int)(q1:Nat×Hp):List Dir:=[.inl 8 2 f86,.both [.reg 10 [],x03 1 4 (.string (HJi s a q1)),x05 1 7 (iV (a+YW (HJh s a q1).2)),x08 1 10 0 (λ(d:Hp)=>(Value.slice d.1 ((HJh s a q1).1++[(⟨(HJi s a q1),a+YW (HJh s a q1).2⟩:Tk)]).length d.2,Qc 102 2 G5 ((HJh s a q1).1++[(⟨(HJi s a q1),a+YW (HJh s a q1).2⟩:Tk)]) d.1 d.2,[.nxt [d]]))] [.nxt [q1.2]]]
abbrev HJl(s:xM)(a:Int)(q1:Nat×Hp):=sub s.data.toList (YW (HJh s a q1).2).toNat s.size
abbrev HJm:Nat×Hp:=(0,(none,0))
abbrev HJn(j:Nat):y9:=.pointer (some ⟨j,0,none⟩)
abbrev HJo(s:xM)(q1:Nat×Hp):=Utf8.decode s q1.1
abbrev HJp(s:xM)(a:Int)(q1:Nat×Hp):=(Qd s.data.toList a ((HJj q1 s).1)).1
abbrev HJq(j:Nat)(s:xM)(q1:Nat×Hp):=Mp j s (q1.1+(HJo s q1).2)
abbrev HJr:=λa w=>call86 a w
def rp(C:s.size<=65536)(D:0<=a/\a<=1000000)(w:xH):NewIn prog w [] 46 #[Ψ s,Θ a] (λy:Hp=>Ω y.1 (YI s.data.toList a).length y.2) (λy:Hp=>Qc 102 2 G5 (YI s.data.toList a) y.1 y.2) :=
 let t:OB:=some (9,[sV s]);let v:OB:=some (3,[iV a]);Bf Hp Qm QU (λa w=>call46 a w) func46 ntmps46 results46 _ rfl 0 _ _ [.nil 0 2 102 2 G5,x09 4 1 [] (λ(j:Nat)=>(x02 j,Mp j s 0,[x0a (HJm:Nat×Hp) (λ(q1:Nat×Hp) (u:List Hp)=>(q1.1+(HJo s q1).2,u.headD (none,0))) (λ(q1:Nat×Hp)=>((⟨36,[(2,.ptr 0 0),(3,.ptr 1 0),(5,.ptr 2 0),(6,.ptr 3 0),(7,.clo (.func 86) [] [.ptr 3 0,.ptr 2 0,.ptr 0 0,.ptr 1 0]),(12,.val (HJn j))],[none,none,some (70,[lV q1.2.1 ((HJh s a q1).1).length q1.2.2]),some (3,[iV (YW (HJh s a q1).2)])],[some (Qc 102 2 G5 ((HJh s a q1).1) q1.2.1 q1.2.2),some (Mp j s q1.1)]⟩:St),(q1.1<=s.size),(s.size-q1.1),[.cas 5 0 (decide (q1.1<s.size)) [x08 5 0 1 (λ(z:Unit)=>(Value.tuple #[Ξ true,Θ (q1.1:Int),.int .i32 (((HJo s q1).1:Nat):Int)],Mp j s (q1.1+(HJo s q1).2),[.gb 7 3 [.both (HJk s a q1) [.both [.nxt [q1.2]] [.nxt [q1.2]]]] (HJk s a q1)]))] [x08 5 0 1 (λ(z:Unit)=>(Value.tuple #[Ξ false],Mp j s q1.1,[.inl 11 3 f86,.both [.reg 10 [],x03 1 4 (Ψ (HJl s a q1)),x05 1 7 (iV (a+YW (HJh s a q1).2)),x08 1 10 0 (λ(d:Hp)=>(Ω d.1 ((HJh s a q1).1++[(⟨(HJl s a q1),a+YW (HJh s a q1).2⟩:Tk)]).length d.2,Qc 102 2 G5 ((HJh s a q1).1++[(⟨(HJl s a q1),a+YW (HJh s a q1).2⟩:Tk)]) d.1 d.2,[]))] []]))]]))]))] (λW E=>ai (QdE prog W s Tryz.underlying9) λ(j:Nat)=>Yx (Rx (.func 86:Fn)) (qV (HJn j)) (qk t) (qk v) (qV (Ω HJm.2.1 ((Qd s.data.toList a (HJm.1)).1).length HJm.2.2)) (qI (YW (Qd s.data.toList a (HJm.1)).2)) (Yq (Qc 102 2 G5 ([]:List Tk) none 0) (Qc 102 2 G5 ((Qd s.data.toList a (HJm.1)).1) (HJm.2.1) (HJm.2.2)) λ_ _ _ h=>h) (Yq (Mp j s 0) (Mp j s HJm.1) λ_ _ _ h=>h)<|ai (show(0:Nat)<=s.size from L7 _) λ(q1:Nat×Hp) (B:(q1.1<=s.size))=>Xi (decide (q1.1<s.size)) (λf=>ai (uj prog W s j q1.1 0 (L0 f)) λ(z:Unit)=>ZD ((((Utf8.decode s q1.1).1:Nat):Int)==32) false (λb=>Xi ((((Utf8.decode s q1.1).1:Nat):Int)==9) (λk=>X0 func86 HJr<|Xi (decide ((YW (Qd s.data.toList a q1.1).2)>=0)) (λn=>X0 (SJ s ((HJh s a q1).2) q1.1 n (λi e=>L6 (Sv (Bq e)) (L4 _)) B W) (show IntKind.i64.wrap (a+YW (Qd s.data.toList a q1.1).2)=a+YW (Qd s.data.toList a q1.1).2 from Le _ (x8 (ew n)))<|ai (YJ W 70 102 1 1 G5 ((HJh s a q1).1) ([(⟨(HJi s a q1),a+YW (HJh s a q1).2⟩:Tk)]) ((HJh s a q1).1++[(⟨(HJi s a q1),a+YW (HJh s a q1).2⟩:Tk)]) q1.2.1 q1.2.2 ([Ψ (HJi s a q1),Θ (a+YW (HJh s a q1).2)]) Y9 Cj SO rfl (show((Qd s.data.toList a q1.1).1++[(⟨(sub s.data.toList (YW (Qd s.data.toList a q1.1).2).toNat q1.1),a+YW (Qd s.data.toList a q1.1).2⟩:Tk)]).length*24<=140737488355328 from by rw[La];have:=At (l:=s.data.toList) (a:=a) q1.1;simp only[Ro];omega) rfl rfl) λ(d:Hp)=>Yx (Rx (.func 86:Fn)) (qV (HJn j)) (qk t) (qk v) (show(Ω d.1 ((Qd s.data.toList a q1.1).1++[(⟨(sub s.data.toList (YW (Qd s.data.toList a q1.1).2).toNat q1.1),a+YW (Qd s.data.toList a q1.1).2⟩:Tk)]).length d.2:y9)=(Ω (q1.1+(Utf8.decode s q1.1).2,d).2.1 ((Qd s.data.toList a ((q1.1+(Utf8.decode s q1.1).2,d).1)).1).length (q1.1+(Utf8.decode s q1.1).2,d).2.2)from(FW (kW (XC (L0 f) (.inr (l3 k))) n))) (show((-1):Int)=(YW (Qd s.data.toList a ((q1.1+(Utf8.decode s q1.1).2,d).1)).2)from(O7 (kW (XC (L0 f) (.inr (l3 k))) n))) (Yq (Qc 102 2 G5 ((HJh s a q1).1++[(⟨(HJi s a q1),a+YW (HJh s a q1).2⟩:Tk)]) d.1 d.2) (Qc 102 2 G5 ((Qd s.data.toList a ((q1.1+(HJo s q1).2,d).1)).1) ((q1.1+(HJo s q1).2,d).2.1) ((q1.1+(HJo s q1).2,d).2.2)) λ_ _ _ h=>(FV (kW (XC (L0 f) (.inr (l3 k))) n) h)) (Yq (HJq j s q1) (Mp j s (q1.1+(HJo s q1).2,d).1) λ_ _ _ h=>h)<|ai (show q1.1+(Utf8.decode s q1.1).2<=s.size from by have q:=(XC (L0 f) (.inr (l3 k))).2;have r:=L0 f;omega) (show s.size-(q1.1+(Utf8.decode s q1.1).2)<s.size-q1.1 from by have q:=(XC (L0 f) (.inr (l3 k))).2;have r:=L0 f;omega)) λn=>Yx (Rx (.func 86:Fn)) (qV (HJn j)) (qk t) (qk v) (show(Ω q1.2.1 ((Qd s.data.toList a q1.1).1).length q1.2.2:y9)=(Ω (q1.1+(Utf8.decode s q1.1).2,q1.2).2.1 ((Qd s.data.toList a ((q1.1+(Utf8.decode s q1.1).2,q1.2).1)).1).length (q1.1+(Utf8.decode s q1.1).2,q1.2).2.2)from(FW (kX (XC (L0 f) (.inr (l3 k))) n))) (show((-1):Int)=(YW (Qd s.data.toList a ((q1.1+(Utf8.decode s q1.1).2,q1.2).1)).2)from(O7 (kX (XC (L0 f) (.inr (l3 k))) n))) (Yq (Qc 102 2 G5 ((HJh s a q1).1) q1.2.1 q1.2.2) (Qc 102 2 G5 (HJp s a q1) ((HJj q1 s).2.1) ((HJj q1 s).2.2)) λ_ _ _ h=>(FV (kX (XC (L0 f) (.inr (l3 k))) n) h)) (Yq (HJq j s q1) (Mp j s (HJj q1 s).1) λ_ _ _ h=>h)<|ai (show q1.1+(Utf8.decode s q1.1).2<=s.size from by have q:=(XC (L0 f) (.inr (l3 k))).2;have r:=L0 f;omega) (show s.size-(q1.1+(Utf8.decode s q1.1).2)<s.size-q1.1 from by have q:=(XC (L0 f) (.inr (l3 k))).2;have r:=L0 f;omega)) λk=>Xi (decide ((YW (Qd s.data.toList a q1.1).2)<0)) (λhn=>Yx (Rx (.func 86:Fn)) (qV (HJn j)) (qk t) (qk v) (show(Ω q1.2.1 ((Qd s.data.toList a q1.1).1).length q1.2.2:y9)=(Ω (q1.1+(Utf8.decode s q1.1).2,q1.2).2.1 ((Qd s.data.toList a ((q1.1+(Utf8.decode s q1.1).2,q1.2).1)).1).length (q1.1+(Utf8.decode s q1.1).2,q1.2).2.2)from(FW (QbY (Yp (L0 f) (l3 b) (l3 k)).1 (Yp (L0 f) (l3 b) (l3 k)).2.2 hn))) (show((q1.1:Int):Int)=(YW (Qd s.data.toList a ((q1.1+(Utf8.decode s q1.1).2,q1.2).1)).2)from(O7 (QbY (Yp (L0 f) (l3 b) (l3 k)).1 (Yp (L0 f) (l3 b) (l3 k)).2.2 hn))) (Yq (Qc 102 2 G5 ((HJh s a q1).1) q1.2.1 q1.2.2) (Qc 102 2 G5 (HJp s a q1) ((HJj q1 s).2.1) ((HJj q1 s).2.2)) λ_ _ _ h=>(FV (QbY (Yp (L0 f) (l3 b) (l3 k)).1 (Yp (L0 f) (l3 b) (l3 k)).2.2 hn) h)) (Yq (HJq j s q1) (Mp j s (HJj q1 s).1) λ_ _ _ h=>h)<|ai (show q1.1+(Utf8.decode s q1.1).2<=s.size from(Yp (L0 f) (l3 b) (l3 k)).2.1) (show s.size-(q1.1+(Utf8.decode s q1.1).2)<s.size-q1.1 from by have q:=(Yp (L0 f) (l3 b) (l3 k)).1;have r:=L0 f;omega)) λhn=>Yx (Rx (.func 86:Fn)) (qV (HJn j)) (qk t) (qk v) (show(Ω q1.2.1 ((Qd s.data.toList a q1.1).1).length q1.2.2:y9)=(Ω (q1.1+(Utf8.decode s q1.1).2,q1.2).2.1 ((Qd s.data.toList a ((q1.1+(Utf8.decode s q1.1).2,q1.2).1)).1).length (q1.1+(Utf8.decode s q1.1).2,q1.2).2.2)from(FW (QbZ (Yp (L0 f) (l3 b) (l3 k)).1 (Yp (L0 f) (l3 b) (l3 k)).2.2 hn))) (show((YW (Qd s.data.toList a q1.1).2):Int)=(YW (Qd s.data.toList a ((q1.1+(Utf8.decode s q1.1).2,q1.2).1)).2)from(O7 (QbZ (Yp (L0 f) (l3 b) (l3 k)).1 (Yp (L0 f) (l3 b) (l3 k)).2.2 hn))) (Yq (Qc 102 2 G5 ((HJh s a q1).1) q1.2.1 q1.2.2) (Qc 102 2 G5 (HJp s a q1) ((HJj q1 s).2.1) ((HJj q1 s).2.2)) λ_ _ _ h=>(FV (QbZ (Yp (L0 f) (l3 b) (l3 k)).1 (Yp (L0 f) (l3 b) (l3 k)).2.2 hn) h)) (Yq (HJq j s q1) (Mp j s (HJj q1 s).1) λ_ _ _ h=>h)<|ai (show q1.1+(Utf8.decode s q1.1).2<=s.size from(Yp (L0 f) (l3 b) (l3 k)).2.1) (show s.size-(q1.1+(Utf8.decode s q1.1).2)<s.size-q1.1 from by have q:=(Yp (L0 f) (l3 b) (l3 k)).1;have r:=L0 f;omega)) λb=>X0 func86 HJr<|Xi (decide ((YW (Qd s.data.toList a q1.1).2)>=0)) (λn=>X0 (SJ s ((HJh s a q1).2) q1.1 n (λi e=>L6 (Sv (Bq e)) (L4 _)) B W) (show IntKind.i64.wrap (a+YW (Qd s.data.toList a q1.1).2)=a+YW (Qd s.data.toList a q1.1).2 from Le _ (x8 (ew n)))<|ai (YJ W 70 102 1 1 G5 ((HJh s a q1).1) ([(⟨(HJi s a q1),a+YW (HJh s a q1).2⟩:Tk)]) ((HJh s a q1).1++[(⟨(HJi s a q1),a+YW (HJh s a q1).2⟩:Tk)]) q1.2.1 q1.2.2 ([Ψ (HJi s a q1),Θ (a+YW (HJh s a q1).2)]) Y9 Cj SO rfl (show((Qd s.data.toList a q1.1).1++[(⟨(sub s.data.toList (YW (Qd s.data.toList a q1.1).2).toNat q1.1),a+YW (Qd s.data.toList a q1.1).2⟩:Tk)]).length*24<=140737488355328 from by rw[La];have:=At (l:=s.data.toList) (a:=a) q1.1;simp only[Ro];omega) rfl rfl) λ(d:Hp)=>Yx (Rx (.func 86:Fn)) (qV (HJn j)) (qk t) (qk v) (show(Ω d.1 ((Qd s.data.toList a q1.1).1++[(⟨(sub s.data.toList (YW (Qd s.data.toList a q1.1).2).toNat q1.1),a+YW (Qd s.data.toList a q1.1).2⟩:Tk)]).length d.2:y9)=(Ω (q1.1+(Utf8.decode s q1.1).2,d).2.1 ((Qd s.data.toList a ((q1.1+(Utf8.decode s q1.1).2,d).1)).1).length (q1.1+(Utf8.decode s q1.1).2,d).2.2)from(FW (kW (XC (L0 f) (.inl (l3 b))) n))) (show((-1):Int)=(YW (Qd s.data.toList a ((q1.1+(Utf8.decode s q1.1).2,d).1)).2)from(O7 (kW (XC (L0 f) (.inl (l3 b))) n))) (Yq (Qc 102 2 G5 ((HJh s a q1).1++[(⟨(HJi s a q1),a+YW (HJh s a q1).2⟩:Tk)]) d.1 d.2) (Qc 102 2 G5 ((Qd s.data.toList a ((q1.1+(HJo s q1).2,d).1)).1) ((q1.1+(HJo s q1).2,d).2.1) ((q1.1+(HJo s q1).2,d).2.2)) λ_ _ _ h=>(FV (kW (XC (L0 f) (.inl (l3 b))) n) h)) (Yq (HJq j s q1) (Mp j s (q1.1+(HJo s q1).2,d).1) λ_ _ _ h=>h)<|ai (show q1.1+(Utf8.decode s q1.1).2<=s.size from by have q:=(XC (L0 f) (.inl (l3 b))).2;have r:=L0 f;omega) (show s.size-(q1.1+(Utf8.decode s q1.1).2)<s.size-q1.1 from by have q:=(XC (L0 f) (.inl (l3 b))).2;have r:=L0 f;omega)) λn=>Yx (Rx (.func 86:Fn)) (qV (HJn j)) (qk t) (qk v) (show(Ω q1.2.1 ((Qd s.data.toList a q1.1).1).length q1.2.2:y9)=(Ω (q1.1+(Utf8.decode s q1.1).2,q1.2).2.1 ((Qd s.data.toList a ((q1.1+(Utf8.decode s q1.1).2,q1.2).1)).1).length (q1.1+(Utf8.decode s q1.1).2,q1.2).2.2)from(FW (kX (XC (L0 f) (.inl (l3 b))) n))) (show((-1):Int)=(YW (Qd s.data.toList a ((q1.1+(Utf8.decode s q1.1).2,q1.2).1)).2)from(O7 (kX (XC (L0 f) (.inl (l3 b))) n))) (Yq (Qc 102 2 G5 ((HJh s a q1).1) q1.2.1 q1.2.2) (Qc 102 2 G5 (HJp s a q1) ((HJj q1 s).2.1) ((HJj q1 s).2.2)) λ_ _ _ h=>(FV (kX (XC (L0 f) (.inl (l3 b))) n) h)) (Yq (HJq j s q1) (Mp j s (HJj q1 s).1) λ_ _ _ h=>h)<|ai (show q1.1+(Utf8.decode s q1.1).2<=s.size from by have q:=(XC (L0 f) (.inl (l3 b))).2;have r:=L0 f;omega) (show s.size-(q1.1+(Utf8.decode s q1.1).2)<s.size-q1.1 from by have q:=(XC (L0 f) (.inl (l3 b))).2;have r:=L0 f;omega)) λf=>ai (Qak prog W s j q1.1 0 (L1 f)) λ(z:Unit)=>X0 func86 HJr<|Xi (decide ((YW (Qd s.data.toList a q1.1).2)>=0)) (λn=>X0 (SJ s ((HJh s a q1).2) s.size n (λi e=>L6 (Sv (Bq e)) B) (L4 _) W) (show IntKind.i64.wrap (a+YW (Qd s.data.toList a q1.1).2)=a+YW (Qd s.data.toList a q1.1).2 from Le _ (x8 (ew n)))<|ai (YJ W 70 102 1 1 G5 ((HJh s a q1).1) ([(⟨(HJl s a q1),a+YW (HJh s a q1).2⟩:Tk)]) ((HJh s a q1).1++[(⟨(HJl s a q1),a+YW (HJh s a q1).2⟩:Tk)]) q1.2.1 q1.2.2 ([Ψ (HJl s a q1),Θ (a+YW (HJh s a q1).2)]) Y9 Cj SO rfl (show((Qd s.data.toList a q1.1).1++[(⟨(sub s.data.toList (YW (Qd s.data.toList a q1.1).2).toNat s.size),a+YW (Qd s.data.toList a q1.1).2⟩:Tk)]).length*24<=140737488355328 from by rw[La];have:=At (l:=s.data.toList) (a:=a) q1.1;simp only[Ro];omega) rfl rfl) λ(d:Hp)=>(show ∃y:Hp,SV.val (Ω d.1 ((Qd s.data.toList a q1.1).1++[(⟨(sub s.data.toList (YW (Qd s.data.toList a q1.1).2).toNat s.size),a+YW (Qd s.data.toList a q1.1).2⟩:Tk)]).length d.2)=SV.val ((λy:Hp=>Ω y.1 (YI s.data.toList a).length y.2) y)/\∀(x:y9) (S:Nat->Prop) (w:xH),(Qc 102 2 G5 ((Qd s.data.toList a q1.1).1++[(⟨(sub s.data.toList (YW (Qd s.data.toList a q1.1).2).toNat s.size),a+YW (Qd s.data.toList a q1.1).2⟩:Tk)]) d.1 d.2).φ x S w->((λy:Hp=>Qc 102 2 G5 (YI s.data.toList a) y.1 y.2) y).φ x S w from⟨d,by rw[<- (iN (show q1.1=s.size from Ra B (Nat.not_lt.1 (L1 f))) n)],λx S w h=>by rw[<- (iN (show q1.1=s.size from Ra B (Nat.not_lt.1 (L1 f))) n)];exact h⟩)) λn=>(show ∃y:Hp,SV.val (Ω q1.2.1 ((Qd s.data.toList a q1.1).1).length q1.2.2)=SV.val ((λy:Hp=>Ω y.1 (YI s.data.toList a).length y.2) y)/\∀(x:y9) (S:Nat->Prop) (w:xH),(Qc 102 2 G5 ((Qd s.data.toList a q1.1).1) q1.2.1 q1.2.2).φ x S w->((λy:Hp=>Qc 102 2 G5 (YI s.data.toList a) y.1 y.2) y).φ x S w from⟨q1.2,by rw[<- (iM (show q1.1=s.size from Ra B (Nat.not_lt.1 (L1 f))) n)],λx S w h=>by rw[<- (iM (show q1.1=s.size from Ra B (Nat.not_lt.1 (L1 f))) n)];exact h⟩)) λW=>x5
variable{i:Nat}
theorem ay{l:List UInt8}(a:i<p)(b:p<=l.length):(sub l i p).size=p-i:=by
 show((l.take p).drop i).toArray.size=_
 grind
theorem aF(l:List UInt8)(a:Int):∀p,p<=l.length->∀t,t∈(Qd l a p).1->0<t.s.size/\t.s.size<=l.length
 |0,_,t,d=>nomatch d
 |p+1,h,t,d=>by
  have f:=aF l a p x3;have b:t∈(ZT l a p (Qd l a p)).1:=d;unfold ZT at b;cases e:ZP (l.getD p 0)with
  |true =>
   rw[e,cond_true]at b;unfold D3 at b;cases c:(Qd l a p).2 with
   |none=>rw[c]at b;exact f t b
   |some i =>
    grind[Bq,ay]
  |false =>
   rw[e,cond_false]at b;cases c:(Qd l a p).2 with
   |none=>rw[c]at b;exact f t b
   |some i=>rw[c]at b;exact f t b
theorem Px{l:List UInt8}:(YI l a).length<=l.length+1/\∀t,t∈YI l a->0<t.s.size/\t.s.size<=l.length:=by
 have c:=At (l:=l) (a:=a) l.length;have b:=aF l a l.length (L4 _);unfold YI D3;cases d:(Qd l a l.length).2 with
 |none=>exact⟨by show(Qd l a l.length).1.length<=_;omega,b⟩
 |some i =>
  refine⟨?_,λt e=>?_⟩;all_goals grind[Bq,ay]
theorem EV:∀(s:List UInt8),(Qi s).length<=s.length+1/\∀l,l∈Qi s->l.length<=s.length
 |[]=>⟨L4 _,λl h=>by rw[Ly.1 h];exact L7 _⟩
 |c::r=>by
  let⟨a,b⟩:=EV r;unfold Qi;cases c==10 with
  |true =>
   grind
  |false =>
   show(match Qi r with | []=>[[c]] | l::m=>(c::l)::m).length<=_/\∀l,l∈(match Qi r with | []=>[[c]] | l::m=>(c::l)::m)->_;cases e:Qi r with
   |nil=>exact⟨x6,λl h=>by rw[Ly.1 h];simp⟩
   |cons x m =>
    grind
theorem Mz{n:Nat}:∀(ls:List (List UInt8)) (a:Int),(∀l,l∈ls->l.length<=n)->(Qo ls a).length<=ls.length/\∀x,x∈Qo ls a->(x.l.length<=n+1/\∀t,t∈x.l->0<t.s.size/\t.s.size<=n)/\x.l≠[]
 |[],_,_=>⟨L4 _,λ_ h=>nomatch h⟩
 |l::r,a,h=>by
  have c:=h l x6;let⟨d,i⟩:=Mz r (a+(l.length:Int)+1) λx b=>h x (by simp[b])
  unfold Qo;cases e:VE (YI l a)with
  |false=>exact⟨L6 d (Nat.le_succ _),i⟩
  |true =>
   refine⟨T3 d,λx b=>?_⟩;rcases Lb.1 b with rfl|b
   ·let⟨j,f⟩:=Px (l:=l) (a:=a);refine⟨⟨L6 j (T3 c),λt g=>⟨(f t g).1,L6 (f t g).2 c⟩⟩,λk=>?_⟩;have m:YI l a=[]:=k;rw[m]at e;cases e
   grind
theorem Ni(c:UInt8)(r:List UInt8):Qi (c::r)=bif c==10 then[]::Qi r else match Qi r with | []=>[[c]] | l::m=>(c::l)::m:=rfl
def OZ:∀ {s:List UInt8} {i:Nat},(∀j:Nat,j<i->s[j]?≠some 10)->s[i]?=some 10->Qi s=s.take i::Qi (s.drop (i+1))
 |[],i,_,h=>by cases i<;>cases h
 |c::r,0,_,h=>by
  have e:c=10:=o7 h;subst e;rfl
 |c::r,i+1,a,h=>by
  have b:(c==10)=false:=Lp.2 λe=>a 0 (Sw _) (by rw[e];rfl)
  have d:=OZ (s:=r) (i:=i) (λj f=>a (j+1) (Uy f)) h;rw[Ni,b,d];rfl
theorem Nk:∀ {s:List UInt8},(∀j:Nat,s[j]?≠some 10)->Qi s=[s]
 |[],_=>rfl
 |c::r,h=>by
  have a:(c==10)=false:=Lp.2 λe=>h 0 (by rw[e];rfl)
  have b:=Nk (s:=r) λj=>h (j+1)
  grind[Ni]
def gd:∀(s:List UInt8) (c:UInt8),(Lib.indexByte s c=-1/\∀j:Nat,s[j]?≠some c)\/∃i:Nat,Lib.indexByte s c=(i:Int)/\(∀j,j<i->s[j]?≠some c)/\s[i]?=some c
 |[],_=>.inl ⟨rfl,λj h=>by cases j<;>cases h⟩
 |b::l,c=>by
  unfold Lib.indexByte;by_cases e:(b==c)=true
  ·rw[if_pos e];exact .inr ⟨0,rfl,λj f=>absurd f (R4 _),by rw[Tr e];rfl⟩
  ·rw[if_neg e];have g:b≠c:=λh=>e (by rw[h];exact beq_self_eq_true c)
   rcases gd l c with⟨a,d⟩|⟨i,a,d,k⟩
   ·rw[a];refine .inl ⟨rfl,λj h=>?_⟩;cases j with
    |zero=>exact g (o7 h)
    |succ j=>exact d j h
   ·rw[a,if_neg (by rw[Sk];omega)];refine .inr ⟨i+1,x3,λj f h=>?_,k⟩;cases j with
    |zero=>exact g (o7 h)
    |succ j=>exact d j x3 h
def zj(l:List xM):List (List UInt8):=l.map (·.data.toList)
def Hw(l:List xM):List UInt8:=Lib.join (zj l) [32]
def PZ(t u:xM)(r:List xM):Hw (t::u::r)=t.data.toList++32::Hw (u::r):=by
 rfl
def ZJ(l:List xM):List UInt8:=Hw l++[10]
theorem Qc6{x:Nm}(h:Ks x=true):de (nv x)=x.e:=by
 grind[Ks]
theorem My:∀ {a b c:List UInt8},Op.bytesLess a b=true->Op.bytesLess b c=true->Op.bytesLess a c=true
 |a,b,[],_,h=>by cases b<;>exact nomatch h
 |a,[],_::_,h,_=>by cases a<;>exact nomatch h
 |[],_::_,_::_,_,_=>rfl
 |x::a,y::b,z::c,e,d=>by
  simp only[Op.bytesLess,Bool.or_eq_true,Lx,decide_eq_true_eq,Sk]at e d ⊢;rcases e with e|⟨rfl,e⟩
  ·rcases d with d|⟨rfl,d⟩
   all_goals grind
  ·rcases d with d|⟨rfl,d⟩
   ·exact .inl d
   ·exact .inr ⟨rfl,My e d⟩
def sB(l:List Tm):Prop:=l.Pairwise λx y=>By x.m y.m=true
structure PyG (v:Nat) (p:Py):Prop where
 e:p.vars=(v:Int)
 n:v<=12
 l:p.ts.length<=4096
 m:∀t,t∈p.ts->ZN t.m (v:Int)=true
 z:∀t,t∈p.ts->(sg t.c==0)=false
 f:∀t,t∈p.ts->Ks t.c=true
 u:sB p.ts
theorem QcS{p:Py}(h:K9 p=0)(l:p.vars=(v:Int)):PyG v p:=by
 unfold K9 at h;split at h
 ·rename_i s;split at h
  ·cases h
  ·rename_i u;split at h
   ·cases h
   ·rename_i n;have o:∀k,k<p.ts.length->CI p.vars p.ts k=false:=λk q=>by
     cases e:CI p.vars p.ts k with
     |false=>rfl
     |true=>exact absurd (anyB_iff.2 ⟨k,q,e⟩) n
    have f:∀t,t∈p.ts->(ZN t.m p.vars=true/\(sg t.c==0)=false)/\Ks t.c=true:=λt a=>by
     grind[Th,CI,Qb]
    have r:∀j i,i<j->j<p.ts.length->By (Qb p.ts i).m (Qb p.ts j).m=true:=by
     intro j;induction j with
     |zero=>intro i b;exact absurd b (R4 _)
     |succ j w =>
      intro i b d;have x:=(Rf.1 (show(_||_)=false from o (j+1) d)).2
      grind[By,My]
    refine⟨l,x3,x3,λt a=>l▸(f t a).1.1,λt a=>(f t a).1.2,λt a=>(f t a).2,?_⟩;unfold sB;rw[List.pairwise_iff_getElem];intro i j b d g;have:=r j i g d;rwa [show Qb p.ts i=p.ts[i]from Yi b,show Qb p.ts j=p.ts[j]from Yi d]at this
 ·cases h
def eC(t:Tm):List xM:=Dg (nv t.c)::t.m.data.toList.map λb=>Qz (b.toNat:Int)
def EM(p:Py):List xM:=p.ts.flatMap eC
theorem om{m:xM}(h:ZN m (v:Int)=true):m.data.toList.length=v/\∀b,b∈m.data.toList->b.toNat<=127:=by
 unfold ZN at h;cases e:XQ m.size (λj=>decide ((bt m j:Int)>127))with
 |true=>rw[e]at h;cases h
 |false =>
  rw[e]at h;have d:=Tr (show((m.size:Int)==(v:Int))=true from h);have f:m.data.toList.length=m.size:=rfl;refine⟨x3,λb a=>?_⟩;obtain⟨k,g,rfl⟩:=Th a;have i:decide ((bt m k:Int)>127)=false:=by
   cases c:decide ((bt m k:Int)>127)with
   |false=>rfl
   |true=>rw[anyB_iff.2 ⟨k,x3,c⟩]at e;cases e
  grind[bt]
def dG(x:Nm):Prop:=Ks x=true/\-32768<=x.e/\x.e<=32768
def Yc(x:Nm):xM:=Dg (nv x)
def lk(v:Nat)(p:Py):Prop:=PyG v p/\∀t,t∈p.ts-> -32768<=t.c.e/\t.c.e<=32768
def BE(bx:List (Nm×Nm))(κ:List (List Nm)):List xM:=(bif bx.length==0 then Q6 else Jh)::(bx.flatMap (λs=>[Yc s.1,Yc s.2])++κ.flatMap λp=>p.map Yc)
def OL(n:Nd):List xM:=bif n.split==0 then Zq::Yc n.ο::EM n.sum else[Xo]
def Gy(δ:Int)(c b:Nm)(a:Int):List (List xM):=bif δ==6 then[]else[Zh,Yc c]::((bif δ==4 then[[Xh,Yc b]]else[])++[[Qy,Qz a]])
def Dt(x:PV):List (List xM):=[wKinds.getD x.δ.toNat ⟨#[]⟩,Qz x.vars]::BE x.box x.κ::(x.ps.map (λp=>ZC::EM p)++(x.θ.map (λp=>Xu::EM p)++(x.ι.map OL++Gy x.δ x.ν x.ε x.ζ)))
section
variable{L:List (List xM)}
def rA(δ:Int)(v:Nat)(bx:List (Nm×Nm))(κ:List (List Nm)):Prop:=1<=v/\((bx.length=v/\κ=[]/\∀s,s∈bx->dG s.1/\dG s.2)\/(bx=[]/\κ.length=v+1/\((δ==2)||(δ==5))=false/\∀p,p∈κ->p.length=v/\∀x,x∈p->dG x))
end
noncomputable def chkN(x:PV):Int:=Hs (Bh x) (JP x) x.box.length (eE x.κ x.vars.toNat) (Xc x.box)
theorem It{b a:Nm}{bx:List (Nm×Nm)}{c:List Nd}{p:List Nm}{x:Nm}(h:p∈κ)(d:x∈p):x∈Qk b a bx κ c:=by
 grind[Qk]
theorem dO{x:PV}(h:Bh x=true)(g:x.box.length=0):∃N:Nat,x.vars=(N:Int)/\1<=N/\x.κ.length=N+1/\∀j,j<N+1->(Qu x.κ j).length=N:=by
 unfold Bh at h;have b:=(L5.1 h).1;unfold K6 at b;have a:GR x.box.length x.κ x.vars (nX x.δ)=true:=by
  cases e:GR x.box.length x.κ x.vars (nX x.δ)with
  |true=>rfl
  |false =>
   grind
 have l:1<=x.vars:=by
  cases e:QY x.δ x.vars==0 with
  |true=>rw[e]at b;exact absurd b x6
  |false =>
   unfold QY at e;by_cases i:x.δ<1\/7<=x.δ\/x.vars<1
   ·rw[if_pos i]at e;cases e
   ·omega
 unfold GR at a;rw[g]at a;cases e:nX x.δ with
 |true =>
  rw[e]at a;simp at a;omega
 |false =>
  rw[e]at a;simp only[Bool.or_false,show decide ((((0:Nat):Nat):Int)>0)=false from rfl,cond_false,Lx,Sk,U2]at a;refine⟨x.vars.toNat,x3,x3,x3,λj m=>?_⟩;have c:Xb x.vars (Qu x.κ j)=false:=by
   cases k:Xb x.vars (Qu x.κ j)with
   |false=>rfl
   |true =>
    have d:=(anyB_iff (f:=λj=>Xb x.vars (Qu x.κ j))).2 ⟨j,(by omega:j<x.κ.length),k⟩;rw[a.2]at d;cases d
  unfold Xb at c;simp at c;omega
def lj{x:PV}(h:JP x=true):x.vars<=4:=by
 unfold JP at h;have a:=(L5.1 h).1;unfold Cq at a;cases e:decide (x.vars>4)with
 |true=>simp only[e]at a;cases a
 |false=>have:=L1 e;omega
def eT{x:PV}(h:JP x=true){q:Nm}(b:q∈Qk x.ν x.ε x.box x.κ x.ι):okS q:=by
 unfold JP at h;have c:=Lg.1 (L5.1 (L5.1 h).2).1 q b;have a:J1 q=false:=l3 c;unfold J1 at a;simp only[Rf,decide_eq_false_iff_not]at a;exact⟨x3,x3,x3⟩
theorem Ea(x:PV){c d e f g:y9}(h:okX x)(w:xH)(i:QV w)(j:Five lo w x c d e f g):RetAt prog w 16 #[yA x c d e f g] (.int .i64 (chkN x)):=by
 refine tf (t:=eE x.κ x.vars.toNat) x h w i j λW k m l n=>?_
 let⟨N,u,a,b,hpl⟩:=dO m n;have v:=lj l;have y:=ni (lo:=lo) b hpl (λp o q r=>eT l (It o r)) a x3 W (Ql i k) (j.s.below (pG lo) k)
 grind
abbrev PA:Type:=List Nm×xN×Nat
def mC(x:PA):o3:=[.slice x.2.1 x.1.length x.2.2]
def O9(x:PA):(mC x).length=1:=rfl
def ZA:PA:=([],none,0)
abbrev Pz:Type:=Nd×xN×Nat
def kh(x:Pz):o3:=[.int .i64 x.1.split,.bool x.1.ο.b,.string x.1.ο.s,.int .i64 x.1.ο.e,.int .i64 x.1.sum.vars,.slice x.2.1 x.1.sum.ts.length x.2.2]
def O2(x:Pz):(kh x).length=6:=rfl
def Q1:Pz:=(Eh,none,0)
def Rw(w:xH)(k:Nat)(c:α->o3)(d:α)(l:List α)(A:xN)(a:Nat):Prop:=RdK w A l.length k (λj=>c (l.getD j d))/\(A=none->l.length=0/\a=0)
def Rw.below{a:xH}{c:α->o3}{d:α}{l:List α}{A:xN}{b:Nat}(e:∀x,(c x).length=k)(h:Rw w k c d l A b)(f:Below w.heap.size w a):Rw a k c d l A b:=⟨h.1.below (λ_=>e _) f,h.2⟩
variable{β:Type}
section
variable{P:xO}{w0:xH}
def QaL{tt:List (Nat×TI)}(g:YF P tt)(i:P.follows .mixedOrders=true){f:FuncId}{fn:Func}(j:Xt P f)(k:P.funcs[f]?=some fn)(hn:fn.ntmps=N){rs:Array ResultVar}(l:fn.results=rs)(args:o3)(m:Nat.ble args.length N=true)(val:β->y9)(ρ:β->Res)(E:SV->St->Prop)(d:List Dir){T:xH->Prop}(h:∀W,Below w0.heap.size w0 W->T W)(n:∀W,T W=C6 P tt W fn (SH N args) d λe σ _=>VV tt rs.toList e σ λs=>E s σ)(o:∀W s σ,E s σ->∀r a c,Sat W σ r a c->∃y x S,s.den r=val y/\(ρ y).φ x S c/\∀b,S b->W.heap.size<=b/\b<c.heap.size):NewIn P w0 [] f args.toArray val ρ:=by
 refine⟨j,λW p=>?_⟩;have q:=dE (w0:=W) (Z:=λv c=>∃y x S,v=val y/\(ρ y).φ x S c/\∀b,S b->W.heap.size<=b/\b<c.heap.size) g i k hn l args m d (h W p) (n W) (o W);refine q.mono λe c t=>?_
 obtain⟨v,rfl,⟨y,x,S,rfl,k1,u⟩,w⟩:=t;exact⟨y,x,S,rfl,k1,u,w⟩
end
variable{u:y9}
def I9{b:xH}{a:Addr}(h:b.heap[a.block]?=w.heap[a.block]?)(c:w.cell? a=some u):b.cell? a=some u:=by
 unfold World.cell? at c ⊢;rw[h];exact c
def Ui{a:Addr}(b:w.cell? a=some u):a.block<w.heap.size:=by
 rcases R5 a.block w.heap.size with h|h
 ·exact h
 ·unfold World.cell? at b;rw[p7 h]at b;cases b
variable{v:y9}
def SlV.frz{p:Rdg α}{f:xH}{l:List α}(n:∀b,lo<=b->b<w.heap.size->f.heap[b]?=w.heap[b]?)(o:∀x cs,p w x cs->p f x cs)(h:SlV lo k p w l v):SlV lo k p f l v:=by
 let⟨A,c,q,r,s,t⟩:=h;refine⟨A,c,q,r,s,λy=>?_⟩;let⟨b,off,e,a,z⟩:=t y;refine⟨b,off,e,a,λi B=>?_⟩;let⟨cs,m,C,D⟩:=z i B;refine⟨cs,m,o _ _ C,λj d=>?_⟩;have g:=D j d;obtain⟨u,E⟩:∃u,cs[j]?=some u:=⟨_,p6 (by rw[m];exact d)⟩
 rw[E]at g ⊢;exact I9 (n b a (Ui g)) g
def Five.frz{f:xH}{x:PV}{g i j k l:y9}(a:∀b,lo<=b->b<w.heap.size->f.heap[b]?=w.heap[b]?)(h:Five lo w x g i j k l):Five lo f x g i j k l :=
 ⟨h.b.frz a λ_ _ h=>h,h.s.frz a λ_ _ ⟨v,d,e⟩=>⟨v,d,e.frz a λ_ _ h=>h⟩,h.p.frz a λ_ _ ⟨v,d,e⟩=>⟨v,d,e.frz a λ_ _ h=>h⟩,h.r.frz a λ_ _ ⟨v,d,e⟩=>⟨v,d,e.frz a λ_ _ h=>h⟩,h.c.frz a λ_ _ ⟨v,d,e⟩=>⟨v,d,e.frz a λ_ _ h=>h⟩⟩
abbrev NX:Type:=Hp×Hp×Hp×Hp×Hp
def US(x:PV)(y:NX):Res where
 φ v S w:=v.oneCell'=true/\∃lo w0,Five lo w0 x (.slice y.1.1 x.box.length y.1.2) (.slice y.2.1.1 x.κ.length y.2.1.2) (.slice y.2.2.1.1 x.ps.length y.2.2.1.2) (.slice y.2.2.2.1.1 x.θ.length y.2.2.2.1.2) (.slice y.2.2.2.2.1 x.ι.length y.2.2.2.2.2)/\(∀b,S b↔lo<=b/\b<w0.heap.size)/\∀b,S b->w.heap[b]?=w0.heap[b]?
 one _ _ _ h:=h.1
 loc x S w w' h hφ:=by
  let⟨c,lo,w0,d,e,f⟩:=hφ;exact⟨c,lo,w0,d,e,λb a=>(h b a).trans (f b a)⟩
variable{S:Nat->Prop}
def UX{x:PV}{y:NX}(h:(US x y).φ v S w):∃lo,Five lo w x (.slice y.1.1 x.box.length y.1.2) (.slice y.2.1.1 x.κ.length y.2.1.2) (.slice y.2.2.1.1 x.ps.length y.2.2.1.2) (.slice y.2.2.2.1.1 x.θ.length y.2.2.2.1.2) (.slice y.2.2.2.2.1 x.ι.length y.2.2.2.2.2):=by
 let⟨g,lo,w0,a,c,d⟩:=(show _/\_ from h)
 exact⟨lo,a.frz λb e f=>d b ((c b).2 ⟨e,f⟩)⟩
def tN(P:xO){t e:o0}{x y:x0h}{A:xN}{n c:Nat}(h:P.underlying t=some (.slice e))(W:xH):Qp P W (do eqGuard .eql t x y (.slice A n c) (.slice none 0 0);binOp .eql t (.slice A n c) (.slice none 0 0):Sem y9) (.bool (decide (A=none))):=λw _=>by
 have a:(eqGuard .eql t x y (.slice A n c) (.slice none 0 0)).run P w=.ok () w:=by
  unfold eqGuard;cases A<;>rfl
 rw[xQ,a,xT];have b:(Op.equal t (.slice A n c) (.slice none 0 0)).run P w=.ok (decide (A=none)) w:=by
  unfold Op.equal;rw[show Op.maxDepth=9999+1 from rfl];unfold Op.equalIn;cases A<;>(rw[xQ,Yn h,xT];rfl)
 have d:binOp .eql t (.slice A n c) (.slice none 0 0)=(do pure (.bool (<- Op.equal t (.slice A n c) (.slice none 0 0))):Sem y9):=rfl;simp[d,b]
def UE{A:xN}{f:Nat}{l:List Tm}(q:l.length<=1048576)(w:xH)(m:Rw w 4 QK Bp l A f):NewIn prog w [] 190 #[Ω A l.length f] (λ(y:Hp)=>Ω y.1 l.length y.2) (λ(y:Hp)=>Qc 51 4 QK l y.1 y.2) :=
 Bf Hp Qm QU (λa w=>call190 a w) func190 ntmps190 results190 _ rfl 0 _ _ [x03 1 1 (Ξ (decide (A=none))),.both [.nil 2 0 51 4 (QK:Tm->o3)] [.row 3 1 0 [5] 51 4 QK ([]:List Tm) (λ(i:Hp)=>[x08 3 2 0 (λ(b:Hp)=>(Ω b.1 (l).length b.2,Qc 51 4 QK l b.1 b.2,[]))])]] (λW p=>have g:=m.below Q4 p;ai (tN prog (A:=A) (n:=l.length) (c:=f) (t:=45) (e:=51) (x:=(.tmp 3)) (y:=(.const (x01))) x5 W)<|Xi (decide (A=none)) (λj=>(show ∃y:Hp,SV.val (x01)=SV.val ((λ(y:Hp)=>Ω y.1 l.length y.2) y)/\∀(x:y9) (S:Nat->Prop) (w:xH),(Qc 51 4 QK ([]:List Tm) none 0).φ x S w->((λ(y:Hp)=>Qc 51 4 QK l y.1 y.2) y).φ x S w from⟨((none,0):Hp),(by rw[(show l=[]from Ry (g.2 (L0 j)).1)];rfl),λx S w h=>(by rw[(show l=[]from Ry (g.2 (L0 j)).1)];exact h)⟩)) λj=>ai (show([]:o3)=List.flatMap QK ([]:List Tm)from rfl)<|ai (p0 Q4 (show(([]:List Tm)).length<=maxLen from(L7 _))) λ(i:Hp)=>ai (Gf W 45 QK ([]:List Tm) l l i.1 i.2 (Ω A l.length f) XN Q4 K2 (V2 l) (show l.length*48<=140737488355328 from x3) (λr k=>GM Q4 x4 Bp (g.below Q4 k).1 g.2)) λ(b:Hp)=>(show ∃y:Hp,SV.val (Ω b.1 (l).length b.2)=SV.val ((λ(y:Hp)=>Ω y.1 l.length y.2) y)/\∀(x:y9) (S:Nat->Prop) (w:xH),(Qc 51 4 QK l b.1 b.2).φ x S w->((λ(y:Hp)=>Qc 51 4 QK l y.1 y.2) y).φ x S w from⟨b,rfl,λx S w h=>h⟩)) λW=>x5
def gp:∀a b:List UInt8,(!Op.bytesLess a b&&!a==b)=Op.bytesLess b a
 |[],[]=>rfl
 |[],_::_=>rfl
 |_::_,[]=>rfl
 |x::a,y::b=>by
  have h:=gp a b;unfold Op.bytesLess;by_cases c:x<y
  ·have d:¬ y<x:=UInt8.lt_asymm c;have f:¬ x=y:=λe=>by subst e;exact UInt8.lt_irrefl _ c
   have g:¬ y=x:=λe=>f e.symm
   simp[c,d,g]
  ·by_cases d:y<x
   ·have f:¬ x=y:=λe=>by subst e;exact UInt8.lt_irrefl _ d
    simp[c,d,f]
   ·have f:x=y:=UInt8.le_antisymm (UInt8.not_lt.1 d) (UInt8.not_lt.1 c);subst f;simpa [c]using h
def wN(W:World)(x y:Operand)(a b:ByteArray):Qp prog W (do eqGuard .gtr 9 x y (.string a) (.string b);binOp .gtr 9 (.string a) (.string b)) (.bool (By b a)):=λc _=>by
 simp[go_sem,By,gp]
def JD(x y:Tm):Int:=bif By x.m y.m then -1 else bif By y.m x.m then 1 else 0
def QbJ(x y:Tm)(w:xH):RetAt prog w 254 #[.agg #[Ψ x.m,Ξ x.c.b,Ψ x.c.s,Θ x.c.e],.agg #[Ψ y.m,Ξ y.c.b,Ψ y.c.s,Θ y.c.e]] (Θ (JD x y)) :=
 rk [x03 1 4 (Ξ (By x.m y.m)),.both [] [x03 3 4 (Ξ (By y.m x.m)),.both [] []]] λW f g=>ai (wP W (.tmp 7) (.tmp 9) x.m y.m)<|Xi (By x.m y.m) (λa=>(show(Θ (-1):y9)=Θ (JD x y)from Lu (Value.int .i64) (by unfold JD;rw[a];rfl))) λa=>ai (wN W (.tmp 13) (.tmp 15) x.m y.m)<|Xi (By y.m x.m) (λd=>(show(Θ 1:y9)=Θ (JD x y)from Lu (Value.int .i64) (by unfold JD;rw[a,d];rfl))) λd=>(show(Θ 0:y9)=Θ (JD x y)from Lu (Value.int .i64) (by unfold JD;rw[a,d];rfl))
variable{e:Nat}
def EO{c:α->o3}{l:List α}{A:xN}{a:Nat}{x:y9}(h:(Qc e k c l A a).φ x S w):l.length<=a:=by
 let⟨_,d,_⟩:=(show _/\_/\_ from h)
 rcases d.2 with⟨b,f⟩|⟨g,cap,i,b,_,_,j,_⟩
 ·rw[f];exact L7 _
 ·injection b with _ _ m
  rw[m];exact j
def mN:Res:=⟨λx S _=>x=.bool false/\∀b,¬ S b,λ_ _ _ h=>by rw[h.1];rfl,λ_ _ _ _ _ h=>h⟩
def jI:Pe mN:=λ_ _ _ h b a=>absurd a (h.2 b)
section
variable{P:xO}{w0:xH}
def t7{m n t o:Nat}{g:TI}{L a:LP}{A:xN}{vs:o3}(l:Yw P t=some g)(q:v.cells.toList=vs)(r:vs.length=g.size)(c:i<n)(s:o+vs.length<=m)(y:∀u,u∈vs->u.oneCell'=true)(z:∀j,j<n->j≠i->∀S w cs,L.p j S w cs->a.p j S w cs)(d:∀S w cs,cs.length=m->L.p i S w cs->a.p i S w (CD cs o vs)):
  ∀W x S,(Qx e m n L A k).φ x S W->Gc P W (λ_:Unit=>undef) (λ_:Unit=>Qx e m n a A k) x S (GZ t [.pointer (some (Q5 A (i*m+o))),v]):=λW x S B =>
 jW (R2:=mN) l q r c s y jI z (λf C D w cs E h _=>a.mono i f _ _ _ (λb F=>.inl F) (d f w cs E h)) W x S (show ∃f C D,_ from⟨S,λ_=>False,.bool false,B,⟨rfl,λ_ h=>h⟩,λ_ _ h=>h,λb=>⟨λh=>.inl h,λh=>h.elim id False.elim⟩⟩)
end
abbrev Hr(e n:Nat)(f:Nat->Nat)(A:xN)(a:Nat):Res:=Qx e 1 n (LP.known λj=>[.int .u8 ((f j:Nat):Int)]) A a
section
variable{P:xO}{w0:xH}
def QaF{t e:o0}{i:TypeInfo}{z:y9}(j:P.underlying t=some (.slice e))(g:P.info? e=some i)(l:i.zero=some z)(m:i.size=1)(c:i.bytes=1)(d:z=.int .u8 0){n:Nat}(hn:n<=1000000):
  II P w0 [] (λy:Hp=>.slice y.1 n y.2) (λy:Hp=>Hr e n (λ_=>0) y.1 y.2) (Instr.makeSlice t (.int .i64 (n:Int)) (.int .i64 (n:Int))):=λW _=>by
 subst d;show Pf P W _ _ _;let⟨o,p,f,a⟩:=run_makeSlice_full (P:=P) W W.heap.size t e i _ 1 j g l m .i64 .i64 n x3 (by rw[c];omega) (by simp only[maxLen];omega) (L4 _);have q:(madeCells (Value.int .u8 0).cells (n*1)).toList=(List.range n).flatMap (λ_=>[Value.int .u8 ((0:Nat):Int)]):=by
  apply List.ext_getElem?;simp[List.map_eq_flatMap,madeCells,Value.cells,V0]
 rw[q]at f;refine⟨(some ⟨W.heap.size,0,none⟩,n),.bool false,λb=>(Value.slice (some ⟨W.heap.size,0,none⟩) n n).ownBlock=some b,o,p,⟨a.os,a.tape,a.output,a.size,λk r=>a.block k r x6⟩,(show _/\_ from⟨rfl,λ_=>[.int .u8 ((0:Nat):Int)],λ_=>False,λ_=>rfl,f.mono (L7 _),λi g=>rfl,λ_ h=>h.elim,λb=>⟨.inl,λh=>h.elim id False.elim⟩⟩),λb c=>f.lt b c⟩
def sY(P:xO)(e t n i x:Nat){c:TI}(f g:Nat->Nat)(A:xN)(cp:Nat)(l:Yw P t=some c)(m:c.size=1)(a:i<n)(d:∀j,j<n->g j=if j=i then x else f j):
  ∀W k S,(Hr e n f A cp).φ k S W->Gc P W (λ_:Unit=>undef) (λ_:Unit=>Hr e n g A cp) k S (GZ t [.pointer (some (Q5 A (i*1+0))),.int .u8 (x:Int)]) :=
 t7 (vs:=[.int .u8 (x:Int)]) l rfl (by rw[m];rfl) a (L4 _) (by intro u o;rw[Ly.1 o];rfl) (λj p b S w cs h=>by
  show cs=[Value.int .u8 ((g j:Nat):Int)];rw[show cs=[Value.int .u8 ((f j:Nat):Int)]from h,d j p,if_neg b]) λS w cs q h=>by
  show _=[Value.int .u8 ((g i:Nat):Int)];rw[show cs=[Value.int .u8 ((f i:Nat):Int)]from h,d i a,if_pos rfl];rfl
theorem sZ(P:xO)(w0:xH)(src dst e e2:o0)(b:P.underlying src=some (.slice e))(c:P.underlying e=some (.int .u8))(d:P.underlying dst=some .string)(A:xN)(n cp:Nat)(f:Nat->Nat)(s:xM)(h:s=⟨((List.range n).map λj=>UInt8.ofNat (f j)).toArray⟩):GJ P w0 [Hr e2 n f A cp] (Go.convert src dst (.slice A n cp)) (.string s) :=
 m9 λW u v i l=>λm a=>by
  have o:RdK W A n 1 (λj=>[.int .u8 ((f j:Nat):Int)]):=RdK.congr i λj p=>l j p
  have q:=RdK.below (k:=1) (f:=λj=>[.int .u8 ((f j:Nat):Int)]) (λ_=>rfl) o a;have r:Rd m A n (λj=>.int .u8 ((f j:Nat):Int)):=λt=>by
   let⟨g,off,e,w⟩:=q t
   grind
  rw[EQ (P:=P) src dst e b c d A n cp f r,h]
end
theorem sk{g:Nat}{bt:o0}{a:List xM}(b:Bx w g bt (a.map Value.string).toArray)(j:Nat)(c:j<a.length):w.cell? ⟨g,0+j,none⟩=some (.string (a.getD j ByteArray.empty)):=by
 rw[Lm,Bx.cel b]
 grind
theorem JL(δ:Int){v:Nat}(h:v<=99):(QY δ v).toNat<=100:=by
 grind[QY]
structure LnY where
 pre:List (List UInt8)
 t:ByteArray
 A:Option Addr
 c:Nat
def LnY.n(y:LnY):Nat:=(Qo y.pre 0).length
def LnY.at(y:LnY):Int:=((y.pre.map λl=>l.length+1).sum:Nat)
def nlB:xM:=⟨#[10]⟩
def Jm(y:LnY):List (Option (o0×List SV)):=[some (68,[lV y.A y.n y.c]),some (3,[iV y.at]),some (9,[sV y.t]),some (9,[sV nlB]),some (3,[iV 0])]
def VF(L:List Ln):LP:=Da 102 2 G5 (λ_=>[]) (λj=>(Xv L j).l) λj=>[.int .i64 (Xv L j).e]
def Jn(L:List Ln)(y:LnY):List (Option Res):=[some (Qx 72 2 y.n (VF L) y.A y.c)]
section
variable{s:List UInt8}{y:LnY}{x:List UInt8}{r:List (List UInt8)}(h:Qi s=y.pre++x::r)
include h
theorem Gk:0<=y.at/\y.at+(x.length:Int)<=s.length:=by
 grind[O0,LnY.at]
theorem uu:Qo (Qi s) 0=Qo y.pre 0++Qo (x::r) y.at:=by
 rw[h,Fz,Int.zero_add];rfl
theorem gq(a:VE (YI x y.at)=true):Xv (Qo (Qi s) 0) y.n=⟨YI x y.at,y.at+(x.length:Int)⟩:=by
 grind[uu,Qo,Xv,LnY.n]
end
theorem OA(y:LnY)(x:List UInt8)(t:xM)(A:xN)(c:Nat):LnY.n ⟨y.pre++[x],t,A,c⟩=bif VE (YI x y.at)then y.n+1 else y.n:=by
 unfold LnY.n;rw[Fz,Int.zero_add,show((((y.pre.map λl=>l.length+1).sum:Nat)):Int)=y.at from rfl]
 grind[Qo]
def dq(y:LnY)(x:List UInt8)(t:xM)(A:xN)(c:Nat):LnY.at ⟨y.pre++[x],t,A,c⟩=y.at+((x.length:Int)+1):=by
 simp[LnY.at]
theorem P0(a:decide ((l.length:Int)>0)=true)(b:((bt (Qg l 0).s 0:Int) != 35)=true):VE l=true:=by grind[VE]
theorem nL(a:decide ((l.length:Int)>0)=true)(b:((bt (Qg l 0).s 0:Int) != 35)=false):VE l=false:=by grind[VE]
theorem nK(a:decide ((l.length:Int)>0)=false):VE l=false:=by grind[VE]
theorem wY{x:List UInt8}(b:decide (((YI x a).length:Int)>0)=true):0<(Qg (YI x a) 0).s.size:=by
 grind[Px,ri]
variable{s:List UInt8}
def Qdn{x:List UInt8}(y:LnY)(R:Res)(W:xH):XE prog tt (Kj prog tt W) (5,2) W (yB (K7 3 f24)) ((mS Jm (Jn (Qo (Qi s) 0)) 39 [(3,.ptr 0 0),(4,.ptr 1 0)] R y).push (some 9) (sV (⟨x.toArray⟩:xM))) [] (λe σ _=>Jf e (Yb σ (mS Jm (Jn (Qo (Qi s) 0)) 39 [(3,.ptr 0 0),(4,.ptr 1 0),(5,sV (⟨x.toArray⟩:xM))] R y) True)) :=
 XG (Yx (qS (⟨x.toArray⟩:xM)) (qk (some (68,[lV y.A y.n y.c]))) (qk (some (3,[iV y.at]))) (qk (some (9,[sV y.t]))) (qk (some (9,[sV nlB]))) (qk (some (3,[iV 0]))) (XR (Qx 72 2 y.n (VF (Qo (Qi s) 0)) y.A y.c)) (XR R)<|trivial) x5
variable{r:List (List UInt8)}
theorem uv{y:LnY}{x:List UInt8}(h:Qi s=y.pre++x::r):y.n<=s.length:=by
 have b:=(Mz y.pre 0 (n:=s.length) λl a=>(EV s).2 l (by rw[h];simp[a])).1
 grind[EV,LnY.n]
def Qbz:RowT prog 68 68 72 2 32:=⟨x5,⟨72,x5⟩,x5,x4,x4⟩
def Qdo{x:List UInt8}(K:s.length<=65536)(y:LnY)(h:Qi s=y.pre++x::r)(R:Res)(W:xH):XE prog tt (Kj prog tt W) (5,2) W (yC (K7 3 f24)) (mS Jm (Jn (Qo (Qi s) 0)) 39 [(3,.ptr 0 0),(4,.ptr 1 0),(5,sV (⟨x.toArray⟩:xM))] R y) [x09 5 2 [] (λ(d:Hp)=>(Ω d.1 (YI x y.at).length d.2,Qc 102 2 G5 (YI x y.at) d.1 d.2,[.gb 6 4 [x06 6 5 [2] (.pointer (some (Q5 d.1 (0*2+0)))),x06 6 7 [2] (Ψ (((List.getD (YI x y.at) 0 Ub)).s)),x03 6 8 (.int .u8 (bt (Qg (YI x y.at) 0).s 0:Int)),.both [x05 7 5 (iV (y.at+(x.length:Int))),.join 7 8 0 2,x08 7 8 0 (λ(f:Hp)=>(Ω f.1 (y.n+1) f.2,Qx 72 2 (y.n+1) (VF (Qo (Qi s) 0)) f.1 f.2,[x05 8 3 (iV ((x.length:Int)+1)),x05 8 4 (iV (LnY.at (⟨y.pre++[x],y.t,none,0⟩:LnY)))]))] [x05 8 3 (iV ((x.length:Int)+1)),x05 8 4 (iV (LnY.at (⟨y.pre++[x],y.t,none,0⟩:LnY)))]] [x05 8 3 (iV ((x.length:Int)+1)),x05 8 4 (iV (LnY.at (⟨y.pre++[x],y.t,none,0⟩:LnY)))]]))] (λe σ _=>Jf e (∃b,(b.pre=y.pre++[x]/\b.t=y.t)/\Yb σ (mS Jm (Jn (Qo (Qi s) 0)) 39 [(3,.ptr 0 0),(4,.ptr 1 0)] R b) True)) :=
 let D:OB:=some (3,[iV (LnY.at (⟨y.pre++[x],y.t,none,0⟩:LnY))]);let E:OB:=some (9,[sV y.t]);let B:OB:=some (9,[sV nlB]);let C:OB:=some (3,[iV 0]);let H:OB:=some (68,[lV y.A y.n y.c]);XG (ai (rp (s:=(⟨x.toArray⟩:xM)) (a:=y.at) (show x.length<=65536 by have:=Gk h;omega) (x8 (Gk h)) W) λ(d:Hp)=>ZD (decide (((((YI x y.at)).length:Nat):Int)>0)) true (λv=>Ja (Jl W 102 2 G5 (YI x y.at) d.1 d.2 Cj Ub (λF G=>Qs F d.2 G 0 (show 0<(YI x y.at).length by have:=L0 v;omega))) (Jl W 102 2 G5 (YI x y.at) d.1 d.2 Cj Ub (λF G=>AT G 0 0 (show 0<(YI x y.at).length by have:=L0 v;omega) x4 rfl (w0:=F))) (bz W (Qg (YI x y.at) 0).s 0 (wY v))<|Xi ((bt (Qg (YI x y.at) 0).s 0:Int) != 35) (λq=>ai (show IntKind.i64.wrap (y.at+(x.length:Int))=y.at+(x.length:Int)from Le _ (x8 (Gk h)))<|ai (Wf W 68 72 102 2 y.n (y.n+1) 1 G5 (λ_=>[]) (λj=>(Xv (Qo (Qi s) 0) j).l) (λj=>[Θ (Xv (Qo (Qi s) 0) j).e]) y.A d.1 y.c d.2 ([Ω d.1 ((YI x y.at)).length d.2,Θ (y.at+(x.length:Int))]) (Qc 102 2 G5 (YI x y.at) d.1 d.2) (λx S w I=>(by show(Zx _ 2 G5 (Xv (Qo (Qi s) 0) y.n).l _ _).φ x S w;rw[(gq h (P0 v q))];exact .inl I)) Qbz (λ_ h=>nomatch h) (by intro u J;rw[Ly.1 J];rfl) rfl (x8 (uv h)) (by show _=Ω _ (Xv (Qo (Qi s) 0) y.n).l.length _::[Θ (Xv (Qo (Qi s) 0) y.n).e];rw[(gq h (P0 v q))]) rfl) λ(f:Hp)=>X0 (show IntKind.i64.wrap ((x.length:Int)+1)=(x.length:Int)+1 from Le _ (x8 (Gk h))) (show IntKind.i64.wrap (y.at+((x.length:Int)+1))=LnY.at (⟨y.pre++[x],y.t,none,0⟩:LnY)from(Le _ (x8 (Gk h))).trans (dq ..).symm)<|(show ∃b:LnY,(b.pre=y.pre++[x]/\b.t=y.t)/\((some (68,[lV f.1 (y.n+1) f.2]):OB)=some (68,[lV b.A b.n b.c]))/\((D:OB)=some (3,[iV b.at]))/\((E:OB)=some (9,[sV b.t]))/\((B:OB)=B)/\((C:OB)=C)/\(∀(g:y9) (m:Nat->Prop) (p:xH),(Qx 72 2 (y.n+1) (VF (Qo (Qi s) 0)) f.1 f.2).φ g m p->(Qx 72 2 b.n (VF (Qo (Qi s) 0)) b.A b.c).φ g m p)/\(∀(g:y9) (m:Nat->Prop) (p:xH),R.φ g m p->R.φ g m p)/\True from⟨(⟨y.pre++[x],y.t,f.1,f.2⟩:LnY),⟨rfl,rfl⟩,by rw[(show LnY.n (⟨y.pre++[x],y.t,f.1,f.2⟩:LnY)=y.n+1 from(OA ..).trans (by rw[(P0 v q)]<;>rfl))],rfl,rfl,rfl,rfl,λ_ _ _ z=>by rw[(show LnY.n (⟨y.pre++[x],y.t,f.1,f.2⟩:LnY)=y.n+1 from(OA ..).trans (by rw[(P0 v q)]<;>rfl))];exact z,λ_ _ _ z=>z,trivial⟩)) λq=>X0 (show IntKind.i64.wrap ((x.length:Int)+1)=(x.length:Int)+1 from Le _ (x8 (Gk h))) (show IntKind.i64.wrap (y.at+((x.length:Int)+1))=LnY.at (⟨y.pre++[x],y.t,none,0⟩:LnY)from(Le _ (x8 (Gk h))).trans (dq ..).symm)<|(show ∃b:LnY,(b.pre=y.pre++[x]/\b.t=y.t)/\((H:OB)=some (68,[lV b.A b.n b.c]))/\((D:OB)=some (3,[iV b.at]))/\((E:OB)=some (9,[sV b.t]))/\((B:OB)=B)/\((C:OB)=C)/\(∀(g:y9) (m:Nat->Prop) (p:xH),(Qx 72 2 y.n (VF (Qo (Qi s) 0)) y.A y.c).φ g m p->(Qx 72 2 b.n (VF (Qo (Qi s) 0)) b.A b.c).φ g m p)/\(∀(g:y9) (m:Nat->Prop) (p:xH),R.φ g m p->R.φ g m p)/\True from⟨(⟨y.pre++[x],y.t,y.A,y.c⟩:LnY),⟨rfl,rfl⟩,by rw[(show LnY.n (⟨y.pre++[x],y.t,y.A,y.c⟩:LnY)=y.n from(OA ..).trans (by rw[(nL v q)]<;>rfl))],rfl,rfl,rfl,rfl,λ_ _ _ z=>by rw[(show LnY.n (⟨y.pre++[x],y.t,y.A,y.c⟩:LnY)=y.n from(OA ..).trans (by rw[(nL v q)]<;>rfl))];exact z,λ_ _ _ z=>z,trivial⟩)) λv=>X0 (show IntKind.i64.wrap ((x.length:Int)+1)=(x.length:Int)+1 from Le _ (x8 (Gk h))) (show IntKind.i64.wrap (y.at+((x.length:Int)+1))=LnY.at (⟨y.pre++[x],y.t,none,0⟩:LnY)from(Le _ (x8 (Gk h))).trans (dq ..).symm)<|(show ∃b:LnY,(b.pre=y.pre++[x]/\b.t=y.t)/\((H:OB)=some (68,[lV b.A b.n b.c]))/\((D:OB)=some (3,[iV b.at]))/\((E:OB)=some (9,[sV b.t]))/\((B:OB)=B)/\((C:OB)=C)/\(∀(g:y9) (m:Nat->Prop) (p:xH),(Qx 72 2 y.n (VF (Qo (Qi s) 0)) y.A y.c).φ g m p->(Qx 72 2 b.n (VF (Qo (Qi s) 0)) b.A b.c).φ g m p)/\(∀(g:y9) (m:Nat->Prop) (p:xH),R.φ g m p->R.φ g m p)/\True from⟨(⟨y.pre++[x],y.t,y.A,y.c⟩:LnY),⟨rfl,rfl⟩,by rw[(show LnY.n (⟨y.pre++[x],y.t,y.A,y.c⟩:LnY)=y.n from(OA ..).trans (by rw[(nK v)]<;>rfl))],rfl,rfl,rfl,rfl,λ_ _ _ z=>by rw[(show LnY.n (⟨y.pre++[x],y.t,y.A,y.c⟩:LnY)=y.n from(OA ..).trans (by rw[(nK v)]<;>rfl))];exact z,λ_ _ _ z=>z,trivial⟩)) x5
variable{l:Nat}
def Qfk(y:LnY)(R:Res)(W:xH):XE prog tt (Kj prog tt W) (5,2) W (Zs (QX f128)) (mS Jm (Jn (Qo (Qi s) 0)) 52 [(0,yV l),(1,.ptr 3 0),(2,.ptr 2 0),(3,.ptr 4 0)] R y) [.br false] (λe σ _=>Jf e (Yb σ (mS Jm (Jn (Qo (Qi s) 0)) 52 [(0,yV l),(1,.ptr 3 0),(2,.ptr 2 0),(3,.ptr 4 0)] R y) True)) :=
 XG (Yx (show((nlB.size:Int)==0)=false from rfl) (qV (zF l)) (qk (some (68,[lV y.A y.n y.c]))) (qk (some (3,[iV y.at]))) (qk (some (9,[sV y.t]))) (qk (some (9,[sV nlB]))) (qk (some (3,[iV 0]))) (XR (Qx 72 2 y.n (VF (Qo (Qi s) 0)) y.A y.c))<|ai (XR R)<|trivial) x5
def Qfn{t:xM}{v:Int}(a:Lib.indexByte t.data.toList 10=v)(W:xH):RetAt prog W 130 #[.string t,.string nlB] (.int .i64 v):=Cr W λW=>(Tryz.strings_Index_one t 10 W).mono λ_ _ h=>⟨a▸h.1,h.2▸p5 _ _⟩
def Qdb(y:LnY)(R:Res){v:Int}(a:Lib.indexByte y.t.data.toList 10=v)(W:xH):XE prog tt (Kj prog tt W) (5,2) W (Zs (CJ (bb (CJ (Zs (QE (QX f128))))))) (mS Jm (Jn (Qo (Qi s) 0)) 52 [(0,yV l),(1,.ptr 3 0),(2,.ptr 2 0),(3,.ptr 4 0)] R y) [x04 5 2 (iV v)] (λe σ _=>Jf e (Yb σ (mS Jm (Jn (Qo (Qi s) 0)) 52 [(0,yV l),(1,.ptr 3 0),(2,.ptr 2 0),(3,.ptr 4 0),(7,iV v)] R y) True)) :=
 XG (Yx (Qfn a W) (qV (zF l)) (qI v) (qk (some (68,[lV y.A y.n y.c]))) (qk (some (3,[iV y.at]))) (qk (some (9,[sV y.t]))) (qk (some (9,[sV nlB]))) (qk (some (3,[iV 0])))<|X0 (XR (Qx 72 2 y.n (VF (Qo (Qi s) 0)) y.A y.c)) (XR R)<|trivial) x5
def Qdd(y:LnY)(R:Res)(W:xH):XE prog tt (Kj prog tt W) (5,2) W (Zs (QE (CJ (bb (CJ (Zs (QE (QX f128)))))))) (mS Jm (Jn (Qo (Qi s) 0)) 52 [(0,yV l),(1,.ptr 3 0),(2,.ptr 2 0),(3,.ptr 4 0),(7,iV (i:Int))] R y) [.br false] (λe σ _=>Jf e (Yb σ (mS Jm (Jn (Qo (Qi s) 0)) 52 [(0,yV l),(1,.ptr 3 0),(2,.ptr 2 0),(3,.ptr 4 0),(7,iV (i:Int))] R y) True)) :=
 XG (Yx (show decide ((i:Int)<0)=false from Lc x3) (qV (zF l)) (qI (i:Int)) (qk (some (68,[lV y.A y.n y.c]))) (qk (some (3,[iV y.at]))) (qk (some (9,[sV y.t]))) (qk (some (9,[sV nlB]))) (qk (some (3,[iV 0])))<|X0 (XR (Qx 72 2 y.n (VF (Qo (Qi s) 0)) y.A y.c)) (XR R)<|trivial) x5
def Qdc(y:LnY)(R:Res)(W:xH):XE prog tt (Kj prog tt W) (5,2) W (Zs (QE (CJ (bb (CJ (Zs (QE (QX f128)))))))) (mS Jm (Jn (Qo (Qi s) 0)) 52 [(0,yV l),(1,.ptr 3 0),(2,.ptr 2 0),(3,.ptr 4 0),(7,iV (-1))] R y) [] (λe σ _=>match e with | .exit k=>k=2/\Yb σ (mS Jm (Jn (Qo (Qi s) 0)) 52 [(0,yV l),(1,.ptr 3 0),(2,.ptr 2 0),(3,.ptr 4 0)] R y) True|_=>False) :=
 XG (Yx (show((2:Nat)=2)from rfl) (qV (zF l)) (qk (some (68,[lV y.A y.n y.c]))) (qk (some (3,[iV y.at]))) (qk (some (9,[sV y.t]))) (qk (some (9,[sV nlB]))) (qk (some (3,[iV 0]))) (XR (Qx 72 2 y.n (VF (Qo (Qi s) 0)) y.A y.c))<|ai (XR R)<|trivial) x5
def Qfl(y:LnY)(R:Res)(a:i<=y.t.size)(b:y.t.size<=65536)(W:xH):XE prog tt (Kj prog tt W) (5,2) W (Zs (QE (QE (CJ (bb (CJ (Zs (QE (QX f128))))))))) (mS Jm (Jn (Qo (Qi s) 0)) 52 [(0,yV l),(1,.ptr 3 0),(2,.ptr 2 0),(3,.ptr 4 0),(7,iV (i:Int))] R y) [x05 7 3 (iV (i:Int)),x03 7 4 (Ψ (⟨(y.t.data.toList.take i).toArray⟩:xM))] (λe σ _=>Jf e (Yb σ (mS Jm (Jn (Qo (Qi s) 0)) 52 [(0,yV l),(1,.ptr 3 0),(2,.ptr 2 0),(3,.ptr 4 0),(7,iV (i:Int)),(8,sV (⟨(y.t.data.toList.take i).toArray⟩:xM))] R y) True)) :=
 XG (Yx (show IntKind.i64.wrap ((i:Int)+0)=(i:Int)from(by rw[Int.add_zero];exact Le _ x3)) (JG W y.t i a) (qV (zF l)) (qI (i:Int)) (qS (⟨(y.t.data.toList.take i).toArray⟩:xM)) (qk (some (68,[lV y.A y.n y.c]))) (qk (some (3,[iV y.at]))) (qk (some (9,[sV y.t])))<|Ky (qk (some (9,[sV nlB]))) (qk (some (3,[iV 0]))) (XR (Qx 72 2 y.n (VF (Qo (Qi s) 0)) y.A y.c)) (XR R)<|trivial) x5
def Qaj(y:LnY)(R:Res)(W:xH):KC prog tt (Kj prog tt W) W (ed (Zs (Zs (QE (QE (QE (CJ (bb (CJ (Zs (QE (QX f128)))))))))))) (YB (Zs (Zs (QE (QE (QE (CJ (bb (CJ (Zs (QE (QX f128)))))))))))) ((YB (Zs (Zs (QE (QE (QE (CJ (bb (CJ (Zs (QE (QX f128)))))))))))).toList.take 2) 0 (mS Jm (Jn (Qo (Qi s) 0)) 52 [(0,yV l),(1,.ptr 3 0),(2,.ptr 2 0),(3,.ptr 4 0),(7,iV (i:Int)),(8,sV (⟨(y.t.data.toList.take i).toArray⟩:xM))] R y) [] (λσ _=>v1 σ (.tmp 39) λa=>vL σ [.tmp 40] λb=>a=.func (.yield l) #[] #[]/\b=[Ψ (⟨(y.t.data.toList.take i).toArray⟩:xM)]/\Yb σ (mS Jm (Jn (Qo (Qi s) 0)) 52 [(0,yV l),(1,.ptr 3 0),(2,.ptr 2 0),(3,.ptr 4 0),(7,iV (i:Int))] R y) True) :=
 XG (Yx (qV (zF l)) (show(([Ψ (⟨(y.t.data.toList.take i).toArray⟩:xM)]:o3)=[Ψ (⟨(y.t.data.toList.take i).toArray⟩:xM)])from rfl) (qV (zF l)) (qI (i:Int)) (qk (some (68,[lV y.A y.n y.c]))) (qk (some (3,[iV y.at]))) (qk (some (9,[sV y.t]))) (qk (some (9,[sV nlB])))<|Ja (qk (some (3,[iV 0]))) (XR (Qx 72 2 y.n (VF (Qo (Qi s) 0)) y.A y.c)) (XR R)<|trivial) x5
def Qde(y:LnY)(R:Res)(W:xH):KC prog tt (Kj prog tt W) W (ed (Zs (Zs (QE (QE (QE (CJ (bb (CJ (Zs (QE (QX f128)))))))))))) (YB (Zs (Zs (QE (QE (QE (CJ (bb (CJ (Zs (QE (QX f128)))))))))))) ((YB (Zs (Zs (QE (QE (QE (CJ (bb (CJ (Zs (QE (QX f128)))))))))))).toList.drop 3) 3 ((mS Jm (Jn (Qo (Qi s) 0)) 52 [(0,yV l),(1,.ptr 3 0),(2,.ptr 2 0),(3,.ptr 4 0),(7,iV (i:Int))] R y).push (some 41) (bV true)) [] (λσ _=>Yb σ (mS Jm (Jn (Qo (Qi s) 0)) 52 [(0,yV l),(1,.ptr 3 0),(2,.ptr 2 0),(3,.ptr 4 0),(7,iV (i:Int)),(42,bV false)] R y) True) :=
 XG (Yx (qV (zF l)) (qI (i:Int)) (qB false) (qk (some (68,[lV y.A y.n y.c]))) (qk (some (3,[iV y.at]))) (qk (some (9,[sV y.t]))) (qk (some (9,[sV nlB]))) (qk (some (3,[iV 0])))<|X0 (XR (Qx 72 2 y.n (VF (Qo (Qi s) 0)) y.A y.c)) (XR R)<|trivial) x5
def Qfm(y:LnY)(R:Res)(a:i+1<=y.t.size)(d:y.t.size<=65536)(W:xH):XE prog tt (Kj prog tt W) (5,2) W (QE (QE (QE (QE (CJ (bb (CJ (Zs (QE (QX f128)))))))))) (mS Jm (Jn (Qo (Qi s) 0)) 52 [(0,yV l),(1,.ptr 3 0),(2,.ptr 2 0),(3,.ptr 4 0),(7,iV (i:Int)),(42,bV false)] R y) [x05 9 4 (iV ((i+1:Nat):Int)),x03 9 5 (Ψ (⟨(y.t.data.toList.drop (i+1)).toArray⟩:xM))] (λe σ _=>Jf e (Yb σ (mS Jm (Jn (Qo (Qi s) 0)) 52 [(0,yV l),(1,.ptr 3 0),(2,.ptr 2 0),(3,.ptr 4 0)] R ⟨y.pre,(⟨(y.t.data.toList.drop (i+1)).toArray⟩:xM),y.A,y.c⟩) True)) :=
 XG (Yx (show IntKind.i64.wrap ((i:Int)+(nlB.size:Int))=((i+1:Nat):Int)from(by have b:(nlB.size:Int)=1:=rfl;rw[b];exact(Le _ x3).trans x3)) (ax W y.t (i+1) a) (qV (zF l)) (qk (some (68,[lV y.A y.n y.c]))) (qk (some (3,[iV y.at]))) (qk (some (9,[sV (⟨(y.t.data.toList.drop (i+1)).toArray⟩:xM)]))) (qk (some (9,[sV nlB]))) (qk (some (3,[iV 0])))<|X0 (XR (Qx 72 2 y.n (VF (Qo (Qi s) 0)) y.A y.c)) (XR R)<|trivial) x5
def Qal(y:LnY)(R:Res)(W:xH):KC prog tt (Kj prog tt W) W (ed (QE (QE (QX f128)))) (YB (QE (QE (QX f128)))) ((YB (QE (QE (QX f128)))).toList.take 2) 0 (mS Jm (Jn (Qo (Qi s) 0)) 52 [(0,yV l),(1,.ptr 3 0),(2,.ptr 2 0),(3,.ptr 4 0)] R y) [] (λσ _=>v1 σ (.tmp 49) λa=>vL σ [.tmp 50] λb=>a=.func (.yield l) #[] #[]/\b=[Ψ y.t]/\Yb σ (mS Jm (Jn (Qo (Qi s) 0)) 52 [(0,yV l),(1,.ptr 3 0),(2,.ptr 2 0),(3,.ptr 4 0)] R y) True) :=
 XG (Yx (qV (zF l)) (show(([Ψ y.t]:o3)=[Ψ y.t])from rfl) (qV (zF l)) (qk (some (68,[lV y.A y.n y.c]))) (qk (some (3,[iV y.at]))) (qk (some (9,[sV y.t]))) (qk (some (9,[sV nlB]))) (qk (some (3,[iV 0])))<|X0 (XR (Qx 72 2 y.n (VF (Qo (Qi s) 0)) y.A y.c)) (XR R)<|trivial) x5
def Qam(y:LnY)(R:Res)(W:xH):KC prog tt (Kj prog tt W) W (ed (QE (QE (QX f128)))) (YB (QE (QE (QX f128)))) ((YB (QE (QE (QX f128)))).toList.drop 3) 3 ((mS Jm (Jn (Qo (Qi s) 0)) 52 [(0,yV l),(1,.ptr 3 0),(2,.ptr 2 0),(3,.ptr 4 0)] R y).push (some 51) (bV true)) [] (λσ _=>Yb σ (mS Jm (Jn (Qo (Qi s) 0)) 52 [(0,yV l),(1,.ptr 3 0),(2,.ptr 2 0),(3,.ptr 4 0)] R y) True) :=
 XG (Yx (qV (zF l)) (qk (some (68,[lV y.A y.n y.c]))) (qk (some (3,[iV y.at]))) (qk (some (9,[sV y.t]))) (qk (some (9,[sV nlB]))) (qk (some (3,[iV 0]))) (XR (Qx 72 2 y.n (VF (Qo (Qi s) 0)) y.A y.c)) (XR R)<|trivial) x5
def Kl(L:List Ln)(y:LnY):(Jm y).length=5/\(Jn L y).length=1:=⟨rfl,rfl⟩
def nH(t:xM):(Lib.indexByte t.data.toList 10=-1/\Qi t.data.toList=[t.data.toList])\/∃i:Nat,Lib.indexByte t.data.toList 10=(i:Int)/\i+1<=t.size/\Qi t.data.toList=t.data.toList.take i::Qi (t.data.toList.drop (i+1)):=by
 rcases gd t.data.toList 10 with⟨a,b⟩|⟨i,a,b,c⟩
 ·exact .inl ⟨a,Nk b⟩
 ·exact .inr ⟨i,a,(xU.1 c).1,OZ b c⟩
noncomputable def spB:Code:=QX f128
noncomputable def spG:Code:=CJ (bb (CJ (Zs (QE spB))))
abbrev QdH(c:Code)(i:Nat):Oper:=((YB c).toList.drop i).headD default
def QfN:spB=.seq (Zs spB) (.seq (.block 2 (.loop (.block 3 spG))) (.region (ed (QE (QE spB))) (YB (QE (QE spB))) false)):=x5
def QfO:spG=.seq (Zs spG) (.seq (Zs (QE spG)) (.seq (Zs (QE (QE spG))) (.seq (.seq (.region (ed (Zs (Zs (QE (QE (QE spG)))))) (YB (Zs (Zs (QE (QE (QE spG)))))) false) (.cond (.tmp 42) .ret .skip)) (QE (QE (QE (QE spG))))))):=x5
abbrev ut(s:List UInt8)(w0:xH)(R:Res)(r1:Env)(y:LnY)(W:xH):Prop:=MemJ w0 Jm (Jn (Qo (Qi s) 0)) (5,2) R r1 y W
variable{W:xH}
theorem qH(hs:s.length<=65536){R:Res}{r1:Env}{J:xM}(ht:J.data.toList=s)(h0:Cu w0 (mS Jm (Jn (Qo (Qi s) 0)) 0 [] R ⟨[],J,none,0⟩) r1 W)(hY:∀(y:LnY) (x:List UInt8) (T:xH),ut s w0 R r1 y T->(∃r,Qi s=y.pre++x::r)->YieldAt Fence.wide 7 prog l #[.string ⟨x.toArray⟩] T λe L=>e=.returned (.bool true)/\∃b:LnY,(b.pre=y.pre++[x]/\b.t=y.t)/\ut s w0 R r1 b L):
  CallsIn Fence.wide 8 prog 128 (QO r1 [.val (zF l),.ptr 3 0,.ptr 2 0,.ptr 4 0]).toArray W λe L=>(∃v,e=.returned v)/\∃y:LnY,y.pre=Qi s/\ut s w0 R r1 y L:=by
 refine callsIn_of_wp (fn:=f128) (c:=spB) x5 x5 trivial ?_
 have K:Sat w0 (mS Jm (Jn (Qo (Qi s) 0)) 52 [(0,yV l),(1,.ptr 3 0),(2,.ptr 2 0),(3,.ptr 4 0)] R ⟨[],J,none,0⟩) r1 _ W:=eh _ (mS Jm (Jn (Qo (Qi s) 0)) 0 [] R ⟨[],J,none,0⟩) _ 52 ([.val (zF l),.ptr 3 0,.ptr 2 0,.ptr 4 0]) (show 4<=52 by decide) rfl h0;rw[show(f128).ntmps=52 from x5];revert K;generalize ({ tmps:=(QO r1 [.val (zF l),.ptr 3 0,.ptr 2 0,.ptr 4 0]).toArray++Array.replicate (52-(QO r1 [.val (zF l),.ptr 3 0,.ptr 2 0,.ptr 4 0]).toArray.size) undef,defers:=[] }:Act)=a0;intro K;have g:DV (bodyPost prog f128 λe L=>(∃v,e=.returned v)/\∃y:LnY,y.pre=Qi s/\ut s w0 R r1 y L):=λ_ _ _ _ _ hq=>⟨hq.1,hq.2⟩
 revert g;generalize hQ:bodyPost prog f128 _=Q;intro g;rw[QfN];refine wpIn_seq (wpIn_wide.2 (JA (Kb QU) Qm QU (p:=λe σ=>Jf e _) (Qfk _ R w0) (Bw (Kl _)) K (λd v c a w h=>g d v c a w h) λe σ1 r2 a1 T U V Y=>?_));cases e with
 |exit i=>exact False.elim U
 |ret=>exact False.elim U
 |normal =>
  have Z:=(Q3 w0 (show Yb σ1 _ True from U)).2 _ _ _ V;show(Code.seq _ _).wpIn _ _ _ _ _ _;refine wpIn_seq (wpIn_block (Du (λ(y:LnY) a w=>(∃r,Sat w0 (mS Jm (Jn (Qo (Qi s) 0)) 52 [(0,yV l),(1,.ptr 3 0),(2,.ptr 2 0),(3,.ptr 4 0)] R y) r a w/\AgN (5,2) r1 r)/\Qi s=y.pre++Qi y.t.data.toList/\y.t.size<=65536) (λy=>y.t.size) (λy a w M=>?_) ⟨[],J,none,0⟩ ⟨⟨r2,Z,Y⟩,by rw[ht];rfl,by show J.size<=65536;have:=Lu List.length ht;simp at this;omega⟩));let⟨⟨r,K,hg⟩,z,O⟩:=M;refine wpIn_block ?_
  rw[QfO];rcases nH y.t with⟨h1,P⟩|⟨i,h1,P,h3⟩
  ·refine wpIn_seq (wpIn_wide.2 (JA (Kb QU) Qm QU (p:=λe σ=>Jf e _) (Qdb y R h1 w0) (Bw (Kl _)) K (λd v c a w h=>g d v c a w h) λe σ3 r3 a3 W3 j B C=>?_));cases e with
   |exit i=>exact False.elim j
   |ret=>exact False.elim j
   |normal =>
    have D:=(Q3 w0 (show Yb σ3 _ True from j)).2 _ _ _ B;refine wpIn_seq (wpIn_wide.2 (JA (Kb QU) Qm QU (p:=λe σ=>match e with | .exit k=>k=2/\Yb σ _ True|_=>False) (Qdc y R w0) (Bw (Kl _)) D (λd v c a w h=>g d v c a w h) λe σ5 r5 a5 W5 m E F=>?_));cases e with
    |normal=>exact False.elim m
    |ret=>exact False.elim m
    |exit k =>
     obtain⟨rfl,ad⟩:=(show k=2/\Yb σ5 _ True from m)
     have G:=(Q3 w0 ad).2 _ _ _ E;show(Code.region _ _ false).wpIn Fence.wide 8 prog Q a5 W5;refine sv Qm QU (Kl _) (ci:=2) (dst:=51) (o:=QdH (QE (QE spB)) 2) (f:=.tmp 49) (args:=[.tmp 50]) (l:=l) (n:=52) x5 x5 x5 rfl x5 (x:=.string ⟨y.t.data.toList.toArray⟩) (N:=λb=>b.pre=y.pre++[y.t.data.toList]/\b.t=y.t) (X:=λb σ=>Yb σ _ True) (Qal y R w0) (λb _=>⟨[],Qam b R w0⟩) G (Bw (Kl _)) (hg.trans (C.trans F)) (λW6 M=>hY y y.t.data.toList W6 M ⟨[],by rw[z,P]⟩) λb σ r a w hN q u H=>?_
     rw[<- hQ];exact⟨u.defers,_,results_none x5 _ _ _,⟨_,rfl⟩,b,by rw[hN.1,z,P],r,((Q3 w0 q).2 _ _ _ u).mem,H⟩
  ·refine wpIn_seq (wpIn_wide.2 (JA (Kb QU) Qm QU (p:=λe σ=>Jf e _) (Qdb y R h1 w0) (Bw (Kl _)) K (λd v c a w h=>g d v c a w h) λe σ3 r3 a3 W3 j B C=>?_));cases e with
   |exit i=>exact False.elim j
   |ret=>exact False.elim j
   |normal =>
    have D:=(Q3 w0 (show Yb σ3 _ True from j)).2 _ _ _ B;refine wpIn_seq (wpIn_wide.2 (JA (Kb QU) Qm QU (p:=λe σ=>Jf e _) (Qdd y R w0) (Bw (Kl _)) D (λd v c a w h=>g d v c a w h) λe σ5 r5 a5 W5 m E F=>?_));cases e with
    |exit i=>exact False.elim m
    |ret=>exact False.elim m
    |normal =>
     have G:=(Q3 w0 (show Yb σ5 _ True from m)).2 _ _ _ E;refine wpIn_seq (wpIn_wide.2 (JA (Kb QU) Qm QU (p:=λe σ=>Jf e _) (Qfl y R (Nat.le_of_succ_le P) O w0) (Bw (Kl _)) G (λd v c a w h=>g d v c a w h) λe σ7 r7 a7 W7 q u H=>?_));cases e with
     |exit i=>exact False.elim q
     |ret=>exact False.elim q
     |normal =>
      have ag:=(Q3 w0 (show Yb σ7 _ True from q)).2 _ _ _ u;refine wpIn_seq (wpIn_seq (sv Qm QU (Kl _) (ci:=2) (dst:=41) (o:=QdH (Zs (Zs (QE (QE (QE spG))))) 2) (f:=.tmp 39) (args:=[.tmp 40]) (l:=l) (n:=52) x5 x5 x5 rfl x5 (x:=.string ⟨(y.t.data.toList.take i).toArray⟩) (N:=λb=>b.pre=y.pre++[y.t.data.toList.take i]/\b.t=y.t) (X:=λb σ=>Yb σ _ True) (Qaj y R w0) (λb _=>⟨[],Qde b R w0⟩) ag (Bw (Kl _)) (hg.trans (C.trans (F.trans H))) (λW8 M=>hY y _ W8 M ⟨_,by rw[z,h3]⟩) λb σ9 r9 a9 W9 hN ao aw bc=>?_));have S:=(Q3 w0 ao).2 _ _ _ aw;refine wpIn_cond_false (S.see.ts 42 _ rfl).1 (wpIn_skip ?_);show(QE (QE (QE (QE spG)))).wpIn Fence.wide 8 prog _ a9 W9;have e9:(b.t.size=y.t.size):=by rw[hN.2]
      refine wpIn_wide.2 (JA (Kb QU) Qm QU (p:=λe σ=>Jf e _) (Qfm b R (i:=i) (by rw[e9];exact P) (by rw[e9];exact O) w0) (Bw (Kl _)) S (λd v c a w h=>g d v c a w h) λe σB rB aB WB I bd bi=>?_);cases e with
      |exit i=>exact False.elim I
      |ret=>exact False.elim I
      |normal =>
       refine⟨⟨b.pre,⟨(b.t.data.toList.drop (i+1)).toArray⟩,b.A,b.c⟩,⟨⟨rB,(Q3 w0 (show Yb σB _ True from I)).2 _ _ _ bd,bc.trans bi⟩,?_,?_⟩,?_⟩
       ·show Qi s=b.pre++Qi (b.t.data.toList.drop (i+1))
        grind
       ·show(b.t.data.toList.drop (i+1)).toArray.size<=65536;rw[Rs,Lf];simp;omega
       ·show(b.t.data.toList.drop (i+1)).toArray.size<y.t.size;rw[Rs,Lf];simp;omega
def Qdp(a:xM)(W:xH):BQ prog tt W f24 (mP (Ym 3 f24) (⟨39,[(0,sV a),(3,.ptr 0 0),(4,.ptr 1 0)],[some (68,[lV none 0 0]),some (3,[iV 0])],[]⟩:St) True) (SH 39 [Ψ a]) [.esc 3] (λ_ _ _=>False) :=
 XG (KJ (show Ym 3 f24=some (K7 3 f24)from x5) trivial (qS a) (qk (some (68,[lV none 0 0]))) (qk (some (3,[iV 0])))<|trivial) x5
def Qdx(_:Unit):o3:=[.slice none 0 0,.int .i64 0]
def Qdr(b:xM)(W:xH):XE prog tt (Kj prog tt W) (0,0) W (Ys (K7 3 f24)) (⟨39,[(0,sV b),(3,.ptr 0 0),(4,.ptr 1 0)],[some (68,[lV none 0 0]),some (3,[iV 0])],[]⟩:St) [.nil 3 0 72 2 Qdx,.inl 3 1 f45,.inl 1 2 f85] (λe σ _=>Jf e (Yb σ (⟨39,[(3,.ptr 0 0),(4,.ptr 1 0),(8,.clo (.func 128) [] [.ptr 3 0,.ptr 2 0,.ptr 4 0])],Jm (⟨[],b,none,0⟩:LnY),Jn (Qo (Qi b.data.toList) 0) (⟨[],b,none,0⟩:LnY)⟩:St) True)) :=
 XG (Yx func45 (λa w=>call45 a w) func85 (λa w=>call85 a w) (Rx (.func 128:Fn)) (qk (some (68,[lV none (LnY.n (⟨[],b,none,0⟩:LnY)) 0]))) (qk (some (3,[iV (LnY.at (⟨[],b,none,0⟩:LnY))]))) (qk (some (9,[sV b])))<|X0 (qk (some (9,[sV nlB]))) (qk (some (3,[iV 0])))<|(show(∀(c:y9) (d:Nat->Prop) (f:xH),(Qc 72 2 Qdx ([]:List Unit) none 0).φ c d f->(Qx 72 2 (LnY.n (⟨[],b,none,0⟩:LnY)) (VF (Qo (Qi b.data.toList) 0)) none 0).φ c d f)/\True from⟨λ_ _ _ h=>AP _ _ _ _ _ _ _ _ h,trivial⟩)) x5
def Qds(y:LnY)(D:Nat)(W:xH):XE prog tt (Kj prog tt W) (0,0) W (aa (K7 3 f24)) (mS Jm (Jn (Qo (Qi s) 0)) 39 [(3,.ptr 0 0),(4,.ptr 1 0)] (Hg D) y) [] (λe σ _=>match e with | .ret=>Yb σ (⟨39,[(2,lV y.A y.n y.c)],[],[some (Qx 72 2 y.n (VF (Qo (Qi s) 0)) y.A y.c),some (Hg D)]⟩:St) True|_=>False) :=
 XG (Ja (qV (Ω y.A y.n y.c)) (XR (Qx 72 2 y.n (VF (Qo (Qi s) 0)) y.A y.c)) (XR (Hg D))<|trivial) x5
def Qdq(a:xM):Yb (⟨39,[(3,.ptr 0 0),(4,.ptr 1 0),(8,.clo (.func 128) [] [.ptr 3 0,.ptr 2 0,.ptr 4 0])],Jm (⟨[],a,none,0⟩:LnY),Jn (Qo (Qi a.data.toList) 0) (⟨[],a,none,0⟩:LnY)⟩:St) ⟨39,[(3,.ptr 0 0),(4,.ptr 1 0)],Jm (⟨[],a,none,0⟩:LnY),Jn (Qo (Qi a.data.toList) 0) (⟨[],a,none,0⟩:LnY)⟩ True:=XG (qk (some (68,[lV none (LnY.n (⟨[],a,none,0⟩:LnY)) 0])) |> ai<|qk (some (3,[iV (LnY.at (⟨[],a,none,0⟩:LnY))])) |> ai<|qk (some (9,[sV a])) |> ai<|qk (some (9,[sV nlB])) |> ai<|qk (some (3,[iV 0])) |> ai<|XR (Qx 72 2 (LnY.n (⟨[],a,none,0⟩:LnY)) (VF (Qo (Qi a.data.toList) 0)) none 0) |> ai<|trivial) x5
def n0(y:LnY){D:Nat}{r:Env}{a:Act}(h:Sat W (mS Jm (Jn (Qo (Qi s) 0)) 39 [(3,.ptr 0 0),(4,.ptr 1 0)] (Hg D) y) r a w){g:Ending->xH->Prop}(k:∀x S f,(Qx 72 2 y.n (VF (Qo (Qi s) 0)) y.A y.c).φ x S f->(∀b,S b->W.heap.size<=b/\b<f.heap.size)->Below W.heap.size W f->g (.returned (.slice y.A y.n y.c)) f):
  (aa (K7 3 f24)).wp prog (Aa (bodyPostM Fence.wide 9 prog f24 g)) (YA [{ target:=.collected D,args:=#[] }] a) w:=by
 refine wp_mono (JA (FR QU (ds:=[{ target:=.collected D,args:=#[] }])) Qm QU (p:=λe σ=>match e with | .ret=>Yb σ _ True|_=>False) (Q:=λe a w=>Aa (bodyPostM Fence.wide 9 prog f24 g) e (YA [{ target:=.collected D,args:=#[] }] a) w) (Qds y D W) ⟨L7 _,L7 _⟩ h (λ_ _ _ _ _ h=>h) λe l t m o d j _=>?_) λe m o q=>?_
 ·cases e with
  |normal=>exact False.elim d
  |exit i=>exact False.elim d
  |ret=>exact dj ((Q3 W (show Yb l _ True from d)).2 _ _ _ j) x5 k
 ·obtain⟨b,rfl,h⟩:=q;exact h
def ux{d:xM}(B:d.size<=65536)(w:xH):NewIn prog w [] 24 #[.string d] (λy:Hp=>Value.slice y.1 (Qo (Qi d.data.toList) 0).length y.2) (λy:Hp=>Qx 72 2 (Qo (Qi d.data.toList) 0).length (VF (Qo (Qi d.data.toList) 0)) y.1 y.2):=by
 have f:d.data.toList.length<=65536:=l3 B;refine⟨λa w=>call24 a w,λW _=>bB (args:=[.string d]) Qm QU func24 x5 (Qdp d W) λb σ r a U F G=>?_⟩;let⟨H,_,m⟩:=AL F G;rw[<- Ns H,(qd (c:=(K7 3 f24)) x5).1];refine wp_seq (wp_seq (JA (Kb QU) Qm QU (p:=λe σ=>Jf e _) (Qdr d W) ⟨L7 _,L7 _⟩ m (λ_ _ _ _ _ h=>h) λe I k g u o q _=>?_));cases e with
 |exit i=>exact False.elim o
 |ret=>exact False.elim o
 |normal =>
  have j:=(Q3 W (show Yb I _ True from o)).2 _ _ _ q;have J:g.eval (.tmp 8)=_:=(j.see.ts 8 _ rfl).1;have s:Sat W ⟨39,[(3,.ptr 0 0),(4,.ptr 1 0)],Jm ⟨[],d,none,0⟩,Jn (Qo (Qi d.data.toList) 0) ⟨[],d,none,0⟩⟩ k g u:=(Q3 W (Qdq d)).2 _ _ _ j;show(Hu (K7 3 f24)).wp prog _ g u;rw[show Hu (K7 3 f24)=.block 0 (.rangeFunc (.tmp 8) #[9] (yB (K7 3 f24)) (yC (K7 3 f24)))from x5,show g=YA [] g by simp[YA]];refine wp_block (mem_range Qm QU (Kl (Qo (Qi d.data.toList) 0)) (enc:=λx=>.string ⟨x.toArray⟩) (C:=λy x=>∃r,Qi d.data.toList=y.pre++x::r) (N:=λy x v=>v.pre=y.pre++[x]/\v.t=y.t) (E:=λy=>y.pre=Qi d.data.toList) (ts1:=λy x=>[(3,.ptr 0 0),(4,.ptr 1 0),(5,sV ⟨x.toArray⟩)]) rfl x5 x5 (λy x R _=>⟨_,Qdn y R W⟩) (λy x R ⟨r,h⟩=>⟨_,Qdo f y h R W⟩) s J (λa w=>call128 a w) (λl R r1 V hM K L=>?_) λD X Y y z M=>?_)
  ·have:=qH f (l:=l) (R:=R) rfl hM L;rw[show(QO r1 [.val (zF l),.ptr 3 0,.ptr 2 0,.ptr 4 0]).toArray=#[Value.func (.yield l) #[] #[]]++#[.pointer (some ⟨k.b 3,0,none⟩),.pointer (some ⟨k.b 2,0,none⟩),.pointer (some ⟨k.b 4,0,none⟩)]from by simp[QO,SV.den,K.1]]at this;exact this
  ·refine n0 y M λx S O P Q T=>⟨(y.A,y.c),x,S,?_,?_,Q,T⟩
   ·show _=Ending.returned (.slice y.A (Qo (Qi d.data.toList) 0).length y.c);rw[<- z];rfl
   ·show(Qx _ _ (Qo (Qi d.data.toList) 0).length _ y.A y.c).φ x S O;rw[show(Qo (Qi d.data.toList) 0).length=y.n from by rw[<- z];rfl];exact P
def sF(x:PV)(a b c d e:y9):y9:=yA x a b c d e
abbrev gP(l:List QQ)(k:Nat):QQ:=List.getD l k XM
def YT(a:List QQ)(k:Nat):Nat:=((a.take k).map (λp:QQ=>p.1.ts.length)).sum
def Jc(a:List QQ)(k:Nat):List Nm:=(a.take k).flatMap λp=>p.1.ts.map (λt:Tm=>t.c)
def KD(x:Nm):Bool:=decide ((x.s.size:Int)>20)||decide (x.e < -200)||decide (x.e>200)
def Dm(nb b c d e:Nat)(a:List QQ)(l:List Nm)(κ:List (List Nm)):Bool :=
 bif decide ((nb:Int)>6)then true else bif decide ((b:Int)>6)then true else bif decide (((c+d:Nat):Int)>20)then true else bif decide ((e:Int)>100)then true else
 bif XQ a.length (λi=>decide (((YT a (i+1):Nat):Int)>300))then true else bif XQ l.length (λi=>KD (List.getD l i nm0))then true else XQ κ.length (λj=>decide ((((Qu κ j).length:Nat):Int)>6))
variable{a:List QQ}
def la(h:k<a.length):YT a k+(gP a k).1.ts.length=YT a (k+1):=by
 unfold YT gP;rw[Rj h,Rv,List.sum_append,Yi h];simp
def lU(a:List QQ)(k:Nat):(Jc a k).length=YT a k:=by
 unfold Jc YT;rw[List.length_flatMap];simp
def Pt(h:k<a.length):Jc a k++(gP a k).1.ts.map (λt:Tm=>t.c)=Jc a (k+1):=by
 unfold Jc gP;rw[Rj h,Sj,Yi h];simp
def IT(h:a.length<=k):Jc a k=a.flatMap λp=>p.1.ts.map (λt:Tm=>t.c):=by
 unfold Jc;rw[Rh h]
variable{b:Nat->xN}{a:List Nd}
def QbR{X:List QQ}{c:Nat->Nat}(h:k<a.length):(X++(K0 a b c).take k)++[((Qn a k).sum,b k,c k)]=X++(K0 a b c).take (k+1):=by
 have d:k<(K0 a b c).length:=by rw[DQ];exact h
 have e:=iE (Ua:=b) (Uc:=c) h;rw[Yi d]at e;rw[Rj d,e,Rl]
def iF{X:List QQ}{c:Nat->Nat}(h:a.length<=k):X++(K0 a b c).take k=X++K0 a b c:=by
 rw[Rh (by rw[DQ];exact h)]
variable{l:List Tm}
def Qes{X Y:List Nm}(h:k<l.length):(X++(Y++(l.take k).map (λt:Tm=>t.c)))++[(Qb l k).c]=X++(Y++(l.take (k+1)).map (λt:Tm=>t.c)):=by
 rw[Rj h,Rv];unfold Qb;rw[Yi h];simp
def QdR(ν ε:Nm){bx:List (Nm×Nm)}(h:okL0 bx κ a)(b:bx.length<=6)(c:κ.length<=6)(d:a.length<=100):(Qk ν ε bx κ a).length<=7340032:=by
 have k1:=BU (f:=λs:Nm×Nm=>[s.1,s.2]) (M:=2) (λ(x:Nm×Nm) (_:x∈bx)=>L4 _);have e:=BU (f:=λp:List Nm=>p) (M:=1048576) h.hp;have g:=BU (f:=λn:Nd=>[n.ο]) (M:=1) (λ(x:Nd) (_:x∈a)=>L4 _);unfold Qk;rw[La,La,La];simp only[Li,S9];omega
def Qbd{b a:Nm}{bx:List (Nm×Nm)}{c:List Nd}(h:okL0 bx κ c):(Qk b a bx κ c).length<=1099514773506:=by
 have k1:=BU (f:=λs:Nm×Nm=>[s.1,s.2]) (M:=2) (λ(x:Nm×Nm) (_:x∈bx)=>L4 _);have d:=BU (f:=λp:List Nm=>p) (M:=1048576) h.hp;have e:=BU (f:=λn:Nd=>[n.ο]) (M:=1) (λ(x:Nd) (_:x∈c)=>L4 _);have g:=h.hb;have i:=h.hs;have j:=h.hc;unfold Qk;rw[La,La,La];simp only[Li,S9];omega
def Qex{a:List QQ}(h:∀x,x∈a->x.1.ts.length<=1048576)(d:a.length<=3145728)(k:Nat):YT a k<=3298534883328:=by
 have b:=BU (f:=λp:QQ=>p.1.ts) (M:=1048576) (l:=a.take k) (λx c=>h x (List.mem_of_mem_take c));unfold YT;rw[List.length_flatMap]at b;have e:(a.take k).length<=a.length:=by rw[Ll];omega
 omega
def sN(a b:List QQ)(c:List Nd)(d:Nat->xN)(e:Nat->Nat):(C4 a b c d e).length=a.length+b.length+c.length:=by
 unfold C4;rw[La,La,DQ]
def Qb0(a b:List QQ)(c:List Nd)(d:Nat->xN)(e:Nat->Nat)(k:Nat):((a++b)++(K0 c d e).take k).length<=a.length+b.length+c.length:=by
 rw[La,La,Ll,DQ];omega
def Fq{l:List α}{d:α}(h:j<l.length):List.getD l j d∈l:=by
 rw[Yi h];exact Rr h
variable{a:Nat}
def Mx{b:Nat}(h:decide ((a:Int)>(b:Int))=false):a<=b:=x8 (L1 h)
def Qdm{b a:Nm}{bx:List (Nm×Nm)}{d:List Nd}{e:List QQ}(h:okL0 bx κ d)(f:bx.length<=6)(g:κ.length<=6)(i:d.length<=100)(m:j<l.length)(n:l.length<=1048576)(o:YT e k<=3298534883328):((Qk b a bx κ d)++(Jc e k++(l.take (j+1)).map (λt:Tm=>t.c))).length*32<=140737488355328:=by
 have k1:=QdR b a h f g i;rw[La,La,lU,Rg,Ll];omega
variable{Ac:xN}
def Qb9{q:List QQ}{r:List Nm}(lo:Nat){Ab:xN}(Ap Ar:xN)(cb cs cc kp kr:Nat)(Us Ua:Nat->xN)(us Uc:Nat->Nat)(ν ε:Nm)(bx:List (Nm×Nm))(κ:List (List Nm))(ct:List Nd)(δ vars ζ:Int)(l1 l2:List QQ)(V:q=C4 l1 l2 ct Ua Uc)(X:r=Qk ν ε bx κ ct)(hok:okL0 bx κ ct)(bk:l1.length<=1048576)(bl:l2.length<=1048576)(ao:∀x,x∈q->x.1.ts.length<=1048576)(w:xH)(hb:RdK w Ab bx.length 6 (λj=>JR (QN bx j)))(hs:RdK w As κ.length 1 (yx κ Us us))(hp:∀j,j<κ.length->SlV lo 3 VT w (Qu κ j) (Ω (Us j) (Qu κ j).length (us j)))(hc:RdK w Ac ct.length 6 (be ct Ua Uc))(hq:(RdK w Ap l1.length 2 (λi=>Zn (l1.getD i XM))/\(Ap=none->l1.length=0/\kp=0)))(hu:(RdK w Ar l2.length 2 (λi=>Zn (l2.getD i XM))/\(Ar=none->l2.length=0/\kr=0)))(hx:∀x,x∈q->RdK w x.2.1 x.1.ts.length 4 (λj=>QK (Qb x.1.ts j))):RetAt prog w 4 #[tA δ vars Ab bx.length cb As κ.length cs Ap l1.length kp Ar l2.length kr ν ε ζ Ac ct.length cc] (Ξ (Dm bx.length κ.length l1.length l2.length ct.length q (r++(q).flatMap λp=>p.1.ts.map (λt:Tm=>t.c)) κ)):=by
 have aw:(q).length=l1.length+l2.length+ct.length:=by rw[V];exact sN l1 l2 ct Ua Uc
 have hpl:(q).length<=3145728:=x8 hok.hc;have Y:∀k,YT q k<=3298534883328:=Qex ao hpl;have aB:∀k,k<(q).length->(gP q k).1.ts.length<=1048576:=λk hk=>ao _ (Fq hk)
 have bd:∀k,(r++Jc q k).length<=4611686018427387000:=λk=>by rw[La,lU];have:=Y k;have:r.length<=1099514773506:=(by rw[X];exact Qbd hok);omega
 exact let R:OB:=some (35,(tS δ vars Ab bx.length cb As κ.length cs Ap l1.length kp Ar l2.length kr ν ε ζ Ac ct.length cc));have T:=eB (Dm bx.length κ.length l1.length l2.length ct.length q (r++(q).flatMap λp=>p.1.ts.map (λt:Tm=>t.c)) κ);rk [.gb 1 6 [.gb 1 13 [x05 1 19 (iV ((l1.length+l2.length:Nat):Int)),.gb 1 23 [.both [] [x09 3 1 [] (λ(E:Hp)=>(Ω E.1 (r).length E.2,Qc 32 3 Xk r E.1 E.2,[.reg 6 [],.o 4 3 (.nb (.han 4) (λ(y:Hp)=>Ω y.1 (l1).length y.2) (λ(y:Hp)=>Zx 47 2 Zn l1 y.1 y.2)),.opn 4 6 4 (λ(U:Hp)=>Ω U.1 (l1).length U.2) (λ(U:Hp)=>Zx 47 2 Zn l1 U.1 U.2) (λ(U:Hp)=>[x08 4 6 4 (λ(K:Hp)=>(Ω K.1 (l1++l2).length K.2,Zx 47 2 Zn (l1++l2) K.1 K.2,[YE (λ(q1:Nat×Hp)=>(⟨148,[(1,.ptr 0 0),(2,bV false),(3,lV E.1 (r).length E.2),(4,lV q1.2.1 ((l1++l2)++(K0 ct Ua Uc).take q1.1).length q1.2.2),(5,iV (q1.1:Int))],[none],[none,none,none,none,some (Zx 47 2 Zn ((l1++l2)++(K0 ct Ua Uc).take q1.1) q1.2.1 q1.2.2),none,none]⟩:St)) ct.length ((0,K):Nat×Hp) (λ(q1:Nat×Hp)=>[.both [x03 8 4 (.pointer (some (Q5 Ac (q1.1*6+0)))),x03 8 6 (.agg #[Θ ((Qn ct q1.1).sum.vars),Ω (Ua q1.1) (Qn ct q1.1).sum.ts.length (Uc q1.1)]),x08 8 8 4 (λ(C:Hp)=>(Ω C.1 ((l1++l2)++(K0 ct Ua Uc).take (q1.1+1)).length C.2,Zx 47 2 Zn ((l1++l2)++(K0 ct Ua Uc).take (q1.1+1)) C.1 C.2,[x05 7 1 (iV ((q1.1+1:Nat):Int)),.nxt [C]]))] [x0a ((0,E):Nat×Hp) (λ(a:Nat×Hp) (u:List Hp)=>(a.1+1,u.headD (none,0))) (λ(a:Nat×Hp)=>((⟨148,[(1,.ptr 0 0),(2,bV false),(3,lV a.2.1 (r++Jc q a.1).length a.2.2),(4,lV q1.2.1 (q).length q1.2.2),(6,iV ((YT q a.1:Nat):Int)),(7,iV (a.1:Int))],[none],[some (Qc 32 3 Xk (r++Jc q a.1) a.2.1 a.2.2),none,none,none,some (Zx 47 2 Zn q q1.2.1 q1.2.2),none,none]⟩:St),(a.1<=(q).length/\∀j,j<a.1->decide (((YT q (j+1):Nat):Int)>300)=false),((q).length-a.1),[.both [x06 13 3 [4] (.pointer (some (Q5 q1.2.1 (a.1*2+0)))),x06 13 5 [4] (Ω (gP q a.1).2.1 (gP q a.1).1.ts.length (gP q a.1).2.2),x05 13 7 (iV ((YT q (a.1+1):Nat):Int)),.both [] [YE (λ(z:Nat×Hp)=>(⟨148,[(1,.ptr 0 0),(2,bV false),(3,lV z.2.1 (r++(Jc q a.1++((gP q a.1).1.ts.take z.1).map (λt:Tm=>t.c))).length z.2.2),(4,lV q1.2.1 (q).length q1.2.2),(6,iV ((YT q (a.1+1):Nat):Int)),(7,iV (a.1:Int)),(8,iV (z.1:Int))],[none],[some (Qc 32 3 Xk (r++(Jc q a.1++((gP q a.1).1.ts.take z.1).map (λt:Tm=>t.c))) z.2.1 z.2.2),none,none,none,none,none,none]⟩:St)) ((gP q a.1).1.ts.length) ((0,a.2):Nat×Hp) (λ(z:Nat×Hp)=>[x06 17 3 [4] (.pointer (some (Q5 q1.2.1 (a.1*2+0)))),x06 17 5 [4] (Ω (gP q a.1).2.1 (gP q a.1).1.ts.length (gP q a.1).2.2),.both [x06 19 3 [4] (.pointer (some (Q5 q1.2.1 (a.1*2+0)))),x06 19 5 [4] (Ω (gP q a.1).2.1 (gP q a.1).1.ts.length (gP q a.1).2.2),x03 19 7 (.pointer (some (Q5 (gP q a.1).2.1 (z.1*4+0)))),x03 19 9 (nA ((Qb (gP q a.1).1.ts z.1).c)),x08 19 11 0 (λ(C:Hp)=>(Ω C.1 (r++(Jc q a.1++((gP q a.1).1.ts.take (z.1+1)).map (λt:Tm=>t.c))).length C.2,Qc 32 3 Xk (r++(Jc q a.1++((gP q a.1).1.ts.take (z.1+1)).map (λt:Tm=>t.c))) C.1 C.2,[x05 18 1 (iV ((z.1+1:Nat):Int)),.nxt [C]]))] [x05 12 1 (iV ((a.1+1:Nat):Int)),.nxt [z.2]]])]] [P5 (λ(F:Nat)=>(⟨148,[(1,.ptr 0 0),(2,bV false),(3,lV a.2.1 (r++Jc q a.1).length a.2.2),(9,iV (F:Int))],[none],[none,none,none,none,none,none,none]⟩:St)) ((r++Jc q a.1).length) (λj=>KD (List.getD (r++Jc q a.1) j nm0)) (λ(F:Nat)=>[.both [x06 23 2 [0] (.pointer (some (Q5 a.2.1 (F*3+0)))),x06 23 5 [0] (Ψ ((List.getD (r++Jc q a.1) F nm0).s)),.gb 23 9 [x06 23 11 [0] (.pointer (some (Q5 a.2.1 (F*3+0)))),x06 23 13 [0] (Θ ((List.getD (r++Jc q a.1) F nm0).e)),.gb 23 17 [x06 23 19 [0] (.pointer (some (Q5 a.2.1 (F*3+0)))),x06 23 21 [0] (Θ ((List.getD (r++Jc q a.1) F nm0).e)),.both [] [x05 22 1 (iV ((F+1:Nat):Int)),.next 0]] []] []] [P5 (λ(L:Nat)=>(⟨148,[(1,.ptr 0 0),(2,bV false),(10,iV (L:Int))],[none],[none,none,none,none,none,none,none]⟩:St)) κ.length (λj=>decide ((((Qu κ j).length:Nat):Int)>6)) (λ(L:Nat)=>[.both [x03 28 4 (.pointer (some (Q5 As (L*1+0)))),x03 28 5 (Ω (Us L) (Qu κ L).length (us L)),.both [] [x05 27 1 (iV ((L+1:Nat):Int)),.next 0]] []])]])]]))]])]))])]))]] []] []] []] λW Z hR=>have HB:=hb.up Z (λ_=>rfl);have HS:=hs.up Z (λ_=>rfl);(λ(HP:∀j,j<κ.length->SlV lo 3 VT W (Qu κ j) (Ω (Us j) (Qu κ j).length (us j)))=>have HC:=hc.up Z (λ_=>rfl);(λ(HQ:(RdK W Ap l1.length 2 (λi=>Zn (l1.getD i XM))/\(Ap=none->l1.length=0/\kp=0)))=>(λ(HU:(RdK W Ar l2.length 2 (λi=>Zn (l2.getD i XM))/\(Ar=none->l2.length=0/\kr=0)))=>(λ(HX:∀x,x∈q->RdK W x.2.1 x.1.ts.length 4 (λj=>QK (Qb x.1.ts j)))=>ZD (decide ((bx.length:Int)>6)) false (λO=>ZD (decide ((κ.length:Int)>6)) false (λP=>ai (show IntKind.i64.wrap ((l1.length:Int)+(l2.length:Int))=((l1.length+l2.length:Nat):Int)from by rw[Le _ x3];omega)<|ZD (decide (((l1.length+l2.length:Nat):Int)>20)) false (λM=>Xi (decide ((ct.length:Int)>100)) (λQ=>(T true (by unfold Dm;rw[O,P,M,Q];rfl))) λQ=>ai (by have h:=pU lo cb cs cc (λj=>Ω (Us j) (Qu κ j).length (us j)) (λj=>Ω (Ua j) (Qn ct j).sum.ts.length (Uc j)) ν ε δ vars ζ Ap Ar l1.length kp l2.length kr hok W HB HS HP HC;rw[<- X]at h;exact h) λ(E:Hp)=>X0 (λ(D:xH) (ad:Below W.heap.size W D) (g:Nat) (_:Bx D g 47 #[])=>sP 28 Zn l1 Xg Zb EL (show l1.length*32<=140737488355328 from x8 (L1 M)) (GM Zb x4 XM (HQ.1.below (λ_=>rfl) ad) HQ.2) g) (show ∀y:Hp,(Ω y.1 (l1).length y.2:y9).oneCell'=true from λ_=>rfl)<|ai (show qg (HW (λ(y:Hp)=>Ω y.1 (l1).length y.2) (λ(y:Hp)=>Zx 47 2 Zn l1 y.1 y.2)) (λ(y:Hp)=>Ω y.1 (l1).length y.2) (λ(y:Hp)=>Zx 47 2 Zn l1 y.1 y.2)from Aw λy x x' S w hx h=>l5 hx h) λ(U:Hp)=>ai (tm W 28 Zn l1 l2 (l1++l2) U.1 U.2 (Ω Ar l2.length kr) Xg Zb EL rfl (show(l1++l2).length*32<=140737488355328 from by rw[La];have:=L1 M;omega) (λD ad=>GM Zb x4 XM (HU.1.below (λ_=>rfl) ad) HU.2)) λ(K:Hp)=>GL (qB false) (qV (Ω E.1 (r).length E.2)) (show(Ω K.1 (l1++l2).length K.2:y9)=(Ω K.1 ((l1++l2)++(K0 ct Ua Uc).take 0).length K.2)from x6) (qI ((0:Nat):Int)) (qk R) (XR (Qc 32 3 Xk r E.1 E.2)) (Yq (Zx 47 2 Zn (l1++l2) K.1 K.2) (Zx 47 2 Zn ((l1++l2)++(K0 ct Ua Uc).take 0) K.1 K.2) λ_ _ _ h=>IU x6 h)<|ai (show 0<=ct.length from L7 _) λ(q1:Nat×Hp) (bm:(q1.1<=ct.length))=>Xi (decide ((q1.1:Int)<(ct.length:Int))) (λI=>X0 (J4 cc HC q1.1 (Qt I)) (D8 HC q1.1 4 (Qt I) x4 rfl rfl)<|ai (tn W 28 47 1 1 Zn ((l1++l2)++(K0 ct Ua Uc).take q1.1) ([((Qn ct q1.1).sum,Ua q1.1,Uc q1.1)]) ((l1++l2)++(K0 ct Ua Uc).take (q1.1+1)) q1.2.1 q1.2.2 ([Θ ((Qn ct q1.1).sum.vars),Ω (Ua q1.1) (Qn ct q1.1).sum.ts.length (Uc q1.1)]) Xg Zb EL (QbR (Qt I)) (show((l1++l2)++(K0 ct Ua Uc).take (q1.1+1)).length*32<=140737488355328 from by have:=Qb0 l1 l2 ct Ua Uc (q1.1+1);have:=L1 M;have:=L1 Q;omega) rfl rfl) λ(C:Hp)=>Yx (QD q1.1 (by have:=Qt I;have:=hok.hb;have:=hok.hs;have:=hok.hc;omega)) (qB false) (qV (Ω E.1 (r).length E.2)) (qV (Ω C.1 ((l1++l2)++(K0 ct Ua Uc).take (q1.1+1)).length C.2)) (qI (((q1.1+1):Nat):Int)) (qk R) (XR (Qc 32 3 Xk r E.1 E.2)) (Yq (Zx 47 2 Zn ((l1++l2)++(K0 ct Ua Uc).take (q1.1+1)) C.1 C.2) (Zx 47 2 Zn ((l1++l2)++(K0 ct Ua Uc).take (q1.1+1)) C.1 C.2) λ_ _ _ h=>h)<|ai (show q1.1+1<=ct.length from Qt I) (show ct.length-(q1.1+1)<ct.length-q1.1 from x8 (Qt I))) λI=>Yx (qB false) (show(Ω E.1 (r).length E.2:y9)=(Ω E.1 (r++Jc q 0).length E.2)from(by simp[Jc])) (show(Ω q1.2.1 ((l1++l2)++(K0 ct Ua Uc).take q1.1).length q1.2.2:y9)=(Ω q1.2.1 (q).length q1.2.2)from(by rw[show((l1++l2)++(K0 ct Ua Uc).take q1.1)=q from(iF (geq I)).trans V.symm])) (qI ((YT q 0:Nat):Int)) (qI ((0:Nat):Int)) (qk R) (Yq (Qc 32 3 Xk r E.1 E.2) (Qc 32 3 Xk (r++Jc q 0) E.1 E.2) λ_ _ _ h=>XY (by simp[Jc]) (by simp[Jc]) h) (Yq (Zx 47 2 Zn ((l1++l2)++(K0 ct Ua Uc).take q1.1) q1.2.1 q1.2.2) (Zx 47 2 Zn q q1.2.1 q1.2.2) λ_ _ _ h=>IU (show((l1++l2)++(K0 ct Ua Uc).take q1.1)=q from(iF (geq I)).trans V.symm) h)<|ai (show(0<=(q).length/\∀j,j<0->decide (((YT q (j+1):Nat):Int)>300)=false)from⟨L7 _,λj hj=>absurd hj (R4 _)⟩) λ(a:Nat×Hp) (N:(a.1<=(q).length/\∀j,j<a.1->decide (((YT q (j+1):Nat):Int)>300)=false))=>Xi (decide ((a.1:Int)<(((q).length:Nat):Int))) (λv=>Ja (Ff W 47 2 Zn Zb q XM q1.2.1 q1.2.2 (λD G=>J5 q1.2.2 G a.1 (Qt v) (w0:=D))) (Ff W 47 2 Zn Zb q XM q1.2.1 q1.2.2 (λD G=>Ev D G a.1 1 (Qt v) x4 rfl)) (show IntKind.i64.wrap (((YT q a.1:Nat):Int)+(((gP q a.1).1.ts.length:Nat):Int))=((YT q (a.1+1):Nat):Int)from by have h1:=la (Qt v);have:=Y (a.1+1);rw[Le _ x3];omega)<|Xi (decide (((YT q (a.1+1):Nat):Int)>300)) (λz5=>(T true (by unfold Dm;rw[O,P,M,Q,ZG (f:=λi=>decide (((YT q (i+1):Nat):Int)>300)) (Qt v) z5];rfl))) λz5=>Yx (qB false) (show(Ω a.2.1 (r++Jc q a.1).length a.2.2:y9)=(Ω a.2.1 (r++(Jc q a.1++((gP q a.1).1.ts.take 0).map (λt:Tm=>t.c))).length a.2.2)from x6) (qV (Ω q1.2.1 (q).length q1.2.2)) (qI ((YT q (a.1+1):Nat):Int)) (qI (a.1:Int)) (qI ((0:Nat):Int)) (qk R) (Yq (Qc 32 3 Xk (r++Jc q a.1) a.2.1 a.2.2) (Qc 32 3 Xk (r++(Jc q a.1++((gP q a.1).1.ts.take 0).map (λt:Tm=>t.c))) a.2.1 a.2.2) λ_ _ _ h=>XY x6 x6 h)<|ai (XR (Zx 47 2 Zn q q1.2.1 q1.2.2))<|ai (show 0<=(gP q a.1).1.ts.length from L7 _) λ(z:Nat×Hp) (bn:(z.1<=(gP q a.1).1.ts.length))=>X0 (Ff W 47 2 Zn Zb q XM q1.2.1 q1.2.2 (λD G=>J5 q1.2.2 G a.1 (Qt v) (w0:=D))) (Ff W 47 2 Zn Zb q XM q1.2.1 q1.2.2 (λD G=>Ev D G a.1 1 (Qt v) x4 rfl))<|Xi (decide ((z.1:Int)<(((gP q a.1).1.ts.length:Nat):Int))) (λH=>Ky (Ff W 47 2 Zn Zb q XM q1.2.1 q1.2.2 (λD G=>J5 q1.2.2 G a.1 (Qt v) (w0:=D))) (Ff W 47 2 Zn Zb q XM q1.2.1 q1.2.2 (λD G=>Ev D G a.1 1 (Qt v) x4 rfl)) (Y0 ((gP q a.1).2.2) (HX _ (Fq (Qt v))) z.1 (Qt H)) (JW (HX _ (Fq (Qt v))) z.1 1 (Qt H) x4 rfl rfl)<|ai (YJ W 43 32 1 1 Xk (r++(Jc q a.1++((gP q a.1).1.ts.take z.1).map (λt:Tm=>t.c))) ([(Qb (gP q a.1).1.ts z.1).c]) (r++(Jc q a.1++((gP q a.1).1.ts.take (z.1+1)).map (λt:Tm=>t.c))) z.2.1 z.2.2 ([Ξ ((Qb (gP q a.1).1.ts z.1).c.b),Ψ ((Qb (gP q a.1).1.ts z.1).c.s),Θ ((Qb (gP q a.1).1.ts z.1).c.e)]) ZY Xx Gn (Qes (Qt H)) (show(r++(Jc q a.1++((gP q a.1).1.ts.take (z.1+1)).map (λt:Tm=>t.c))).length*32<=140737488355328 from by rw[X];exact Qdm hok (Mx O) (Mx P) (Mx Q) (Qt H) (aB _ (Qt v)) (Y _)) rfl rfl) λ(C:Hp)=>Yx (QD z.1 (xF (Qt H) (aB _ (Qt v)))) (qB false) (qV (Ω C.1 (r++(Jc q a.1++((gP q a.1).1.ts.take (z.1+1)).map (λt:Tm=>t.c))).length C.2)) (qV (Ω q1.2.1 (q).length q1.2.2)) (qI ((YT q (a.1+1):Nat):Int)) (qI (a.1:Int)) (qI (((z.1+1):Nat):Int)) (qk R)<|X0 (Yq (Qc 32 3 Xk (r++(Jc q a.1++((gP q a.1).1.ts.take (z.1+1)).map (λt:Tm=>t.c))) C.1 C.2) (Qc 32 3 Xk (r++(Jc q a.1++((gP q a.1).1.ts.take (z.1+1)).map (λt:Tm=>t.c))) C.1 C.2) λ_ _ _ h=>h) (XR (Zx 47 2 Zn q q1.2.1 q1.2.2))<|ai (show z.1+1<=(gP q a.1).1.ts.length from Qt H) (show(gP q a.1).1.ts.length-(z.1+1)<(gP q a.1).1.ts.length-z.1 from x8 (Qt H))) λH=>Yx (QD a.1 (by have:=Qt v;have:=aw;have:=L1 M;have:=L1 Q;omega)) (qB false) (show(Ω z.2.1 (r++(Jc q a.1++((gP q a.1).1.ts.take z.1).map (λt:Tm=>t.c))).length z.2.2:y9)=(Ω z.2.1 (r++Jc q (a.1+1)).length z.2.2)from(by rw[show(r++(Jc q a.1++((gP q a.1).1.ts.take z.1).map (λt:Tm=>t.c)))=(r++Jc q (a.1+1))from by rw[Rh (geq H),Pt (Qt v)]])) (qV (Ω q1.2.1 (q).length q1.2.2)) (qI ((YT q (a.1+1):Nat):Int)) (qI (((a.1+1):Nat):Int)) (qk R) (Yq (Qc 32 3 Xk (r++(Jc q a.1++((gP q a.1).1.ts.take z.1).map (λt:Tm=>t.c))) z.2.1 z.2.2) (Qc 32 3 Xk (r++Jc q (a.1+1)) z.2.1 z.2.2) λ_ _ _ h=>XY (by rw[show(r++(Jc q a.1++((gP q a.1).1.ts.take z.1).map (λt:Tm=>t.c)))=(r++Jc q (a.1+1))from by rw[Rh (geq H),Pt (Qt v)]]) (by rw[show(r++(Jc q a.1++((gP q a.1).1.ts.take z.1).map (λt:Tm=>t.c)))=(r++Jc q (a.1+1))from by rw[Rh (geq H),Pt (Qt v)]]) h)<|ai (XR (Zx 47 2 Zn q q1.2.1 q1.2.2))<|ai (show((a.1+1)<=(q).length/\∀j,j<(a.1+1)->decide (((YT q (j+1):Nat):Int)>300)=false)from⟨Qt v,jY (λj=>decide (((YT q (j+1):Nat):Int)>300)) N.2 z5⟩) (show(q).length-(a.1+1)<(q).length-a.1 from x8 (Qt v))) λv=>Vv (qB false) (qV (Ω a.2.1 (r++Jc q a.1).length a.2.2)) (qI ((0:Nat):Int)) (qk R) (XR (Qc 32 3 Xk (r++Jc q a.1) a.2.1 a.2.2)) (XR (Zx 47 2 Zn q q1.2.1 q1.2.2))<|ai (c0 ((r++Jc q a.1).length) (λj=>KD (List.getD (r++Jc q a.1) j nm0))) λ(F:Nat) (ag:cQ ((r++Jc q a.1).length) (λj=>KD (List.getD (r++Jc q a.1) j nm0)) F)=>Xi (decide ((F:Int)<(((r++Jc q a.1).length:Nat):Int))) (λB=>X0 (Jl W 32 3 Xk (r++Jc q a.1) a.2.1 a.2.2 Xx nm0 (λD G=>Gi a.2.2 D G F (Qt B))) (Jl W 32 3 Xk (r++Jc q a.1) a.2.1 a.2.2 Xx nm0 (λD G=>AT G F 1 (Qt B) x4 rfl (w0:=D)))<|ZD (decide ((((List.getD (r++Jc q a.1) F nm0).s).size:Int)>20)) false (λz6=>X0 (Jl W 32 3 Xk (r++Jc q a.1) a.2.1 a.2.2 Xx nm0 (λD G=>Gi a.2.2 D G F (Qt B))) (Jl W 32 3 Xk (r++Jc q a.1) a.2.1 a.2.2 Xx nm0 (λD G=>BZ G F 2 (Qt B) x4 rfl (w0:=D)))<|ZD (decide (((List.getD (r++Jc q a.1) F nm0).e)<(-200))) false (λz7=>X0 (Jl W 32 3 Xk (r++Jc q a.1) a.2.1 a.2.2 Xx nm0 (λD G=>Gi a.2.2 D G F (Qt B))) (Jl W 32 3 Xk (r++Jc q a.1) a.2.1 a.2.2 Xx nm0 (λD G=>BZ G F 2 (Qt B) x4 rfl (w0:=D)))<|Xi (decide (((List.getD (r++Jc q a.1) F nm0).e)>200)) (λz8=>(T true (by rw[<- (show(r++Jc q a.1)=r++(q).flatMap (λp=>p.1.ts.map (λt:Tm=>t.c))from by rw[IT (geq v)])];unfold Dm;rw[O,P,M,Q,G6 (λi=>decide (((YT q (i+1):Nat):Int)>300)) v N.2,ZG (f:=λi=>KD (List.getD (r++Jc q a.1) i nm0)) (Qt B) (by show KD _=true;unfold KD;rw[z6,z7,z8];rfl)];rfl))) λz8=>GL (QD F (xF (Qt B) (bd a.1))) (qB false) (qV (Ω a.2.1 (r++Jc q a.1).length a.2.2)) (qI (((F+1):Nat):Int)) (qk R) (XR (Qc 32 3 Xk (r++Jc q a.1) a.2.1 a.2.2)) (XR (Zx 47 2 Zn q q1.2.1 q1.2.2))<|ai (cS ag (Qt B) (by show KD _=false;unfold KD;rw[z6,z7,z8];rfl)) (Oe (Qt B))) λz7=>(T true (by rw[<- (show(r++Jc q a.1)=r++(q).flatMap (λp=>p.1.ts.map (λt:Tm=>t.c))from by rw[IT (geq v)])];unfold Dm;rw[O,P,M,Q,G6 (λi=>decide (((YT q (i+1):Nat):Int)>300)) v N.2,ZG (f:=λi=>KD (List.getD (r++Jc q a.1) i nm0)) (Qt B) (by show KD _=true;unfold KD;rw[z6,z7];rfl)];rfl))) λz6=>(T true (by rw[<- (show(r++Jc q a.1)=r++(q).flatMap (λp=>p.1.ts.map (λt:Tm=>t.c))from by rw[IT (geq v)])];unfold Dm;rw[O,P,M,Q,G6 (λi=>decide (((YT q (i+1):Nat):Int)>300)) v N.2,ZG (f:=λi=>KD (List.getD (r++Jc q a.1) i nm0)) (Qt B) (by show KD _=true;unfold KD;rw[z6];rfl)];rfl))) λB=>KJ (qB false) (qI ((0:Nat):Int)) (qk R) (XR (Qc 32 3 Xk (r++Jc q a.1) a.2.1 a.2.2)) (XR (Zx 47 2 Zn q q1.2.1 q1.2.2))<|ai (c0 κ.length (λj=>decide ((((Qu κ j).length:Nat):Int)>6))) λ(L:Nat) (bc:cQ κ.length (λj=>decide ((((Qu κ j).length:Nat):Int)>6)) L)=>Xi (decide ((L:Int)<(κ.length:Int))) (λJ=>X0 (Zy cs HS L (Qt J)) (J6 HS L 0 (Qt J) x4 rfl)<|Xi (decide ((((Qu κ L).length:Nat):Int)>6)) (λz9=>(T true (by rw[<- (show(r++Jc q a.1)=r++(q).flatMap (λp=>p.1.ts.map (λt:Tm=>t.c))from by rw[IT (geq v)])];unfold Dm;rw[O,P,M,Q,G6 (λi=>decide (((YT q (i+1):Nat):Int)>300)) v N.2,G6 (λi=>KD (List.getD (r++Jc q a.1) i nm0)) B ag.2,ZG (f:=λj=>decide ((((Qu κ j).length:Nat):Int)>6)) (Qt J) z9];rfl))) λz9=>Vv (QD L (by have:=Qt J;have:=hok.hb;have:=hok.hs;have:=hok.hc;omega)) (qB false) (qI (((L+1):Nat):Int)) (qk R) (XR (Qc 32 3 Xk (r++Jc q a.1) a.2.1 a.2.2)) (XR (Zx 47 2 Zn q q1.2.1 q1.2.2))<|ai (cS bc (Qt J) z9) (Oe (Qt J))) λJ=>(T false (by rw[<- (show(r++Jc q a.1)=r++(q).flatMap (λp=>p.1.ts.map (λt:Tm=>t.c))from by rw[IT (geq v)])];unfold Dm;rw[O,P,M,Q,G6 (λi=>decide (((YT q (i+1):Nat):Int)>300)) v N.2,G6 (λi=>KD (List.getD (r++Jc q a.1) i nm0)) B ag.2,G6 (λj=>decide ((((Qu κ j).length:Nat):Int)>6)) J bc.2];rfl))) λM=>(T true (by unfold Dm;rw[O,P,M];rfl))) λP=>(T true (by unfold Dm;rw[O,P];rfl))) λO=>(T true (by unfold Dm;rw[O];rfl))) (λx bi=>(hx x bi).below (λ_=>rfl) Z)) (⟨hu.1.below (λ_=>rfl) Z,hu.2⟩)) (⟨hq.1.below (λ_=>rfl) Z,hq.2⟩)) (λj hj=>(hp j hj).below YH Z)
def Di(M:Nat->Nat->Nm)(i j:Nat):Dyadic:=nv (M i j)
structure okM (L T:Nat) (M:Nat->Nat->Nm):Prop where
 nd:∀i j,ND (M i j).b (M i j).s (M i j).e (Di M i j)
 lo:∀i j,-1000000<=(M i j).e
 db:∀i j,DB L T (Di M i j)
def ou(k:Nat)(M:Nat->Nat->Nm):Nat->Nat->Nm:=λi j=>M (bf 0 i) (bf k j)
variable{M:Nat->Nat->Nm}
def okM.mn{L T:Nat}(h:okM L T M)(k:Nat):okM L T (ou k M):=⟨λ_ _=>h.nd _ _,λ_ _=>h.lo _ _,λ_ _=>h.db _ _⟩
def Bt(M:Nat->Nat->Nm)(i k:Nat):List Nm:=(List.range k).map (M i)
def Pv(M:Nat->Nat->Nm)(i k m:Nat):List Nm:=(List.range m).map λj=>M i (k+1+j)
def K3(M:Nat->Nat->Nm)(k n i:Nat):List Nm:=(List.range n).map (ou k M i)
def mc{n:Nat}(c:k<=n):Bt M (i+1) k++Pv M (i+1) k (n-k)=K3 M k n i:=by
 apply List.ext_getElem?;intro j;unfold Bt Pv K3 ou;have e0:bf 0 i=i+1:=by simp[bf]
 rw[e0];by_cases a:j<k
 ·rw[List.getElem?_append_left (l3 a)];simp[a,show j<n by omega,bf]
 ·rw[sT (l3 a)];by_cases b:j<n
  ·simp only[Rg,Sb];rw[List.getElem?_map,List.getElem?_map,List.getElem?_range x3,List.getElem?_range b];simp only[Option.map_some,bf,if_neg a];congr 2;omega
  ·rw[a8 x7,a8 x7]
def Ke(M:Nat->Nat->Nm)(n k:Nat):Dyadic:=SL (λk=>sO k (Di M 0 k*K4 n (sn 0 k (Di M)))) k
def F6(M:Nat->Nat->Nm)(n k:Nat):Dyadic:=Di M 0 k*K4 n (sn 0 k (Di M))
def Im(M:Nat->Nat->Nm)(n k:Nat):Ke M n (k+1)=Ke M n k+sO k (F6 M n k):=rfl
section
variable{L T n:Nat}{M:Nat->Nat->Nm}(hM:okM L T M)(hLT:(L+T+8)*8<=1000000)(hn:n+1<=8)
include hM hLT hn
omit hLT in
theorem IF(k:Nat):DB (L*(n+1)) ((T+8)*(n+1)+1) (F6 M n k):=gz hn hM.db k
theorem kN(k:Nat):ND (dN (K4 n (sn 0 k (Di M)))).b (dN (K4 n (sn 0 k (Di M)))).s (dN (K4 n (sn 0 k (Di M)))).e (K4 n (sn 0 k (Di M))):=by
 have a:=Gd n (sn 0 k (Di M)) x3 (λi j=>hM.db _ _);have c:=Z8 hn hLT;refine WC a ?_
 have d:L*n<=L*(n+1):=Rb _ x3;have f:(T+8)*n<=(T+8)*(n+1):=Rb _ x3;omega
theorem kG(k:Nat):-1000001<=(dN (K4 n (sn 0 k (Di M)))).e:=by
 have a:=(G8 (Gd n (sn 0 k (Di M)) x3 (λi j=>hM.db _ _))).1;have b:=Z8 hn hLT;have c:L*n<=L*(n+1):=Rb _ x3;show -1000001<=de _;have d:((L*n:Nat):Int)<=1000001:=x3;omega
end
def cE(P:Program)(w0:World)(t:TypeId)(x y:Operand)(k:Nat):Qp P w0 (do eqGuard .rem t x y (.int .i64 (k:Int)) (.int .i64 2);binOp .rem t (.int .i64 (k:Int)) (.int .i64 2)) (.int .i64 (((k % 2:Nat):Int))):=λW _=>by
 have h:Int.tmod (k:Int) 2=((k % 2:Nat):Int):=by
  rw[L3 (Int.natCast_nonneg k)];rfl
 simp[eqGuard,binOp,go_sem,h]
def mV{t n c:Nat}{i:Option Bool}{A:xN}{m:Nat}(j:Yw prog t=some d)(p:d.k=.slice e a i)(q:a≠0)(hn:0<n)(r:k<=n)(s:n<=c)(u:m=k)(v:RdK w0 A n a f):
  Qp prog w0 (Instr.sliceAt t (.slice A n c) none (some (.int .i64 (k:Int))) none) (.slice A m c):=λW _=>by
 subst u;obtain⟨b,off,rfl,_⟩:=v hn;have h:=JO prog W b off n c 0 m none (some (.int .i64 (m:Int))) j p q (.inl ⟨rfl,rfl⟩) (.inr ⟨.i64,rfl⟩) (L7 _) x3;rw[h];simp
def bU(A:xN)(c k b:Nat):xN:=A.map λa=>⟨a.block,if c=k then a.off else a.off+k*b,none⟩
def oL{t n c:Nat}{p:Option Bool}{A:xN}{j:TI}{m:Nat}(q:Yw prog t=some j)(r:j.k=.slice e a p)(s:a≠0)(hn:0<n)(d:k<=n)(i:n<=c)(u:m=n-k)(v:RdK w0 A n a f):
  Qp prog w0 (Instr.sliceAt t (.slice A n c) (some (.int .i64 (k:Int))) none none) (.slice (bU A c k a) m (c-k)):=λW _=>by
 subst u;obtain⟨b,off,rfl,_⟩:=v hn;have h:=JO prog W b off n c k n (some (.int .i64 (k:Int))) none q r s (.inr ⟨.i64,rfl⟩) (.inl ⟨rfl,rfl⟩) d i;rw[h];rfl
def gw{n c:Nat}{A:xN}(m:k<=n)(o:A=none->n=0/\c=0)(p:RdK w A n 3 (λj=>Xk (M i j))):BO Xk (Bt M i k) w (.slice A (Bt M i k).length c):=by
 refine GM Xx x4 nm0 ?_ (λh=>?_)
 ·intro q;have a:(Bt M i k).length=k:=by simp[Bt]
  rw[a]at q;let⟨b,off,e,r⟩:=p x3;refine⟨b,off,e,λj f l g=>?_⟩;rw[a]at f;show _=(Xk ((Bt M i k).getD j nm0))[l]?;rw[YZ (by rw[a];exact f),show(Bt M i k)[j]'(by rw[a];exact f)=M i j by simp[Bt]];exact r j x3 l g
 ·let⟨t,s⟩:=o h;exact⟨by simp[Bt];omega,s⟩
def ki{n c m:Nat}{A:xN}(hn:0<n)(o:n<=c)(s:k+1+m=n)(p:RdK w A n 3 (λj=>Xk (M i j))):BO Xk (Pv M i k m) w (.slice (bU A c (k+1) 3) (Pv M i k m).length (c-(k+1))):=by
 obtain⟨b,off,rfl,q⟩:=p hn;have a:(Pv M i k m).length=m:=by simp[Pv]
 refine GM Xx x4 nm0 ?_ (λh=>by cases h)
 intro r;rw[a]at r;have e:c≠k+1:=x3;refine⟨b,off+(k+1)*3,by simp[bU,e],λj f l g=>?_⟩;rw[a]at f;show _=(Xk ((Pv M i k m).getD j nm0))[l]?;rw[YZ (by rw[a];exact f),show(Pv M i k m)[j]'(by rw[a];exact f)=M i (k+1+j)by simp[Pv]];have h:=q (k+1+j) x3 l g;rw[<- h];congr 2;rw[S8 (k+1) j 3];omega
abbrev HJs:Nat×Hp:=(0,none,0)
abbrev HJt(M:Nat->Nat->Nm)(n:Nat)(q1:Nat×Hp):=(32,[bV ((dN (Ke M n q1.1)).b),sV ((dN (Ke M n q1.1)).s),iV ((dN (Ke M n q1.1)).e)])
abbrev HJu(M:Nat->Nat->Nm)(n:Nat)(q1:Nat×Hp):=dN (Ke M n ((q1.1+1,none,0):Nat×Hp).1)
abbrev HJv(f:Nat×Hp)(M:Nat->Nat->Nm)(q1:Nat×Hp)(n:Nat):=(List.range (f.1+1)).map (K3 M q1.1 n)
abbrev HJw(M:Nat->Nat->Nm)(n:Nat)(q1:Nat×Hp):SV:=.agg [bV ((dN (Ke M n (q1.1+1))).b),sV ((dN (Ke M n (q1.1+1))).s),iV ((dN (Ke M n (q1.1+1))).e)]
def bT{n L T c:Nat}{A:xN}(Ai:Nat->xN)(ci:Nat->Nat)(V:N=n+1)(hM:okM L T M)(hLT:(L+T+8)*8<=1000000)(hn:n+1<=8)(w:xH)(O:RdK w A N 1 (λi=>[Ω (Ai i) N (ci i)]))(G:∀i,i<N->N<=ci i/\(Ai i=none->N=0/\ci i=0)/\RdK w (Ai i) N 3 (λj=>Xk (M i j)))(H:∀(k m:Nat) (B:xN) (d:Nat) (t:xH) (x:y9) (S:Nat->Prop),m=n->(G4 43 3 Xk ((List.range m).map (K3 M k n)) B d).φ x S t->xP prog 125 #[Ω B ((List.range m).map (K3 M k n)).length d] t (nA (dN (K4 n (sn 0 k (Di M)))))):RetAt prog w 125 #[Ω A N c] (nA (dN (K4 (n+1) (Di M)))) :=
 let F:OB:=some (32,[bV false,sV ⟨#[]⟩,iV 0]);rk [.br false,x0a (HJs:Nat×Hp) (λ(q1:Nat×Hp) (u:List Hp)=>(q1.1+1,none,0)) (λ(q1:Nat×Hp)=>((⟨64,[(0,lV A N c),(2,.ptr 0 0),(3,.ptr 1 0),(4,iV (q1.1:Int))],[none,some (HJt M n q1)],[]⟩:St),(q1.1<=N),(N-q1.1),[.both [.nil 9 99999 43 1 xX,.cnv 9 99999 0 (G4 43 3 Xk ((List.range 0).map (K3 M q1.1 n)) none 0),x0a (HJs:Nat×Hp) (λ(f:Nat×Hp) (u:List Hp)=>(f.1+1,u.headD (none,0))) (λ(f:Nat×Hp)=>((⟨64,[(0,lV A N c),(2,.ptr 0 0),(3,.ptr 1 0),(4,iV (q1.1:Int)),(5,lV f.2.1 (((List.range f.1).map (K3 M q1.1 n))).length f.2.2),(6,iV ((f.1+1:Nat):Int))],[none,none],[some (G4 43 3 Xk ((List.range f.1).map (K3 M q1.1 n)) f.2.1 f.2.2)]⟩:St),(f.1+1<=N),(N-f.1),[.both [x03 11 3 (.pointer (some (Q5 A ((f.1+1)*1+0)))),x03 11 4 (Ω (Ai (f.1+1)) N (ci (f.1+1))),x03 11 6 (Ω (Ai (f.1+1)) (Bt M (f.1+1) q1.1).length (ci (f.1+1))),.row 11 7 2 [26] 32 3 Xk ([]:List Nm) (λ(I:Hp)=>[x08 11 7 1 (λ(C:Hp)=>(Ω C.1 ((Bt M (f.1+1) q1.1)).length C.2,Qc 32 3 Xk (Bt M (f.1+1) q1.1) C.1 C.2,[x03 12 4 (.pointer (some (Q5 A ((f.1+1)*1+0)))),x03 12 5 (Ω (Ai (f.1+1)) N (ci (f.1+1))),x05 12 7 (iV ((q1.1+1:Nat):Int)),x03 12 8 (Ω (bU (Ai (f.1+1)) (ci (f.1+1)) (q1.1+1) 3) (Pv M (f.1+1) q1.1 (n-q1.1)).length (ci (f.1+1)-(q1.1+1))),x08 12 9 1 (λ(D:Hp)=>(Ω D.1 ((K3 M q1.1 n f.1)).length D.2,Qc 32 3 Xk (K3 M q1.1 n f.1) D.1 D.2,[.join 12 11 0 1,x08 12 11 0 (λ(v:Hp)=>(Ω v.1 ((HJv f M q1 n)).length v.2,G4 43 3 Xk (HJv f M q1 n) v.1 v.2,[x05 10 1 (iV ((f.1+1+1:Nat):Int)),.nxt [v]]))]))]))])] [.reg 10 [],x03 13 1 (.pointer (some (Q5 A (0*1+0)))),x03 13 2 (Ω (Ai 0) N (ci 0)),x03 13 4 (.pointer (some (Q5 (Ai 0) (q1.1*3+0)))),x03 13 5 (nA (M 0 q1.1)),.o 13 7 (.retr [0] (nA (dN (K4 n (sn 0 q1.1 (Di M)))))),x04 13 8 (.agg [bV ((dN (F6 M n q1.1)).b),sV ((dN (F6 M n q1.1)).s),iV ((dN (F6 M n q1.1)).e)]),x03 14 1 (Θ ((q1.1 % 2:Nat):Int)),.both [x04 15 1 (.agg [bV ((dN (sO q1.1 (F6 M n q1.1))).b),sV ((dN (sO q1.1 (F6 M n q1.1))).s),iV ((dN (sO q1.1 (F6 M n q1.1))).e)]),x04 16 2 (HJw M n q1),x05 6 1 (iV ((q1.1+1:Nat):Int)),.nxt []] [x04 16 2 (HJw M n q1),x05 6 1 (iV ((q1.1+1:Nat):Int)),.nxt []]]]))] []]))] λW K X=>have E:=O.up K (λ_=>rfl);(λ(z:∀i,i<N->N<=ci i/\(Ai i=none->N=0/\ci i=0)/\RdK W (Ai i) N 3 (λj=>Xk (M i j)))=>GL (show((N:Int)==0)=false from Lp.2 x3) (qV (Ω A N c)) (qI ((HJs.1:Nat):Int)) (qk F) (qB ((dN (Ke M n HJs.1)).b)) (qS ((dN (Ke M n HJs.1)).s)) (qI ((dN (Ke M n HJs.1)).e))<|ai (show 0<=N from L7 _) λ(q1:Nat×Hp) (Q:(q1.1<=N))=>Xi (decide ((q1.1:Int)<(N:Int))) (λq=>Yx (show ∀(x:y9) (S:Nat->Prop) (w:xH),(Qc 43 1 xX ([]:o3) none 0).φ x S w->(G4 43 3 Xk ((List.range 0).map (K3 M q1.1 n)) none 0).φ x S w from wX _ 3 Xk _) (qV (Ω A N c)) (qI (q1.1:Int)) (qV (Ω HJs.2.1 (((List.range (HJs.1)).map (K3 M q1.1 n))).length HJs.2.2)) (qI ((HJs.1+1:Nat):Int)) (qk F) (qk (some (HJt M n q1))) (Yq (G4 43 3 Xk ((List.range 0).map (K3 M q1.1 n)) none 0) (G4 43 3 Xk ((List.range (HJs.1)).map (K3 M q1.1 n)) HJs.2.1 HJs.2.2) λ_ _ _ h=>h)<|ai (show 0+1<=N from x3) λ(f:Nat×Hp) (R:(f.1+1<=N))=>Xi (decide (((f.1+1:Nat):Int)<(N:Int))) (λg=>Ky (Bb c E (f.1+1) (Qt g)) (Ew E (f.1+1) 0 (Qt g) x4 rfl) (mV (k:=q1.1) (m:=(Bt M (f.1+1) q1.1).length) (Qm 43 _ rfl) rfl x4 (show 0<N from x3) (show q1.1<=N from x8 (L0 q)) (z (f.1+1) (Qt g)).1 (by simp[Bt]) (z (f.1+1) (Qt g)).2.2) (show([]:o3)=List.flatMap Xk ([]:List Nm)from rfl)<|ai (p0 Xx (show(([]:List Nm)).length<=maxLen from(by simp[maxLen]))) λ(I:Hp)=>ai (Gf W 43 Xk ([]:List Nm) (Bt M (f.1+1) q1.1) (Bt M (f.1+1) q1.1) I.1 I.2 (Ω (Ai (f.1+1)) (Bt M (f.1+1) q1.1).length (ci (f.1+1))) ZY Xx Gn (V2 (Bt M (f.1+1) q1.1)) (show((Bt M (f.1+1) q1.1)).length*32<=140737488355328 from by simp[Bt,K3];have:=L0 q;omega) (λt r=>gw (n:=N) (show q1.1<=N from x8 (L0 q)) (z (f.1+1) (Qt g)).2.1 ((z (f.1+1) (Qt g)).2.2.below (λ_=>rfl) r))) λ(C:Hp)=>Ky (Bb c E (f.1+1) (Qt g)) (Ew E (f.1+1) 0 (Qt g) x4 rfl) (QD q1.1 x3) (oL (k:=q1.1+1) (m:=(Pv M (f.1+1) q1.1 (n-q1.1)).length) (Qm 43 _ rfl) rfl x4 (show 0<N from x3) (show q1.1+1<=N from Qt q) (z (f.1+1) (Qt g)).1 (by simp[Pv];omega) (z (f.1+1) (Qt g)).2.2)<|ai (Gf W 43 Xk (Bt M (f.1+1) q1.1) (Pv M (f.1+1) q1.1 (n-q1.1)) (K3 M q1.1 n f.1) C.1 C.2 (Ω (bU (Ai (f.1+1)) (ci (f.1+1)) (q1.1+1) 3) (Pv M (f.1+1) q1.1 (n-q1.1)).length (ci (f.1+1)-(q1.1+1))) ZY Xx Gn (mc (show q1.1<=n from x8 (L0 q))) (show((K3 M q1.1 n f.1)).length*32<=140737488355328 from by simp[Bt,K3];have:=L0 q;omega) (λt r=>ki (n:=N) (show 0<N from x3) (z (f.1+1) (Qt g)).1 (x8 (L0 q)) ((z (f.1+1) (Qt g)).2.2.below (λ_=>rfl) r))) λ(D:Hp)=>ai (qW W 165 32 43 1 ((List.range f.1).map (K3 M q1.1 n)) (HJv f M q1 n) (K3 M q1.1 n f.1) (K3 M q1.1 n f.1) f.2.1 D.1 f.2.2 D.2 M7 Xx rfl (yE (K3 M q1.1 n) f.1) (show(((List.range (f.1+1)).map (K3 M q1.1 n))).length*24<=140737488355328 from by rw[Rg,Sb];have:=L0 g;omega)) λ(v:Hp)=>Yx (QD (f.1+1) x3) (qV (Ω A N c)) (qI (q1.1:Int)) (qV (Ω v.1 ((HJv f M q1 n)).length v.2)) (qI (((f.1+1)+1:Nat):Int)) (qk F) (qk (some (HJt M n q1))) (Yq (G4 43 3 Xk (HJv f M q1 n) v.1 v.2) (G4 43 3 Xk (HJv f M q1 n) v.1 v.2) λ_ _ _ h=>h)<|ai (show f.1+1+1<=N from x8 (L0 g)) (show N-(f.1+1)<N-f.1 from x8 (L0 g))) λg=>GL (Bb c E 0 (show 0<N from x3)) (Ew E 0 0 (show 0<N from x3) x4 rfl) (Gi (ci 0) _ (z 0 (show 0<N from x3)).2.2 q1.1 (Qt q)) (JW (z 0 (show 0<N from x3)).2.2 q1.1 0 (Qt q) x4 rfl rfl) (show Cv prog W [G4 43 3 Xk ((List.range f.1).map (K3 M q1.1 n)) f.2.1 f.2.2] 125 #[Ω f.2.1 (((List.range f.1).map (K3 M q1.1 n))).length f.2.2] (nA (dN (K4 n (sn 0 q1.1 (Di M)))))from⟨λa w=>call125 a w,λt r x S U=>H q1.1 f.1 f.2.1 f.2.2 t x S (x8 (L1 g)) U⟩) (show RetAt prog W 172 #[nA (M 0 q1.1),nA (dN (K4 n (sn 0 q1.1 (Di M))))] (nA (dN (F6 M n q1.1)))from⟨λa w=>call172 a w,λt r=>Ir t (hM.nd 0 q1.1) (kN hM hLT hn q1.1) (xF (hM.lo 0 q1.1) (kG hM hLT hn q1.1))⟩) (cE prog W 3 (.tmp 55) (.const (Θ 2)) q1.1)<|Xi (((q1.1 % 2:Nat):Int)==1) (λy=>Yx (show RetAt prog W 170 #[nA (dN (F6 M n q1.1))] (nA (dN (sO q1.1 (F6 M n q1.1))))from⟨λa w=>call170 a w,λt r=>(by have h:=bj (w:=t) (IF hM hn q1.1) (x8 (Z8 hn hLT));rw[show sO q1.1 (F6 M n q1.1)=-(F6 M n q1.1)from by unfold sO;rw[if_pos (by have:=of_decide_eq_true (p:=((q1.1 % 2:Nat):Int)=1) (l3 y);omega)]];exact h)⟩) (show RetAt prog W 169 #[nA (dN (Ke M n q1.1)),nA (dN (sO q1.1 (F6 M n q1.1)))] (nA (dN (Ke M n (q1.1+1))))from⟨λa w=>call169 a w,λt r=>(by rw[Im];skip;exact KE t (WC (Dz hn hM.db q1.1 x3) (x8 (Z8 hn hLT))) (WC (Ga q1.1 (IF hM hn q1.1)) (x8 (Z8 hn hLT))) (Dz hn hM.db q1.1 x3) (Ga q1.1 (IF hM hn q1.1)) (x8 (Z8 hn hLT)))⟩) (QD q1.1 x3) (qV (Ω A N c)) (qI ((((q1.1+1,none,0):Nat×Hp).1:Nat):Int)) (qk F) (qB ((HJu M n q1).b)) (qS ((HJu M n q1).s))<|ai (qI ((HJu M n q1).e))<|ai (show q1.1+1<=N from Qt q) (show N-(q1.1+1)<N-q1.1 from x8 (L0 q))) λy=>Yx (show RetAt prog W 169 #[nA (dN (Ke M n q1.1)),nA (dN (F6 M n q1.1))] (nA (dN (Ke M n (q1.1+1))))from⟨λa w=>call169 a w,λt r=>(by rw[Im];have e0:F6 M n q1.1=sO q1.1 (F6 M n q1.1):=(by unfold sO;rw[if_neg (by have:=of_decide_eq_false (p:=((q1.1 % 2:Nat):Int)=1) (l3 y);omega)]);rw[show dN (F6 M n q1.1)=dN (sO q1.1 (F6 M n q1.1))from Lu dN e0];exact KE t (WC (Dz hn hM.db q1.1 x3) (x8 (Z8 hn hLT))) (WC (Ga q1.1 (IF hM hn q1.1)) (x8 (Z8 hn hLT))) (Dz hn hM.db q1.1 x3) (Ga q1.1 (IF hM hn q1.1)) (x8 (Z8 hn hLT)))⟩) (QD q1.1 x3) (qV (Ω A N c)) (qI ((((q1.1+1,none,0):Nat×Hp).1:Nat):Int)) (qk F) (qB ((HJu M n q1).b)) (qS ((HJu M n q1).s)) (qI ((HJu M n q1).e))<|ai (show q1.1+1<=N from Qt q) (show N-(q1.1+1)<N-q1.1 from x8 (L0 q))) λq=>(show(nA (dN (Ke M n q1.1)):y9)=nA (dN (K4 (n+1) (Di M)))from by rw[show q1.1=n+1 from x8 (L1 q)];rfl)) (λi J=>⟨(G i J).1,(G i J).2.1,(G i J).2.2.below (λ_=>rfl) K⟩)
def bN{A:xN}{c:Nat}(w:xH):RetAt prog w 125 #[Ω A 0 c] (nA (dN (dy 1 0))) :=
 rk [.br true,x04 2 0 (.agg [bV ((dN (dy 1 0)).b),sV ((dN (dy 1 0)).s),iV ((dN (dy 1 0)).e)])] λW a d=>X0 (show(((0:Nat):Int)==0)=true from rfl) (rc W call171 λW=>bI 1 W x4 x4)<|(show(nA (dN (dy 1 0)):y9)=nA (dN (dy 1 0))from rfl)
def Iv{L T:Nat}(hLT:(L+T+8)*8<=1000000):∀(n:Nat),n<=8->∀(M:Nat->Nat->Nm),okM L T M->∀(m:Nat) (B:xN) (d:Nat) (W:xH) (x:y9) (S:Nat->Prop),m=n->(G4 43 3 Xk ((List.range m).map λi=>(List.range m).map (M i)) B d).φ x S W->xP prog 125 #[.slice B ((List.range m).map λi=>(List.range m).map (M i)).length d] W (nA (dN (K4 n (Di M))))
 |0,_,M,_,m,B,d,W,x,S,f,g=>by
  subst f;exact(bN W).2 W (p5 _ _)
 |n+1,hn,M,hM,m,B,d,W,x,S,f,g=>by
  subst f;have h:=QbU Xx nm0 g;have r:((List.range (n+1)).map λi=>(List.range (n+1)).map (M i)).length=n+1:=x6;rw[r]at h;obtain⟨b,off,rfl,u⟩:=h (Sw _);have v:∀i,i<n+1->((List.range (n+1)).map λi=>(List.range (n+1)).map (M i)).getD i []=(List.range (n+1)).map (M i):=λi a=>by
   rw[YZ (by rw[r];exact a)];simp
  have key:∀i,∃(A:xN) (c:Nat),i<n+1->n+1<=c/\(A=none->n+1=0/\c=0)/\W.cell? ⟨b,off+i,none⟩=some (.slice A (n+1) c)/\RdK W A (n+1) 3 (λj=>Xk (M i j)):=λi=>by
   by_cases a:i<n+1
   ·let⟨A,c,k1,o,p,q⟩:=u i a;dsimp only at k1 o p q;rw[v i a]at k1 o p q;have l:((List.range (n+1)).map (M i)).length=n+1:=x6;rw[l]at k1 o p q;exact⟨A,c,λ_=>⟨k1,o,p,q.congr λj s=>by rw[YZ (by rw[l];exact s)];simp⟩⟩
   ·exact⟨none,0,λh=>absurd h a⟩
  rw[r];exact(bT (λi=>Classical.choose (key i)) (λi=>Classical.choose (Lq (key i))) rfl hM hLT hn W (λ_=>⟨b,off,rfl,λi a j s=>by
    obtain rfl:j=0:=x3;rw[Sz,T9];exact(Lq (Lq (key i)) a).2.2.1⟩)
   (λi a=>have h:=Lq (Lq (key i)) a;⟨h.1,h.2.1,h.2.2.2⟩)
   (λk m B d W x S f g=>by
    have h:=Iv hLT n x3 (ou k M) (hM.mn k) m B d W x S f (by rw[f]at g ⊢;exact g);rw[show Di (ou k M)=sn 0 k (Di M)from rfl]at h;rw[f]at h ⊢;exact h)).2 W (p5 _ _)
section
variable{κ:List (List Nm)}{N:Nat}(hpN:κ.length=N+1)(hpl:∀j,j<N+1->(Qu κ j).length=N)(hok:∀p,p∈κ->∀x,x∈p->okS x)
include hpN hpl hok
omit hpN hpl in
theorem Mr(i j:Nat):∃x,Ht κ i j=dN x/\DB 200 361 x:=by
 have a:∀i j,DB 200 360 (nv (Xm (Qu κ i) j)):=λi j=>by
  by_cases b:i<κ.length
  ·by_cases c:j<(Qu κ i).length
   ·exact(hok _ (Ka b) _ (KU c)).db
   ·have e:Xm (Qu κ i) j=nm0:=by unfold Xm;rw[List.getD,a8 x3];rfl
    rw[e];exact nm0_ok.db
  ·have e:Qu κ i=[]:=by unfold Qu;rw[List.getD,a8 x3];rfl
   rw[e];exact nm0_ok.db
 exact⟨_,rfl,zy (a _ _) (a _ _)⟩
omit hpN hpl in
theorem Uu:okM 200 361 (Ht κ):=by
 refine⟨λi j=>?_,λi j=>?_,λi j=>?_⟩
 ·let⟨x,e,h⟩:=Mr hok i j;unfold Di;rw[e,QcW h x4];exact WC h x4
 ·let⟨x,e,h⟩:=Mr hok i j;rw[e];have:=(G8 h).1;show -1000000<=de x;omega
 ·let⟨x,e,h⟩:=Mr hok i j;unfold Di;rw[e,QcW h x4];exact h
theorem Uq:(K4 N (Di (Ht κ)))=(K4 N (DR κ N)):=bQ λi j a b=>by
 rw[wV hpN hpl hok a b];exact QcW (xZ hpN hpl hok a b) x4
end
abbrev HJx:Nat×Hp:=(0,none,0)
abbrev HJy(q1:Nat×Hp)(κ:List (List Nm))(N:Nat):=(List.range q1.1).map (Co κ N)
abbrev HJz(d:Nat×Hp)(κ:List (List Nm))(q1:Nat×Hp):=(List.range (d.1+1)).map (Ht κ q1.1)
abbrev HJA(q1:Nat×Hp)(κ:List (List Nm))(N:Nat):=(List.range (q1.1+1)).map (Co κ N)
abbrev HJB:=List.range (HJx.1)
def iX{cs:Nat}(C:N<=8)(D:N+1<=cs)(hpN:κ.length=N+1)(hpl:∀j,j<N+1->(Qu κ j).length=N)(hok:∀p,p∈κ->∀x,x∈p->okS x)(w:xH)(E:RdK w As (N+1) 1 (λj=>[Ω (Au j) N (cu j)]))(F:∀j,j<N+1->RdK w (Au j) N 3 (λk=>Xk (Xm (Qu κ j) k))):RetAt prog w 81 #[Ω As (N+1) cs] (nA (dN (K4 N (DR κ N)))) :=
 let t:OB:=some (32,[bV false,sV ⟨#[]⟩,iV 0]);rk [.nil 3 99999 43 1 xX,.cnv 3 99999 0 (G4 43 3 Xk ((List.range 0).map (Co κ N)) none 0),YE (λ(q1:Nat×Hp)=>(⟨45,[(0,lV As (N+1) cs),(2,.ptr 0 0),(3,lV q1.2.1 ((HJy q1 κ N)).length q1.2.2),(4,iV ((q1.1+1:Nat):Int))],[none],[some (G4 43 3 Xk (HJy q1 κ N) q1.2.1 q1.2.2)]⟩:St)) N HJx (λ(q1:Nat×Hp)=>[.both [.nil 7 99999 32 3 Xk,YE (λ(d:Nat×Hp)=>(⟨45,[(0,lV As (N+1) cs),(2,.ptr 0 0),(3,lV q1.2.1 ((HJy q1 κ N)).length q1.2.2),(4,iV ((q1.1+1:Nat):Int)),(5,lV d.2.1 (((List.range d.1).map (Ht κ q1.1))).length d.2.2),(6,iV (d.1:Int))],[none],[none,some (Qc 32 3 Xk ((List.range d.1).map (Ht κ q1.1)) d.2.1 d.2.2)]⟩:St)) N HJx (λ(d:Nat×Hp)=>[x03 7 3 (.pointer (some (Q5 As ((q1.1+1)*1+0)))),x03 7 4 (Ω (Au (q1.1+1)) N (cu (q1.1+1))),.both [.reg 16 [],x03 9 3 (.pointer (some (Q5 As ((q1.1+1)*1+0)))),x03 9 4 (Ω (Au (q1.1+1)) N (cu (q1.1+1))),x03 9 6 (.pointer (some (Q5 (Au (q1.1+1)) (d.1*3+0)))),x03 9 7 (nA (Xm (Qu κ (q1.1+1)) d.1)),x03 9 9 (.pointer (some (Q5 As (0*1+0)))),x03 9 10 (Ω (Au 0) N (cu 0)),x03 9 12 (.pointer (some (Q5 (Au 0) (d.1*3+0)))),x03 9 13 (nA (Xm (Qu κ 0) d.1)),x04 9 14 (.agg [bV ((Ht κ q1.1 d.1).b),sV ((Ht κ q1.1 d.1).s),iV ((Ht κ q1.1 d.1).e)]),x08 9 16 1 (λ(g:Hp)=>(Ω g.1 ((HJz d κ q1)).length g.2,Qc 32 3 Xk (HJz d κ q1) g.1 g.2,[x05 8 1 (iV ((d.1+1:Nat):Int)),.nxt [g]]))] [.join 10 3 0 1,x08 10 3 0 (λ(g:Hp)=>(Ω g.1 ((HJA q1 κ N)).length g.2,G4 43 3 Xk (HJA q1 κ N) g.1 g.2,[x05 4 1 (iV ((q1.1+1+1:Nat):Int)),.nxt [g]]))]])] [.o 11 1 (.retr [0] (nA (dN (K4 N (DR κ N)))))]])] λW z J=>have r:=E.up z (λ_=>rfl);(λ(u:∀j,j<N+1->RdK W (Au j) N 3 (λk=>Xk (Xm (Qu κ j) k)))=>Vv (show ∀(x:y9) (S:Nat->Prop) (w:xH),(Qc 43 1 xX ([]:o3) none 0).φ x S w->(G4 43 3 Xk ((List.range 0).map (Co κ N)) none 0).φ x S w from wX _ 3 Xk _) (qV (Ω As (N+1) cs)) (qV (Ω HJx.2.1 ((HJB.map (Co κ N))).length HJx.2.2)) (qI ((HJx.1+1:Nat):Int)) (qk t) (Yq (G4 43 3 Xk ((List.range 0).map (Co κ N)) none 0) (G4 43 3 Xk (HJB.map (Co κ N)) HJx.2.1 HJx.2.2) λ_ _ _ h=>h)<|ai (show 0<=N from L7 _) λ(q1:Nat×Hp) (G:(q1.1<=N))=>Xi (decide (((q1.1+1:Nat):Int)<(((N+1):Nat):Int))) (λf=>Yx (qV (Ω As (N+1) cs)) (qV (Ω q1.2.1 ((HJy q1 κ N)).length q1.2.2)) (qI ((q1.1+1:Nat):Int)) (qV (Ω HJx.2.1 ((HJB.map (Ht κ q1.1))).length HJx.2.2)) (qI ((HJx.1:Nat):Int)) (qk t) (XR (G4 43 3 Xk (HJy q1 κ N) q1.2.1 q1.2.2)) (Yq (Qc 32 3 Xk ([]:List Nm) none 0) (Qc 32 3 Xk (HJB.map (Ht κ q1.1)) (HJx.2.1) (HJx.2.2)) λ_ _ _ h=>h)<|ai (show 0<=N from L7 _) λ(d:Nat×Hp) (H:(d.1<=N))=>X0 (Zy cs r (q1.1+1) (Uy (show q1.1<N from x8 (L0 f)))) (J6 r (q1.1+1) 0 (Uy (show q1.1<N from x8 (L0 f))) x4 rfl)<|Xi (decide ((d.1:Int)<(N:Int))) (λq=>Yx (Zy cs r (q1.1+1) (Uy (show q1.1<N from x8 (L0 f)))) (J6 r (q1.1+1) 0 (Uy (show q1.1<N from x8 (L0 f))) x4 rfl) (Es (cu (q1.1+1)) (u (q1.1+1) (Uy (show q1.1<N from x8 (L0 f)))) d.1 (Qt q)) (JW (u (q1.1+1) (Uy (show q1.1<N from x8 (L0 f)))) d.1 0 (Qt q) x4 rfl rfl) (Zy cs r 0 (Sw N)) (J6 r 0 0 (Sw N) x4 rfl) (Es (cu 0) (u 0 (Sw N)) d.1 (Qt q)) (JW (u 0 (Sw N)) d.1 0 (Qt q) x4 rfl rfl)<|ai (show RetAt prog W 124 #[nA (Xm (Qu κ (q1.1+1)) d.1),nA (Xm (Qu κ 0) d.1)] (nA (Ht κ q1.1 d.1))from⟨λa w=>call124 a w,λv y=>CF v (hok _ (Ka (show q1.1+1<κ.length by rw[hpN];have:=L0 f;omega)) _ (KU (show d.1<(Qu κ (q1.1+1)).length by rw[hpl (q1.1+1) (x8 (L0 f))];exact(Qt q)))).nd (hok _ (Ka (show 0<κ.length by rw[hpN];omega)) _ (KU (show d.1<(Qu κ 0).length by rw[hpl 0 x3];exact(Qt q)))).nd (hok _ (Ka (show q1.1+1<κ.length by rw[hpN];have:=L0 f;omega)) _ (KU (show d.1<(Qu κ (q1.1+1)).length by rw[hpl (q1.1+1) (x8 (L0 f))];exact(Qt q)))).db (hok _ (Ka (show 0<κ.length by rw[hpN];omega)) _ (KU (show d.1<(Qu κ 0).length by rw[hpl 0 x3];exact(Qt q)))).db x4⟩)<|ai (YJ W 43 32 1 1 Xk ((List.range d.1).map (Ht κ q1.1)) ([Ht κ q1.1 d.1]) (HJz d κ q1) d.2.1 d.2.2 ([Ξ ((Ht κ q1.1 d.1).b),Ψ ((Ht κ q1.1 d.1).s),Θ ((Ht κ q1.1 d.1).e)]) ZY Xx Gn (yE (Ht κ q1.1) d.1) (show(((List.range (d.1+1)).map (Ht κ q1.1))).length*32<=140737488355328 from by rw[Rg,Sb];have:=L0 q;omega) rfl rfl) λ(g:Hp)=>Yx (QD d.1 x3) (qV (Ω As (N+1) cs)) (qV (Ω q1.2.1 ((HJy q1 κ N)).length q1.2.2)) (qI ((q1.1+1:Nat):Int)) (qV (Ω g.1 ((HJz d κ q1)).length g.2)) (qI (((d.1+1):Nat):Int)) (qk t) (XR (G4 43 3 Xk (HJy q1 κ N) q1.2.1 q1.2.2))<|ai (Yq (Qc 32 3 Xk (HJz d κ q1) g.1 g.2) (Qc 32 3 Xk (HJz d κ q1) g.1 g.2) λ_ _ _ h=>h)<|ai (show d.1+1<=N from Qt q) (show N-(d.1+1)<N-d.1 from x8 (L0 q))) λq=>ai (qW W 165 32 43 1 (HJy q1 κ N) (HJA q1 κ N) ((List.range d.1).map (Ht κ q1.1)) (Co κ N q1.1) q1.2.1 d.2.1 q1.2.2 d.2.2 M7 Xx (show((List.range d.1).map (Ht κ q1.1))=Co κ N q1.1 from by rw[(show d.1=N from x8 (L1 q))];rfl) (yE (Co κ N) q1.1) (show(((List.range (q1.1+1)).map (Co κ N))).length*24<=140737488355328 from by rw[Rg,Sb];have:=L0 f;omega)) λ(g:Hp)=>Vv (QD (q1.1+1) x3) (qV (Ω As (N+1) cs)) (qV (Ω g.1 ((HJA q1 κ N)).length g.2)) (qI (((q1.1+1)+1:Nat):Int)) (qk t) (Yq (G4 43 3 Xk (HJA q1 κ N) g.1 g.2) (G4 43 3 Xk (HJA q1 κ N) g.1 g.2) λ_ _ _ h=>h)<|ai (show q1.1+1<=N from x8 (L0 f)) (show N-(q1.1+1)<N-q1.1 from x8 (L0 f))) λf=>ai (show Cv prog W [G4 43 3 Xk ((List.range q1.1).map (Co κ N)) q1.2.1 q1.2.2] 125 #[Ω q1.2.1 (((List.range q1.1).map (Co κ N))).length q1.2.2] (nA (dN (K4 N (DR κ N))))from⟨λa w=>call125 a w,λv y x S B=>(by have e:q1.1=N:=(x8 (L1 f));rw[e]at B ⊢;rw[<- Uq hpN hpl hok];exact Iv x4 N C (Ht κ) (Uu hok) N _ _ v x S rfl B)⟩)<|(show(nA (dN (K4 N (DR κ N))):y9)=nA (dN (K4 N (DR κ N)))from rfl)) (λj I=>(F j I).below (λ_=>rfl) z)
def fe{cs:Nat}(hpN:κ.length=N+1)(hpl:∀j,j<N+1->(Qu κ j).length=N)(a:1<=N)(b:N<=8)(d:RdK w As (N+1) 1 (λj=>[.slice (Au j) N (cu j)])):RetAt prog w 80 #[.slice As (N+1) cs] (.int .i64 (N:Int)):=by
 have h:=iZ As cs κ Au cu x3 w (by rw[hpN];exact d.congr λj e=>by show _=[Value.slice (Au j) (Qu κ j).length (cu j)];rw[hpl j e]);rw[hpN,xg hpN hpl a b]at h;exact h
def nI(hpN:κ.length=N+1)(hpl:∀j,j<N+1->(Qu κ j).length=N)(hok:∀p,p∈κ->∀x,x∈p->okS x)(a:N<=8):DB (200*N) ((361+8)*N+1) (K4 N (DR κ N)):=by
 rw[<- Uq hpN hpl hok];exact Gd N _ a λi j=>(Uu hok).db i j
def Nh{cs:Nat}(a:N<=8)(c:N+1<=cs)(hpN:κ.length=N+1)(hpl:∀j,j<N+1->(Qu κ j).length=N)(hok:∀p,p∈κ->∀x,x∈p->okS x)(l:1<=N)(w:xH)(m:RdK w As (N+1) 1 (λj=>[Ω (Au j) N (cu j)]))(n:∀j,j<N+1->RdK w (Au j) N 3 (λk=>Xk (Xm (Qu κ j) k))):RetAt prog w 40 #[Ω As (N+1) cs] (Θ (eE κ N)) :=
 have f:=eI (eE κ N);rk [x04 1 1 (iV (N:Int)),.br false,x04 3 1 (.agg [bV ((dN (K4 N (DR κ N))).b),sV ((dN (K4 N (DR κ N))).s),iV ((dN (K4 N (DR κ N))).e)]),x04 3 2 (iV (GP (nv (dN (K4 N (DR κ N)))))),.both [] []] λW g t=>have i:=m.up g (λ_=>rfl);(λ(q:∀j,j<N+1->RdK W (Au j) N 3 (λk=>Xk (Xm (Qu κ j) k)))=>Ky (fe (cs:=cs) hpN hpl l a i) (show((N:Int)==0)=false from Lp.2 x3) (iX a c hpN hpl hok W i q) (rc W call77 λW=>XD (dN (K4 N (DR κ N))).s (dN (K4 N (DR κ N))).b (dN (K4 N (DR κ N))).e W (by have h:=(WC (nI hpN hpl hok a) x3).size;exact L6 h x4))<|Xi ((GP (nv (dN (K4 N (DR κ N)))))==0) (λd=>(f 5 (by unfold eE sg;rw[d];rfl))) λd=>(f 0 (by unfold eE sg;rw[d];rfl))) (λj r=>(n j r).below (λ_=>rfl) g)
def Nj(hpN:κ.length=N+1)(hpl:∀j,j<N+1->(Qu κ j).length=N)(hok:∀p,p∈κ->∀x,x∈p->okS x)(a:1<=N)(b:N<=8)(w:xH)(h:SlV lo 1 (kz lo) w κ v):RetAt prog w 40 #[v] (.int .i64 (eE κ N)):=by
 obtain⟨As,cs,Au,cu,rfl,k1,c,d,_⟩:=pJ hpN hpl h;exact Nh b k1 hpN hpl hok a w c d
structure smallX (x:PV):Prop where
 box:x.box.length<=1048576
 κ:x.κ.length<=1048576
 ps:x.ps.length<=1048576
 θ:x.θ.length<=1048576
 ι:x.ι.length<=1048576
 pt:∀p,p∈x.κ->p.length<=1048576
 p:∀p,p∈x.ps->p.ts.length<=1048576
 rule:∀p,p∈x.θ->p.ts.length<=1048576
 node:∀p,p∈x.ι->p.sum.ts.length<=1048576
 mono:∀p,p∈KK x->∀t,t∈p.ts->t.m.size<=1048576
 hv:-9223372036854775808<=x.vars/\x.vars<=9223372036854775807
def rH(a:List Py)(k:Nat):Nat:=((a.take k).map (λp:Py=>p.ts.length)).sum
def sM(x:PV):List Nm:=Qk x.ν x.ε x.box x.κ x.ι++(KK x).flatMap λp=>p.ts.map (λt:Tm=>t.c)
def CH(x:PV):Bool :=
 bif decide ((x.box.length:Int)>6)then true else bif decide ((x.κ.length:Int)>6)then true else bif decide (((x.ps.length+x.θ.length:Nat):Int)>20)then true else bif decide ((x.ι.length:Int)>100)then true else
 bif XQ (KK x).length (λi=>decide (((rH (KK x) (i+1):Nat):Int)>300))then true else bif XQ (sM x).length (λi=>KD (List.getD (sM x) i nm0))then true else XQ x.κ.length (λj=>decide ((((Qu x.κ j).length:Nat):Int)>6))
theorem rI(a:List QQ)(k:Nat):YT a k=rH (a.map λx:QQ=>x.1) k:=by
 unfold YT rH;rw[<- List.map_take,List.map_map];rfl
def EB(f:Nat->α)(g:Nat->β)(n:Nat):((List.range n).map λj=>(f j,g j)).map (λx=>x.1)=(List.range n).map f:=by
 simp
theorem Vn(f:Nat->α)(d:α){n:Nat}(h:j<n):((List.range n).map f).getD j d=f j:=by
 grind
theorem FM(l:List α)(d:α):(List.range l.length).map (λj=>l.getD j d)=l:=by
 apply List.ext_getElem?
 grind
section
variable{lo:Nat}{x:PV}{Ab As Ap Ar Ac:xN}{cb cs kp kr cc:Nat}
theorem sb(d:smallX x)(w:xH)(q:Five lo w x (.slice Ab x.box.length cb) (.slice As x.κ.length cs) (.slice Ap x.ps.length kp) (.slice Ar x.θ.length kr) (.slice Ac x.ι.length cc)):RetAt prog w 4 #[xA x Ab cb As cs Ap kp Ar kr Ac cc] (.bool (CH x)):=by
 let⟨G,H,I,J,K,L,M,N,O,P,r,f,g,i,u,up,h,j,q1,v,z,A,B,k⟩:=Fo q;obtain⟨rfl,_,rfl⟩:=Ng q1;obtain⟨rfl,_,rfl⟩:=Ng v;obtain⟨rfl,_,rfl⟩:=Ng z;obtain⟨rfl,_,rfl⟩:=Ng A;obtain⟨rfl,_,rfl⟩:=Ng B;have a:=TG (x:=x) (Up:=f) (Ur:=g) (Uc:=i) (up:=up) (ur:=h) (uc:=j);have m:(C4 (BJ x.ps f up) (BJ x.θ g h) x.ι i j).length=(KK x).length:=by rw[<- a,Rg]
 have l:∀y,y∈C4 (BJ x.ps f up) (BJ x.θ g h) x.ι i j->y.1.ts.length<=1048576:=λy C=>by
  have e:y.1∈KK x:=by rw[<- a];exact Lv.2 ⟨y,C,rfl⟩
  unfold KK at e;simp only[Lo,Lv]at e;rcases e with(e|e)|⟨n,e,D⟩
  ·exact d.p _ e
  ·exact d.rule _ e
  ·rw[<- D];exact d.node _ e
 have o:=Qb9 lo Ap Ar cb cs cc kp kr r i u j x.ν x.ε x.box x.κ x.ι x.δ x.vars x.ζ (BJ x.ps f up) (BJ x.θ g h) rfl rfl ⟨d.box,d.κ,d.pt,d.ι⟩ (by rw[JM];exact d.ps) (by rw[JM];exact d.θ) l w k.b k.s k.sp k.c k.q1 k.r1 k.X;have E:(C4 (BJ x.ps f up) (BJ x.θ g h) x.ι i j).flatMap (λp=>p.1.ts.map (λt:Tm=>t.c))=(KK x).flatMap λp=>p.ts.map (λt:Tm=>t.c):=by rw[<- a,List.flatMap_map]
 have F:Dm x.box.length x.κ.length (BJ x.ps f up).length (BJ x.θ g h).length x.ι.length (C4 (BJ x.ps f up) (BJ x.θ g h) x.ι i j) (Qk x.ν x.ε x.box x.κ x.ι++(C4 (BJ x.ps f up) (BJ x.θ g h) x.ι i j).flatMap λp=>p.1.ts.map (λt:Tm=>t.c)) x.κ=CH x:=by
  grind[Dm,CH,sM,rI,JM]
 rw[F,JM,JM]at o;exact o
end
theorem mU{x:Nm}(h:KD x=false):okN x:=by
 unfold KD at h;simp only[Rf,decide_eq_false_iff_not]at h;exact⟨x3,x3,x3⟩
theorem jd{n:Nat}{f:Nat->Bool}(h:XQ n f=false)(a:j<n):f j=false:=by
 cases e:f j with
 |false=>rfl
 |true=>rw[anyB_iff.2 ⟨j,a,e⟩]at h;cases h
theorem xv{x:PV}(h:CH x=false):∀a,a∈sM x->okN a:=by
 grind[CH,Th,jd,mU]
def RE{x:PV}(b:smallX x)(h:CH x=false):okX x:=by
 have hn:=xv h;have c:∀p,p∈KK x->p.ts.length<=1048576->okP p:=λp c e=>⟨L6 e x4,λt d=>⟨b.mono p c t d,hn _ (Vb _ (Sa.2 ⟨p,c,Lv.2 ⟨t,d,rfl⟩⟩))⟩⟩
 exact⟨⟨⟨b.box,b.κ,b.pt,b.ι⟩,b.hv,b.ps,b.θ,λp h=>c p (V6 _ (V6 _ h)) (b.p p h),λp h=>c p (V6 _ (Vb _ h)) (b.rule p h),λp h=>c p.sum (Vb _ (Lv.2 ⟨p,h,rfl⟩)) (b.node p h),λa f=>hn a (V6 _ f)⟩⟩
def mE{l:List PA}(h:j<(l.map (λx=>x.1)).length):(l.map (λx=>x.1))[j]=(l.getD j ZA).1:=by
 rw[V4,Yi (l3 h)]
def E3{l:List QQ}(h:j<(l.map (λx=>x.1)).length):(l.map (λx=>x.1))[j]=(l.getD j XM).1:=by
 rw[V4,Yi (l3 h)]
def WA{l:List Pz}(h:j<(l.map (λx=>x.1)).length):(l.map (λx=>x.1))[j]=(l.getD j Q1).1:=by
 rw[V4,Yi (l3 h)]
def XW{l:List α}(d:α)(h:j<l.length):l.getD j d∈l:=by
 rw[Yi h];exact Rr h
section
variable{lo:Nat}{x:PV}{Ab As Ap Ar Ac:xN}{cb cs kp kr cc:Nat}
structure OwnH (x:PV) (w:World) (Ab As Ap Ar Ac:Option Addr) (cb cs kp kr cc:Nat) (p1:List PA) (l1 l2:List QQ) (nd:List Pz):Prop where
 e0:p1.length=x.κ.length
 e1:l1.length=x.ps.length
 e2:l2.length=x.θ.length
 e3:nd.length=x.ι.length
 m0:p1.map (λx:PA=>x.1)=x.κ
 m1:l1.map (λx:QQ=>x.1)=x.ps
 m2:l2.map (λx:QQ=>x.1)=x.θ
 m3:nd.map (λx:Pz=>x.1)=x.ι
 bs:p1.length<=1048576
 bp:∀x,x∈p1->x.1.length<=1048576
 bq:l1.length<=1048576
 bt:∀x,x∈l1->x.1.ts.length<=1048576
 bu:l2.length<=1048576
 bv:∀x,x∈l2->x.1.ts.length<=1048576
 bc:nd.length<=1048576
 bn:∀x,x∈nd->x.1.sum.ts.length<=1048576
 hb:Rw w 6 JR (nm0,nm0) x.box Ab cb
 hs:Rw w 1 mC ZA p1 As cs
 hp:∀x,x∈p1->Rw w 3 Xk nm0 x.1 x.2.1 x.2.2
 hq:Rw w 2 Zn XM l1 Ap kp
 hqs:∀x,x∈l1->Rw w 4 QK Bp x.1.ts x.2.1 x.2.2
 hu:Rw w 2 Zn XM l2 Ar kr
 hus:∀x,x∈l2->Rw w 4 QK Bp x.1.ts x.2.1 x.2.2
 hc:Rw w 6 kh Q1 nd Ac cc
 hcs:∀x,x∈nd->Rw w 4 QK Bp x.1.sum.ts x.2.1 x.2.2
def U3(f:smallX x)(w:xH)(G:Five lo w x (.slice Ab x.box.length cb) (.slice As x.κ.length cs) (.slice Ap x.ps.length kp) (.slice Ar x.θ.length kr) (.slice Ac x.ι.length cc)):∃g i k nd,OwnH x w Ab As Ap Ar Ac cb cs kp kr cc g i k nd:=by
 let⟨δ,vars,box,κ,m,a,H,s,n,d⟩:=x;let⟨I,J,K,L,M⟩:=G;let⟨A1,c1,q1,_,nb,N⟩:=SlV.enc (nm0,nm0) I;let⟨A2,c2,y,z,O,_,P,Q,R⟩:=SlV.rdPt2 J;let⟨A3,c3,B,up,S,_,T,U,t⟩:=SlV.rdPy2 K;let⟨A4,c4,C,D,V,_,W,X,u⟩:=SlV.rdPy2 L;let⟨A5,c5,E,F,Y,_,Z,hC,hN⟩:=SlV.rdNd2 M;obtain⟨rfl,_,rfl⟩:=Ng q1;obtain⟨rfl,_,rfl⟩:=Ng O;obtain⟨rfl,_,rfl⟩:=Ng S;obtain⟨rfl,_,rfl⟩:=Ng V;obtain⟨rfl,_,rfl⟩:=Ng Y;let g:List PA:=(List.range κ.length).map λj=>(Qu κ j,y j,z j)
 let i:List QQ:=(List.range m.length).map λj=>(QM m j,B j,up j)
 let k:List QQ:=(List.range a.length).map λj=>(QM a j,C j,D j)
 let nd:List Pz:=(List.range d.length).map λj=>(Qn d j,E j,F j)
 have e0:g.length=κ.length:=by simp[g]
 have o:i.length=m.length:=by simp[i]
 have q:k.length=a.length:=by simp[k]
 have r:nd.length=d.length:=by simp[nd]
 have m0:g.map (λx:PA=>x.1)=κ:=(EB _ _ _).trans (FM κ []);have m1:i.map (λx:QQ=>x.1)=m:=(EB _ _ _).trans (FM m NU);have m2:k.map (λx:QQ=>x.1)=a:=(EB _ _ _).trans (FM a NU);have m3:nd.map (λx:Pz=>x.1)=d:=(EB _ _ _).trans (FM d Eh);have key:∀(l:List Tm) (A:xN) (c:Nat),SlV lo 4 Ye w l (.slice A l.length c)->Rw w 4 QK Bp l A c:=λl A c hh=>by
  let⟨A',c',e,_,hn,v⟩:=SlV.enc Bp hh;obtain⟨rfl,_,rfl⟩:=Ng e;exact⟨v,hn⟩
 exact⟨g,i,k,nd,e0,o,q,r,m0,m1,m2,m3,(by rw[e0];exact f.κ),(λx h=>by obtain⟨j,b,rfl⟩:=Lv.1 h;exact f.pt _ (Ka (R7.1 b))),(by rw[o];exact f.ps),(λx h=>by obtain⟨j,b,rfl⟩:=Lv.1 h;exact f.p _ (VK (R7.1 b))),(by rw[q];exact f.θ),(λx h=>by obtain⟨j,b,rfl⟩:=Lv.1 h;exact f.rule _ (VK (R7.1 b))),(by rw[r];exact f.ι),(λx h=>by obtain⟨j,b,rfl⟩:=Lv.1 h;exact f.node _ (DK (R7.1 b))),
  ⟨N,nb⟩,⟨by rw[e0];exact Q.congr λj b=>by rw[show g.getD j ZA=(Qu κ j,y j,z j)from Vn _ _ b];rfl,by rw[e0];exact P⟩,(λx h=>by
   obtain⟨j,b,rfl⟩:=Lv.1 h;let⟨A',c',e,_,hn,v⟩:=SlV.enc nm0 (R j (R7.1 b));obtain⟨rfl,_,rfl⟩:=Ng e;exact⟨v,hn⟩),
  ⟨by rw[o];exact U.congr λj b=>by rw[show i.getD j XM=(QM m j,B j,up j)from Vn _ _ b];rfl,by rw[o];exact T⟩,(λx h=>by obtain⟨j,b,rfl⟩:=Lv.1 h;exact key _ _ _ (t j (R7.1 b))),
  ⟨by rw[q];exact X.congr λj b=>by rw[show k.getD j XM=(QM a j,C j,D j)from Vn _ _ b];rfl,by rw[q];exact W⟩,(λx h=>by obtain⟨j,b,rfl⟩:=Lv.1 h;exact key _ _ _ (u j (R7.1 b))),
  ⟨by rw[r];exact hC.congr λj b=>by rw[show nd.getD j Q1=(Qn d j,E j,F j)from Vn _ _ b];rfl,by rw[r];exact Z⟩,(λx h=>by obtain⟨j,b,rfl⟩:=Lv.1 h;exact key _ _ _ (hN j (R7.1 b)))⟩
end
def Az(l:List PA):LP:=VU 32 3 Xk (λ_=>[]) (λi=>(List.getD l i ZA).1)
def AE(l:List QQ):LP:=VU 51 4 QK (λi=>[.int .i64 (List.getD l i XM).1.vars]) (λi=>(List.getD l i XM).1.ts)
def PG(l:List Pz):LP:=VU 51 4 QK (λi=>[.int .i64 (List.getD l i Q1).1.split,.bool (List.getD l i Q1).1.ο.b,.string (List.getD l i Q1).1.ο.s,.int .i64 (List.getD l i Q1).1.ο.e,.int .i64 (List.getD l i Q1).1.sum.vars]) (λi=>(List.getD l i Q1).1.sum.ts)
def FZ{A:xN}(ca:Nat)(vars:Int)(z:l.length<=1048576)(w:xH)(q:Rw w 4 QK Bp l A ca):NewIn prog w [] 14 #[.agg #[.int .i64 vars,.slice A l.length ca]] (λ(y:Hp)=>Value.agg #[.int .i64 vars,.slice y.1 l.length y.2]) (λ(y:Hp)=>Zx 51 4 QK l y.1 y.2) :=
 QaL (β:=Hp) Qm QU (λa w=>call14 a w) func14 ntmps14 results14 _ rfl _ _ (λs σ=>∃y:Hp,s=.agg [iV vars,lV y.1 l.length y.2]/\Xq σ.rs 5=some (Zx 51 4 QK l y.1 y.2)) [.reg 7 [],.o 1 5 (.nb (.han 5) (λ(y:Hp)=>Value.slice y.1 (l).length y.2) (λ(y:Hp)=>Zx 51 4 QK l y.1 y.2)),.opn 1 7 5 (λ(f:Hp)=>.slice f.1 l.length f.2) (λ(f:Hp)=>Zx 51 4 QK l f.1 f.2) (λ(f:Hp)=>[])] (λW t=>have j:=q.below Q4 t;X0 (λ(k:xH) (i:Below W.heap.size W k) (g:Nat) (_:Bx k g 51 #[])=>sP 45 QK l XN Q4 K2 (show(l).length*48<=140737488355328 from x3) (GM Q4 x4 Bp (j.1.below (λ_=>rfl) i) j.2) g) (show ∀y:Hp,(Value.slice y.1 (l).length y.2:y9).oneCell'=true from λ_=>rfl)<|ai (show qg (HW (λ(y:Hp)=>Value.slice y.1 (l).length y.2) (λ(y:Hp)=>Zx 51 4 QK l y.1 y.2)) (λ(y:Hp)=>.slice y.1 l.length y.2) (λ(y:Hp)=>Zx 51 4 QK l y.1 y.2)from Aw λy x B S w u h=>l5 u h) λ(f:Hp)=>(show ∃y:Hp,(.agg [iV vars,lV f.1 l.length f.2]:SV)=.agg [iV vars,lV y.1 l.length y.2]/\some (Zx 51 4 QK l f.1 f.2)=some (Zx 51 4 QK l y.1 y.2)from⟨f,rfl,rfl⟩)) (λW=>x5) (λW s σ v r a C m=>by
  obtain⟨y,rfl,e⟩:=v;have n:=m.see.rs _ _ e;exact⟨y,_,_,rfl,n.1,λb p=>⟨m.sep.ownS _ _ e b p,n.2 b p⟩⟩)
abbrev HJC:Nat×Hp:=(0,(none,0))
abbrev HJD(b:List PA)(q1:Nat×Hp):=List.getD b q1.1 ZA
def fq{cs:Nat}{b:List PA}(v:b.length<=1048576)(m:∀x,x∈b->x.1.length<=1048576)(w:xH)(z:Rw w 1 mC ZA b As cs)(B:∀x,x∈b->Rw w 3 Xk nm0 x.1 x.2.1 x.2.2):NewIn prog w [] 13 #[Ω As b.length cs] (λ(y:Hp)=>Ω y.1 b.length y.2) (λ(y:Hp)=>Qx 52 1 b.length (Az b) y.1 y.2) :=
 Bf Hp Qm QU (λa w=>call13 a w) func13 ntmps13 results13 _ rfl 0 _ _ [.nil 2 0 52 1 mC,YE (λ(q1:Nat×Hp)=>(⟨21,[(0,lV As b.length cs),(3,lV q1.2.1 q1.1 q1.2.2),(4,iV (q1.1:Int))],[],[some (Qx 52 1 q1.1 (Az b) q1.2.1 q1.2.2)]⟩:St)) b.length HJC (λ(q1:Nat×Hp)=>[.both [x03 5 4 (.pointer (some (Q5 As (q1.1*1+0)))),x03 5 5 (Ω (HJD b q1).2.1 (HJD b q1).1.length (HJD b q1).2.2),.row 5 6 0 [12] 32 3 Xk ([]:List Nm) (λ(p:Hp)=>[x08 5 6 1 (λ(f:Hp)=>(Ω f.1 ((HJD b q1).1).length f.2,Qc 32 3 Xk ((HJD b q1).1) f.1 f.2,[.join 5 8 0 1,x08 5 8 0 (λ(e:Hp)=>(Ω e.1 (q1.1+1) e.2,Qx 52 1 (q1.1+1) (Az b) e.1 e.2,[x05 4 1 (iV ((q1.1+1:Nat):Int)),.nxt [e]]))]))])] []])] (λW r=>have s:=z.below O9 r;(λ(t:∀x,x∈b->Rw W 3 Xk nm0 x.1 x.2.1 x.2.2)=>Ky (qV (Ω As b.length cs)) (qV (Ω HJC.2.1 HJC.1 HJC.2.2)) (qI ((HJC.1:Nat):Int)) (Yq (Qc 52 1 mC ([]:List PA) none 0) (Qx 52 1 HJC.1 (Az b) HJC.2.1 HJC.2.2) λ_ _ _ h=>AP _ _ _ mC _ _ _ _ h)<|ai (show 0<=b.length from L7 _) λ(q1:Nat×Hp) (j:(q1.1<=b.length))=>Xi (decide ((q1.1:Int)<(b.length:Int))) (λg=>Ja (Zy cs s.1 q1.1 (Qt g)) (J6 s.1 q1.1 0 (Qt g) x4 rfl) (show([]:o3)=List.flatMap Xk ([]:List Nm)from rfl)<|ai (p0 Xx (show(([]:List Nm)).length<=maxLen from(L7 _))) λ(p:Hp)=>ai (Gf W 52 Xk ([]:List Nm) ((HJD b q1).1) ((HJD b q1).1) p.1 p.2 (Ω (HJD b q1).2.1 (HJD b q1).1.length (HJD b q1).2.2) BD Xx Gn (V2 _) (show((List.getD b q1.1 ZA).1).length*32<=140737488355328 from x8 (m _ (XW ZA (Qt g)))) (λE q=>GM Xx x4 nm0 ((t _ (XW ZA (Qt g))).1.below (λ_=>rfl) q) (t _ (XW ZA (Qt g))).2)) λ(f:Hp)=>ai (JJ W 25 52 32 3 q1.1 (q1.1+1) 1 Xk (λ_=>[]) (λi=>(List.getD b i ZA).1) q1.2.1 f.1 q1.2.2 f.2 ([Ω f.1 ((HJD b q1).1).length f.2]) (Qc 32 3 Xk ((HJD b q1).1) f.1 f.2) (λ_ _ _ h=>.inl h) Kv (λu C=>nomatch C) rfl (x8 (Qt g)) rfl rfl) λ(e:Hp)=>KJ (QD q1.1 (x8 (Qt g))) (qV (Ω As b.length cs)) (qV (Ω e.1 (q1.1+1) e.2)) (qI (((q1.1+1):Nat):Int)) (Yq (Qx 52 1 (q1.1+1) (Az b) e.1 e.2) (Qx 52 1 (q1.1+1) (Az b) e.1 e.2) λ_ _ _ h=>h)<|ai (show q1.1+1<=b.length from Qt g) (show b.length-(q1.1+1)<b.length-q1.1 from x8 (Qt g))) λg=>(show ∃y:Hp,SV.val (Ω q1.2.1 q1.1 q1.2.2)=SV.val ((λ(y:Hp)=>Ω y.1 b.length y.2) y)/\∀(x:y9) (S:Nat->Prop) (w:xH),(Qx 52 1 q1.1 (Az b) q1.2.1 q1.2.2).φ x S w->((λ(y:Hp)=>Qx 52 1 b.length (Az b) y.1 y.2) y).φ x S w from⟨q1.2,by rw[(show q1.1=b.length from Ra j (geq g))],λx S w h=>by rw[(show q1.1=b.length from Ra j (geq g))]at h;exact h⟩)) (λx D=>(B x D).below Xx r)) λW=>x5
abbrev HJE(nd:List Pz)(q1:Nat×Hp):=List.getD nd q1.1 Q1
abbrev HJF:Nat×Hp:=(0,(none,0))
abbrev HJG(Ac:xN)(q1:Nat×Hp):y9:=.pointer (some (Q5 Ac (q1.1*6+0)))
def Um{cc:Nat}{nd:List Pz}(B:nd.length<=1048576)(p:∀x,x∈nd->x.1.sum.ts.length<=1048576)(w:xH)(C:Rw w 6 kh Q1 nd Ac cc)(q:∀x,x∈nd->Rw w 4 QK Bp x.1.sum.ts x.2.1 x.2.2):NewIn prog w [] 15 #[Ω Ac nd.length cc] (λ(y:Hp)=>Ω y.1 nd.length y.2) (λ(y:Hp)=>Qx 49 6 nd.length (PG nd) y.1 y.2) :=
 Bf Hp Qm QU (λa w=>call15 a w) func15 ntmps15 results15 _ rfl 0 _ _ [.nil 2 0 49 6 kh,YE (λ(q1:Nat×Hp)=>(⟨32,[(0,lV Ac nd.length cc),(3,lV q1.2.1 q1.1 q1.2.2),(4,iV (q1.1:Int))],[],[some (Qx 49 6 q1.1 (PG nd) q1.2.1 q1.2.2)]⟩:St)) nd.length HJF (λ(q1:Nat×Hp)=>[.both [.reg 19 [],x03 5 3 (HJG Ac q1),x03 5 4 (HJG Ac q1),x03 5 5 (Θ ((HJE nd q1).1.split)),x03 5 8 (HJG Ac q1),x03 5 9 (.pointer (some (Q5 Ac (q1.1*6+1)))),x03 5 10 (nA ((HJE nd q1).1.ο)),x03 5 13 (HJG Ac q1),x03 5 14 (.pointer (some (Q5 Ac (q1.1*6+4)))),x03 5 15 (.agg #[Θ ((HJE nd q1).1.sum.vars),Ω (HJE nd q1).2.1 (HJE nd q1).1.sum.ts.length (HJE nd q1).2.2]),.o 5 16 (.nw (.agg [iV ((HJE nd q1).1.sum.vars),.han 17]) [] (λ(y:Hp)=>Ω y.1 ((HJE nd q1).1.sum.ts).length y.2) (λ(y:Hp)=>Zx 51 4 QK ((HJE nd q1).1.sum.ts) y.1 y.2)),.opn 5 19 17 (λ(j:Hp)=>Ω j.1 ((HJE nd q1).1.sum.ts).length j.2) (λ(j:Hp)=>Zx 51 4 QK ((HJE nd q1).1.sum.ts) j.1 j.2) (λ(j:Hp)=>[.join 5 19 0 17,x08 5 19 0 (λ(g:Hp)=>(Ω g.1 (q1.1+1) g.2,Qx 49 6 (q1.1+1) (PG nd) g.1 g.2,[x05 4 1 (iV ((q1.1+1:Nat):Int)),.nxt [g]]))])] []])] (λW z=>have m:=C.below O2 z;(λ(r:∀x,x∈nd->Rw W 4 QK Bp x.1.sum.ts x.2.1 x.2.2)=>Ky (qV (Ω Ac nd.length cc)) (qV (Ω HJF.2.1 HJF.1 HJF.2.2)) (qI ((HJF.1:Nat):Int)) (Yq (Qc 49 6 kh ([]:List Pz) none 0) (Qx 49 6 HJF.1 (PG nd) HJF.2.1 HJF.2.2) λ_ _ _ h=>AP _ _ _ kh _ _ _ _ h)<|ai (show 0<=nd.length from L7 _) λ(q1:Nat×Hp) (l:(q1.1<=nd.length))=>Xi (decide ((q1.1:Int)<(nd.length:Int))) (λf=>Yx (J4 cc m.1 q1.1 (Qt f)) (jL W Ac 6 q1.1 0) (BZ m.1 q1.1 0 (Qt f) x4 rfl) (J4 cc m.1 q1.1 (Qt f)) (jM W Ac 6 q1.1 0) (JW m.1 q1.1 1 (Qt f) x4 rfl rfl) (J4 cc m.1 q1.1 (Qt f)) (jN W Ac 6 q1.1 0)<|Ja (D8 m.1 q1.1 4 (Qt f) x4 rfl rfl) (FZ ((HJE nd q1).2.2) ((HJE nd q1).1.sum.vars) (p _ (XW Q1 (Qt f))) W (r _ (XW Q1 (Qt f)))) (show ∀y:Hp,(Ω y.1 ((List.getD nd q1.1 Q1).1.sum.ts).length y.2:y9).oneCell'=true from λ_=>rfl)<|ai (show qg (HW (λ(y:Hp)=>Ω y.1 ((List.getD nd q1.1 Q1).1.sum.ts).length y.2) (λ(y:Hp)=>Zx 51 4 QK ((List.getD nd q1.1 Q1).1.sum.ts) y.1 y.2)) (λ(y:Hp)=>Ω y.1 ((List.getD nd q1.1 Q1).1.sum.ts).length y.2) (λ(y:Hp)=>Zx 51 4 QK ((List.getD nd q1.1 Q1).1.sum.ts) y.1 y.2)from Aw λy x D S w t h=>l5 t h) λ(j:Hp)=>ai (JJ W 33 49 51 4 q1.1 (q1.1+1) 1 QK (λi=>[Θ ((List.getD nd i Q1).1.split),Ξ ((List.getD nd i Q1).1.ο.b),Ψ ((List.getD nd i Q1).1.ο.s),Θ ((List.getD nd i Q1).1.ο.e),Θ ((List.getD nd i Q1).1.sum.vars)]) (λi=>(List.getD nd i Q1).1.sum.ts) q1.2.1 j.1 q1.2.2 j.2 ([Θ ((HJE nd q1).1.split),Ξ ((HJE nd q1).1.ο.b),Ψ ((HJE nd q1).1.ο.s),Θ ((HJE nd q1).1.ο.e),Θ ((HJE nd q1).1.sum.vars),Ω j.1 ((HJE nd q1).1.sum.ts).length j.2]) (Zx 51 4 QK ((HJE nd q1).1.sum.ts) j.1 j.2) (λ_ _ _ h=>h) Am (by intro u v;simp only[Lb,Ri,or_false]at v;first|exact v.elim|(rcases v with rfl|rfl|rfl|rfl|rfl<;>rfl)) rfl (x8 (Qt f)) rfl rfl) λ(g:Hp)=>KJ (QD q1.1 (x8 (Qt f))) (qV (Ω Ac nd.length cc)) (qV (Ω g.1 (q1.1+1) g.2)) (qI (((q1.1+1):Nat):Int)) (Yq (Qx 49 6 (q1.1+1) (PG nd) g.1 g.2) (Qx 49 6 (q1.1+1) (PG nd) g.1 g.2) λ_ _ _ h=>h)<|ai (show q1.1+1<=nd.length from Qt f) (show nd.length-(q1.1+1)<nd.length-q1.1 from x8 (Qt f))) λf=>(show ∃y:Hp,SV.val (Ω q1.2.1 q1.1 q1.2.2)=SV.val ((λ(y:Hp)=>Ω y.1 nd.length y.2) y)/\∀(x:y9) (S:Nat->Prop) (w:xH),(Qx 49 6 q1.1 (PG nd) q1.2.1 q1.2.2).φ x S w->((λ(y:Hp)=>Qx 49 6 nd.length (PG nd) y.1 y.2) y).φ x S w from⟨q1.2,by rw[(show q1.1=nd.length from Ra l (geq f))],λx S w h=>by rw[(show q1.1=nd.length from Ra l (geq f))]at h;exact h⟩)) (λx t=>(q x t).below Q4 z)) λW=>x5
def Tz{δ vars c:Int}{p d:Nm}{bx:List (Nm×Nm)}{f:List PA}{g i:List QQ}{nd:List Pz}{k l m n o:Hp}{y z A B C:y9}{q r s t w:Nat->Prop}{a:xH}(D:(Zx 66 6 JR bx k.1 k.2).φ y q a)(E:∀b,q b->lo<=b)(F:(Qx 52 1 f.length (Az f) l.1 l.2).φ z r a)(b1:∀b,r b->lo<=b)(G:(Qx 47 2 g.length (AE g) m.1 m.2).φ A s a)(b2:∀b,s b->lo<=b)(H:(Qx 47 2 i.length (AE i) n.1 n.2).φ B t a)(b3:∀b,t b->lo<=b)(I:(Qx 49 6 nd.length (PG nd) o.1 o.2).φ C w a)(b4:∀b,w b->lo<=b):
  Five lo a (⟨δ,vars,bx,f.map (λx=>x.1),g.map (λx=>x.1),i.map (λx=>x.1),p,d,c,nd.map (λx=>x.1)⟩:PV) (.slice k.1 bx.length k.2) (.slice l.1 (f.map (λx=>x.1)).length l.2) (.slice m.1 (g.map (λx=>x.1)).length m.2) (.slice n.1 (i.map (λx=>x.1)).length n.2) (.slice o.1 (nd.map (λx=>x.1)).length o.2):=by
 simp only[Rg];exact⟨tp iy (nm0,nm0) D E,
  CP Xx nm0 (by rw[Rg]) F b1 (λj h v e=>(show ∃u,[v]=[u]/\SlV lo 3 VT a _ u from⟨v,rfl,by rw[mE h];exact e⟩)),
  CP Q4 Bp (by rw[Rg]) G b2 (λj h v e=>(show ∃u,_=_/\SlV lo 4 Ye a _ u from⟨v,by rw[E3 h];rfl,by rw[E3 h];exact e⟩)),
  CP Q4 Bp (by rw[Rg]) H b3 (λj h v e=>(show ∃u,_=_/\SlV lo 4 Ye a _ u from⟨v,by rw[E3 h];rfl,by rw[E3 h];exact e⟩)),
  CP Q4 Bp (by rw[Rg]) I b4 (λj h v e=>(show ∃u,_=_/\SlV lo 4 Ye a _ u from⟨v,by rw[WA h];rfl,by rw[WA h];exact e⟩))⟩
def mK(Ab As Ap Ar Ac:xN)(cb cs kp kr cc:Nat)(δ vars ζ:Int)(ν ε:Nm)(bx:List (Nm×Nm))(p1:List PA)(l1 l2:List QQ)(nd:List Pz)(aw:bx.length<=1048576)(O:p1.length<=1048576)(P:∀x,x∈p1->x.1.length<=1048576)(aB:l1.length<=1048576)(Q:∀x,x∈l1->x.1.ts.length<=1048576)(bc:l2.length<=1048576)(R:∀x,x∈l2->x.1.ts.length<=1048576)(T:nd.length<=1048576)(U:∀x,x∈nd->x.1.sum.ts.length<=1048576)(w:xH)(K:Rw w 6 JR (nm0,nm0) bx Ab cb)(hs:Rw w 1 mC ZA p1 As cs)(hp:∀x,x∈p1->Rw w 3 Xk nm0 x.1 x.2.1 x.2.2)(hq:Rw w 2 Zn XM l1 Ap kp)(V:∀x,x∈l1->Rw w 4 QK Bp x.1.ts x.2.1 x.2.2)(E:Rw w 2 Zn XM l2 Ar kr)(X:∀x,x∈l2->Rw w 4 QK Bp x.1.ts x.2.1 x.2.2)(hc:Rw w 6 kh Q1 nd Ac cc)(Y:∀x,x∈nd->Rw w 4 QK Bp x.1.sum.ts x.2.1 x.2.2):NewIn prog w [] 6 #[tA δ vars Ab bx.length cb As p1.length cs Ap l1.length kp Ar l2.length kr ν ε ζ Ac nd.length cc] (λ(y:NX)=>tA δ vars y.1.1 bx.length y.1.2 y.2.1.1 p1.length y.2.1.2 y.2.2.1.1 l1.length y.2.2.1.2 y.2.2.2.1.1 l2.length y.2.2.2.1.2 ν ε ζ y.2.2.2.2.1 nd.length y.2.2.2.2.2) (λ(y:NX)=>US (⟨δ,vars,bx,p1.map (λx=>x.1),l1.map (λx=>x.1),l2.map (λx=>x.1),ν,ε,ζ,nd.map (λx=>x.1)⟩:PV) y) :=
 let L:OB:=some (35,(tS δ vars Ab bx.length cb As p1.length cs Ap l1.length kp Ar l2.length kr ν ε ζ Ac nd.length cc));let M:OB:=some (35,[iV 0,iV 0,lV none 0 0,lV none 0 0,lV none 0 0,lV none 0 0,bV false,sV ⟨#[]⟩,iV 0,bV false,sV ⟨#[]⟩,iV 0,iV 0,lV none 0 0]);let N:OB:=some (66,[]);QaL (β:=NX) Qm QU (λa w=>call6 a w) func6 ntmps6 results6 _ rfl _ _ (λs σ=>∃(y:NX) (G H:Nat),G=l1.length/\H=l2.length/\s=.agg (tS δ vars y.1.1 bx.length y.1.2 y.2.1.1 p1.length y.2.1.2 y.2.2.1.1 G y.2.2.1.2 y.2.2.2.1.1 H y.2.2.2.1.2 ν ε ζ y.2.2.2.2.1 nd.length y.2.2.2.2.2)/\Xq σ.rs 4=some (Zx 66 6 JR bx y.1.1 y.1.2)/\Xq σ.rs 8=some (Qx 52 1 p1.length (Az p1) y.2.1.1 y.2.1.2)/\Xq σ.rs 11=some (Qx 47 2 G (AE l1) y.2.2.1.1 y.2.2.1.2)/\Xq σ.rs 12=some (Qx 47 2 H (AE l2) y.2.2.2.1.1 y.2.2.2.1.2)/\Xq σ.rs 13=some (Qx 49 6 nd.length (PG nd) y.2.2.2.2.1 y.2.2.2.2.2)) [.reg 11 [],.o 2 4 (.nb (.han 4) (λ(y:Hp)=>Value.slice y.1 (bx).length y.2) (λ(y:Hp)=>Zx 66 6 JR bx y.1 y.2)),.o 2 8 (.nw (.han 8) [] (λ(y:Hp)=>.slice y.1 p1.length y.2) (λ(y:Hp)=>Qx 52 1 p1.length (Az p1) y.1 y.2)),.opn 2 11 4 (λ(j:Hp)=>.slice j.1 bx.length j.2) (λ(j:Hp)=>Zx 66 6 JR bx j.1 j.2) (λ(j:Hp)=>[.opn 2 11 8 (λ(l:Hp)=>.slice l.1 p1.length l.2) (λ(l:Hp)=>Qx 52 1 p1.length (Az p1) l.1 l.2) (λ(l:Hp)=>[.nil 5 0 47 2 Zn,.nil 5 0 47 2 Zn,YE (λ(q1:Nat×Hp)=>(⟨61,[(1,.ptr 0 0),(2,.ptr 1 0),(3,.ptr 2 0),(4,iV (q1.1:Int))],[none,none,some (35,(tS δ vars j.1 bx.length j.2 l.1 p1.length l.2 q1.2.1 q1.1 q1.2.2 none 0 0 ν ε ζ Ac nd.length cc)),none,some (0,[]),some (0,[]),some (0,[]),some (0,[]),some (0,[]),some (0,[]),some (0,[]),some (0,[]),some (0,[]),some (0,[])],[none,none,none,none,none,none,none,none,none,none,none,some (Qx 47 2 q1.1 (AE l1) q1.2.1 q1.2.2),none]⟩:St)) l1.length ((0,(none,0)):Nat×Hp) (λ(q1:Nat×Hp)=>[.both [.reg 9 [],x03 8 5 (.pointer (some (Q5 Ap (q1.1*2+0)))),x03 8 6 (.agg #[.int .i64 ((List.getD l1 q1.1 XM).1.vars),.slice (List.getD l1 q1.1 XM).2.1 (List.getD l1 q1.1 XM).1.ts.length (List.getD l1 q1.1 XM).2.2]),.o 8 7 (.nw (.agg [iV ((List.getD l1 q1.1 XM).1.vars),.han 20]) [] (λ(y:Hp)=>.slice y.1 ((List.getD l1 q1.1 XM).1.ts).length y.2) (λ(y:Hp)=>Zx 51 4 QK ((List.getD l1 q1.1 XM).1.ts) y.1 y.2)),.opn 8 9 20 (λ(z:Hp)=>.slice z.1 ((List.getD l1 q1.1 XM).1.ts).length z.2) (λ(z:Hp)=>Zx 51 4 QK ((List.getD l1 q1.1 XM).1.ts) z.1 z.2) (λ(z:Hp)=>[.join 8 9 11 20,x08 8 9 11 (λ(t:Hp)=>(Value.slice t.1 (q1.1+1) t.2,Qx 47 2 (q1.1+1) (AE l1) t.1 t.2,[x05 7 1 (iV ((q1.1+1:Nat):Int)),.nxt [t]]))])] [YE (λ(f:Nat×Hp)=>(⟨61,[(1,.ptr 0 0),(2,.ptr 1 0),(3,.ptr 2 0),(5,iV (f.1:Int))],[none,none,some (35,(tS δ vars j.1 bx.length j.2 l.1 p1.length l.2 q1.2.1 q1.1 q1.2.2 f.2.1 f.1 f.2.2 ν ε ζ Ac nd.length cc)),none,some (0,[]),some (0,[]),some (0,[]),some (0,[]),some (0,[]),some (0,[]),some (0,[]),some (0,[]),some (0,[]),some (0,[])],[none,none,none,none,none,none,none,none,none,none,none,none,some (Qx 47 2 f.1 (AE l2) f.2.1 f.2.2)]⟩:St)) l2.length ((0,(none,0)):Nat×Hp) (λ(f:Nat×Hp)=>[.both [.reg 9 [],x03 12 5 (.pointer (some (Q5 Ar (f.1*2+0)))),x03 12 6 (.agg #[.int .i64 ((List.getD l2 f.1 XM).1.vars),.slice (List.getD l2 f.1 XM).2.1 (List.getD l2 f.1 XM).1.ts.length (List.getD l2 f.1 XM).2.2]),.o 12 7 (.nw (.agg [iV ((List.getD l2 f.1 XM).1.vars),.han 20]) [] (λ(y:Hp)=>.slice y.1 ((List.getD l2 f.1 XM).1.ts).length y.2) (λ(y:Hp)=>Zx 51 4 QK ((List.getD l2 f.1 XM).1.ts) y.1 y.2)),.opn 12 9 20 (λ(B:Hp)=>.slice B.1 ((List.getD l2 f.1 XM).1.ts).length B.2) (λ(B:Hp)=>Zx 51 4 QK ((List.getD l2 f.1 XM).1.ts) B.1 B.2) (λ(B:Hp)=>[.join 12 9 12 20,x08 12 9 12 (λ(v:Hp)=>(Value.slice v.1 (f.1+1) v.2,Qx 47 2 (f.1+1) (AE l2) v.1 v.2,[x05 11 1 (iV ((f.1+1:Nat):Int)),.nxt [v]]))])] [x09 13 2 [] (λ(C:Hp)=>(.slice C.1 nd.length C.2,Qx 49 6 nd.length (PG nd) C.1 C.2,[]))]])]])])])] (λW F=>have HB:=K.below iy F;have HS:=hs.below O9 F;(λ(HP:∀x,x∈p1->Rw W 3 Xk nm0 x.1 x.2.1 x.2.2)=>have HQ:=hq.below Zb F;(λ(Z:∀x,x∈l1->Rw W 4 QK Bp x.1.ts x.2.1 x.2.2)=>have HU:=E.below Zb F;(λ(ad:∀x,x∈l2->Rw W 4 QK Bp x.1.ts x.2.1 x.2.2)=>have HC:=hc.below O2 F;(λ(ag:∀x,x∈nd->Rw W 4 QK Bp x.1.sum.ts x.2.1 x.2.2)=>Ky (λ(W':xH) (ao:Below W.heap.size W W') (g:Nat) (_:Bx W' g 66 #[])=>sP 23 JR bx Jp iy wH (show(bx).length*64<=140737488355328 from x3) (GM iy x4 (nm0,nm0) (HB.1.below (λ_=>rfl) ao) HB.2) g) (show ∀y:Hp,(Value.slice y.1 (bx).length y.2:y9).oneCell'=true from λ_=>rfl) (fq (cs:=cs) O P W HS HP) (show ∀y:Hp,(.slice y.1 p1.length y.2:y9).oneCell'=true from λ_=>rfl)<|ai (show qg (HW (λ(y:Hp)=>Value.slice y.1 (bx).length y.2) (λ(y:Hp)=>Zx 66 6 JR bx y.1 y.2)) (λ(y:Hp)=>.slice y.1 bx.length y.2) (λ(y:Hp)=>Zx 66 6 JR bx y.1 y.2)from Aw λy x x' S w q h=>l5 q h) λ(j:Hp)=>ai (show qg (HW (λ(y:Hp)=>.slice y.1 p1.length y.2) (λ(y:Hp)=>Qx 52 1 p1.length (Az p1) y.1 y.2)) (λ(y:Hp)=>.slice y.1 p1.length y.2) (λ(y:Hp)=>Qx 52 1 p1.length (Az p1) y.1 y.2)from Aw λy x x' S w q h=>Qc8 q h) λ(l:Hp)=>Yx (qI ((((0,(none,0)):Nat×Hp).1:Nat):Int)) (qk L) (qk M) (qI δ) (qI vars) (qV (.slice j.1 bx.length j.2)) (qV (.slice l.1 p1.length l.2)) (qV (.slice ((0,(none,0)):Nat×Hp).2.1 ((0,(none,0)):Nat×Hp).1 ((0,(none,0)):Nat×Hp).2.2))<|Yx (qV (.slice none 0 0)) (qB ν.b) (qS ν.s) (qI ν.e) (qB ε.b) (qS ε.s) (qI ε.e) (qI ζ)<|Vv (qV (.slice Ac nd.length cc)) (qk N) (XR (Zx 66 6 JR bx j.1 j.2)) (XR (Qx 52 1 p1.length (Az p1) l.1 l.2)) (Yq (Qc 47 2 Zn ([]:List QQ) none 0) (Qx 47 2 ((0,(none,0)):Nat×Hp).1 (AE l1) ((0,(none,0)):Nat×Hp).2.1 ((0,(none,0)):Nat×Hp).2.2) λ_ _ _ h=>AP _ _ _ Zn _ _ _ _ h) (XR (Qc 47 2 Zn ([]:List QQ) none 0))<|ai (show 0<=l1.length from L7 _) λ(q1:Nat×Hp) (I:(q1.1<=l1.length))=>Xi (decide ((q1.1:Int)<(l1.length:Int))) (λm=>Ky (J5 kp HQ.1 q1.1 (Qt m)) (D8 HQ.1 q1.1 0 (Qt m) x4 rfl rfl) (FZ ((List.getD l1 q1.1 XM).2.2) ((List.getD l1 q1.1 XM).1.vars) (Q _ (XW XM (Qt m))) W (Z _ (XW XM (Qt m)))) (show ∀y:Hp,(.slice y.1 ((List.getD l1 q1.1 XM).1.ts).length y.2:y9).oneCell'=true from λ_=>rfl)<|ai (show qg (HW (λ(y:Hp)=>.slice y.1 ((List.getD l1 q1.1 XM).1.ts).length y.2) (λ(y:Hp)=>Zx 51 4 QK ((List.getD l1 q1.1 XM).1.ts) y.1 y.2)) (λ(y:Hp)=>.slice y.1 ((List.getD l1 q1.1 XM).1.ts).length y.2) (λ(y:Hp)=>Zx 51 4 QK ((List.getD l1 q1.1 XM).1.ts) y.1 y.2)from Aw λy x x' S w q h=>l5 q h) λ(z:Hp)=>ai (JJ W 28 47 51 4 q1.1 (q1.1+1) 1 QK (λi=>[.int .i64 (List.getD l1 i XM).1.vars]) (λi=>(List.getD l1 i XM).1.ts) q1.2.1 z.1 q1.2.2 z.2 ([.int .i64 ((List.getD l1 q1.1 XM).1.vars),.slice z.1 ((List.getD l1 q1.1 XM).1.ts).length z.2]) (Zx 51 4 QK ((List.getD l1 q1.1 XM).1.ts) z.1 z.2) (λ_ _ _ h=>h) Xg (by intro u E;simp only[Lb,Ri,or_false]at E;first|exact E.elim|(rcases E with rfl<;>rfl)) rfl (x8 (Qt m)) rfl rfl) λ(t:Hp)=>Yx (QD q1.1 (x8 (Qt m))) (qI (((q1.1+1):Nat):Int)) (qk L) (qk M) (qI δ) (qI vars) (qV (.slice j.1 bx.length j.2)) (qV (.slice l.1 p1.length l.2))<|Yx (qV (.slice t.1 (q1.1+1) t.2)) (qV (.slice none 0 0)) (qB ν.b) (qS ν.s) (qI ν.e) (qB ε.b) (qS ε.s) (qI ε.e)<|GL (qI ζ) (qV (.slice Ac nd.length cc)) (qk N) (XR (Zx 66 6 JR bx j.1 j.2)) (XR (Qx 52 1 p1.length (Az p1) l.1 l.2)) (Yq (Qx 47 2 (q1.1+1) (AE l1) t.1 t.2) (Qx 47 2 (q1.1+1) (AE l1) t.1 t.2) λ_ _ _ h=>h) (XR (Qc 47 2 Zn ([]:List QQ) none 0))<|ai (show q1.1+1<=l1.length from Qt m) (show l1.length-(q1.1+1)<l1.length-q1.1 from x8 (Qt m))) λm=>Yx (qI ((((0,(none,0)):Nat×Hp).1:Nat):Int)) (qk L) (qk M) (qI δ) (qI vars) (qV (.slice j.1 bx.length j.2)) (qV (.slice l.1 p1.length l.2)) (qV (.slice q1.2.1 q1.1 q1.2.2))<|Yx (qV (.slice ((0,(none,0)):Nat×Hp).2.1 ((0,(none,0)):Nat×Hp).1 ((0,(none,0)):Nat×Hp).2.2)) (qB ν.b) (qS ν.s) (qI ν.e) (qB ε.b) (qS ε.s) (qI ε.e) (qI ζ)<|Vv (qV (.slice Ac nd.length cc)) (qk N) (XR (Zx 66 6 JR bx j.1 j.2)) (XR (Qx 52 1 p1.length (Az p1) l.1 l.2)) (XR (Qx 47 2 q1.1 (AE l1) q1.2.1 q1.2.2)) (Yq (Qc 47 2 Zn ([]:List QQ) none 0) (Qx 47 2 ((0,(none,0)):Nat×Hp).1 (AE l2) ((0,(none,0)):Nat×Hp).2.1 ((0,(none,0)):Nat×Hp).2.2) λ_ _ _ h=>AP _ _ _ Zn _ _ _ _ h)<|ai (show 0<=l2.length from L7 _) λ(f:Nat×Hp) (J:(f.1<=l2.length))=>Xi (decide ((f.1:Int)<(l2.length:Int))) (λp=>Ky (J5 kr HU.1 f.1 (Qt p)) (D8 HU.1 f.1 0 (Qt p) x4 rfl rfl) (FZ ((List.getD l2 f.1 XM).2.2) ((List.getD l2 f.1 XM).1.vars) (R _ (XW XM (Qt p))) W (ad _ (XW XM (Qt p)))) (show ∀y:Hp,(.slice y.1 ((List.getD l2 f.1 XM).1.ts).length y.2:y9).oneCell'=true from λ_=>rfl)<|ai (show qg (HW (λ(y:Hp)=>.slice y.1 ((List.getD l2 f.1 XM).1.ts).length y.2) (λ(y:Hp)=>Zx 51 4 QK ((List.getD l2 f.1 XM).1.ts) y.1 y.2)) (λ(y:Hp)=>.slice y.1 ((List.getD l2 f.1 XM).1.ts).length y.2) (λ(y:Hp)=>Zx 51 4 QK ((List.getD l2 f.1 XM).1.ts) y.1 y.2)from Aw λy x x' S w q h=>l5 q h) λ(B:Hp)=>ai (JJ W 28 47 51 4 f.1 (f.1+1) 1 QK (λi=>[.int .i64 (List.getD l2 i XM).1.vars]) (λi=>(List.getD l2 i XM).1.ts) f.2.1 B.1 f.2.2 B.2 ([.int .i64 ((List.getD l2 f.1 XM).1.vars),.slice B.1 ((List.getD l2 f.1 XM).1.ts).length B.2]) (Zx 51 4 QK ((List.getD l2 f.1 XM).1.ts) B.1 B.2) (λ_ _ _ h=>h) Xg (by intro u E;simp only[Lb,Ri,or_false]at E;first|exact E.elim|(rcases E with rfl<;>rfl)) rfl (x8 (Qt p)) rfl rfl) λ(v:Hp)=>Yx (QD f.1 (x8 (Qt p))) (qI (((f.1+1):Nat):Int)) (qk L) (qk M) (qI δ) (qI vars) (qV (.slice j.1 bx.length j.2)) (qV (.slice l.1 p1.length l.2))<|Yx (qV (.slice q1.2.1 q1.1 q1.2.2)) (qV (.slice v.1 (f.1+1) v.2)) (qB ν.b) (qS ν.s) (qI ν.e) (qB ε.b) (qS ε.s) (qI ε.e)<|GL (qI ζ) (qV (.slice Ac nd.length cc)) (qk N) (XR (Zx 66 6 JR bx j.1 j.2)) (XR (Qx 52 1 p1.length (Az p1) l.1 l.2)) (XR (Qx 47 2 q1.1 (AE l1) q1.2.1 q1.2.2)) (Yq (Qx 47 2 (f.1+1) (AE l2) v.1 v.2) (Qx 47 2 (f.1+1) (AE l2) v.1 v.2) λ_ _ _ h=>h)<|ai (show f.1+1<=l2.length from Qt p) (show l2.length-(f.1+1)<l2.length-f.1 from x8 (Qt p))) λp=>ai (Um (cc:=cc) T U W HC ag) λ(C:Hp)=>(show ∃(y:NX) (G H:Nat),G=l1.length/\H=l2.length/\(.agg (tS δ vars j.1 bx.length j.2 l.1 p1.length l.2 q1.2.1 q1.1 q1.2.2 f.2.1 f.1 f.2.2 ν ε ζ C.1 nd.length C.2):SV)=.agg (tS δ vars y.1.1 bx.length y.1.2 y.2.1.1 p1.length y.2.1.2 y.2.2.1.1 G y.2.2.1.2 y.2.2.2.1.1 H y.2.2.2.1.2 ν ε ζ y.2.2.2.2.1 nd.length y.2.2.2.2.2)/\some (Zx 66 6 JR bx j.1 j.2)=some (Zx 66 6 JR bx y.1.1 y.1.2)/\some (Qx 52 1 p1.length (Az p1) l.1 l.2)=some (Qx 52 1 p1.length (Az p1) y.2.1.1 y.2.1.2)/\some (Qx 47 2 q1.1 (AE l1) q1.2.1 q1.2.2)=some (Qx 47 2 G (AE l1) y.2.2.1.1 y.2.2.1.2)/\some (Qx 47 2 f.1 (AE l2) f.2.1 f.2.2)=some (Qx 47 2 H (AE l2) y.2.2.2.1.1 y.2.2.2.1.2)/\some (Qx 49 6 nd.length (PG nd) C.1 C.2)=some (Qx 49 6 nd.length (PG nd) y.2.2.2.2.1 y.2.2.2.2.2)from⟨(j,l,q1.2,f.2,C),q1.1,f.1,Ra I (geq m),Ra J (geq p),rfl,rfl,rfl,rfl,rfl,rfl⟩)) (λx q=>(Y x q).below Q4 F)) (λx q=>(X x q).below Q4 F)) (λx q=>(V x q).below Q4 F)) (λx q=>(hp x q).below Xx F)) (λW=>x5) (by
  rintro W s σ ⟨y,G,H,rfl,rfl,rfl,f0,f1,f2,f3,f4⟩ r a w' D;have k0:=D.see.rs _ _ f0;have k1:=D.see.rs _ _ f1;have k2:=D.see.rs _ _ f2;have k3:=D.see.rs _ _ f3;have k4:=D.see.rs _ _ f4;refine⟨y,.bool false,λb=>W.heap.size<=b/\b<w'.heap.size,rfl,(show _/\_ from⟨rfl,W.heap.size,w',Tz k0.1 (D.sep.ownS _ _ f0) k1.1 (D.sep.ownS _ _ f1) k2.1 (D.sep.ownS _ _ f2) k3.1 (D.sep.ownS _ _ f3) k4.1 (D.sep.ownS _ _ f4),λb=>Iff.rfl,λb K=>rfl⟩),λb K=>K⟩)
def mO{x:PV}{Ab Ap Ar:xN}{cb cs kp kr cc:Nat}(a:smallX x)(w:xH)(b:Five lo w x (.slice Ab x.box.length cb) (.slice As x.κ.length cs) (.slice Ap x.ps.length kp) (.slice Ar x.θ.length kr) (.slice Ac x.ι.length cc)):NewIn prog w [] 6 #[xA x Ab cb As cs Ap kp Ar kr Ac cc] (λy:NX=>xA x y.1.1 y.1.2 y.2.1.1 y.2.1.2 y.2.2.1.1 y.2.2.1.2 y.2.2.2.1.1 y.2.2.2.1.2 y.2.2.2.2.1 y.2.2.2.2.2) (λy:NX=>US x y):=by
 let⟨c,d,e,nd,h⟩:=U3 a w b;have k:=mK Ab As Ap Ar Ac cb cs kp kr cc x.δ x.vars x.ζ x.ν x.ε x.box c d e nd a.box h.bs h.bp h.bq h.bt h.bu h.bv h.bc h.bn w h.hb h.hs h.hp h.hq h.hqs h.hu h.hus h.hc h.hcs;simp only[h.e0,h.e1,h.e2,h.e3,h.m0,h.m1,h.m2,h.m3]at k;exact k
variable{args:x0g}
def OQ(x:PV)(y:NX){f:FuncId}{R:y9}(W:xH)(c:Xt prog f)(h:∀a lo,Below W.heap.size W a->Five lo a x (.slice y.1.1 x.box.length y.1.2) (.slice y.2.1.1 x.κ.length y.2.1.2) (.slice y.2.2.1.1 x.ps.length y.2.2.1.2) (.slice y.2.2.2.1.1 x.θ.length y.2.2.2.1.2) (.slice y.2.2.2.2.1 x.ι.length y.2.2.2.2.2)->RetAt prog a f args R):Cv prog W [US x y] f args R:=⟨c,λa b v S d=>by
 let⟨lo,e⟩:=UX d;exact(h a lo b e).at⟩
def DZ{c:UInt8}(h:(Nat.ble 48 c.toNat&&Nat.ble c.toNat 57)=true):zE ⟨#[c]⟩:=λj b=>by
 have a:=L5.1 h;obtain rfl:j=0:=by
  have:j<1:=b;omega
 exact⟨L8 a.1,L8 a.2⟩
def Xs(W:xH)(p q:x0h)(a b:xM)(c:Bool)(h:decide (a=b)=c):Qp prog W (do eqGuard .eql 9 p q (.string a) (.string b);binOp .eql 9 (.string a) (.string b)) (.bool c):=h▸IC W p q a b
def gV  (w:xH) (d:QV w):RetAt prog w 186 #[Ψ ⟨#[48]⟩] (.tuple #[.agg #[Ξ false,x00,Θ 0],Θ 0,Θ 0]) :=
 rk [.inl 1 1 f248,x09 1 1 [] (λ(b:Nat)=>(Value.pointer (some ⟨b,0,none⟩),Mp b ⟨#[48]⟩ 0,[.unr 4,x08 2 0 0 (λ(e:Unit)=>(Value.tuple #[Ξ true,Θ 0,.int .i32 48],Mp b ⟨#[48]⟩ 1,[x08 2 0 0 (λ(f:Unit)=>(Value.tuple #[Ξ false],Mp b ⟨#[48]⟩ 1,[x03 2 2 (Ψ ⟨#[48]⟩),.inl 2 3 f249,x04 1 1 (.tup [sV ⟨#[48]⟩,bV false]),.inl 2 1 f283,x09 1 1 [] (λ(c:Nat)=>(Value.pointer (some ⟨c,0,none⟩),Mp c ⟨#[48]⟩ 0,[.unr 4,x08 2 0 1 (λ(i:Unit)=>(Value.tuple #[Ξ true,Θ 0,.int .i32 48],Mp c ⟨#[48]⟩ 1,[x08 2 0 1 (λ(j:Unit)=>(Value.tuple #[Ξ false],Mp c ⟨#[48]⟩ 1,[x03 6 1 (Ξ false),x04 9 2 (sV ⟨#[]⟩),x04 9 4 (.agg [bV false,sV ⟨#[]⟩]),x04 6 1 (.agg [bV false,sV ⟨#[]⟩,iV 0])]))]))]))]))]))]))] λW k l=>(λ(d:QV W)=>X0 func248 (λa w=>call248 a w)<|ai (QdE prog W ⟨#[48]⟩ Tryz.underlying9) λ(b:Nat)=>ai (uj prog W ⟨#[48]⟩ b 0 0 x4) λ(e:Unit)=>ai (Qak prog W ⟨#[48]⟩ b 1 0 x4) λ(f:Unit)=>Vv (JG W ⟨#[48]⟩ 1 x4) func249 (λa w=>call249 a w) (rc W call282 λW=>mb ⟨#[48]⟩ W) func283 (λa w=>call283 a w)<|ai (QdE prog W ⟨#[48]⟩ Tryz.underlying9) λ(c:Nat)=>ai (uj prog W ⟨#[48]⟩ c 0 0 x4) λ(i:Unit)=>ai (Qak prog W ⟨#[48]⟩ c 1 0 x4) λ(j:Unit)=>Ky (Xs W (.tmp 27) (.const (x00)) ⟨#[48]⟩ ⟨#[]⟩ false x4) (rc W call284 λW=>Pc ⟨#[48]⟩ W x4 (DZ x4)) (rc W call151 λW=>sd false 0 W) (rt d call106 λW h=>gk (0) (0) W x4 x4 h)<|l) (Ql d k)
def RL  (w:xH) (d:QV w):RetAt prog w 186 #[Ψ ⟨#[49]⟩] (.tuple #[.agg #[Ξ false,Ψ ⟨#[1]⟩,Θ 0],Θ 0,Θ 0]) :=
 rk [.inl 1 1 f248,x09 1 1 [] (λ(b:Nat)=>(Value.pointer (some ⟨b,0,none⟩),Mp b ⟨#[49]⟩ 0,[.unr 4,x08 2 0 0 (λ(e:Unit)=>(Value.tuple #[Ξ true,Θ 0,.int .i32 49],Mp b ⟨#[49]⟩ 1,[x08 2 0 0 (λ(f:Unit)=>(Value.tuple #[Ξ false],Mp b ⟨#[49]⟩ 1,[x03 2 2 (Ψ ⟨#[49]⟩),.inl 2 3 f249,x04 1 1 (.tup [sV ⟨#[49]⟩,bV false]),.inl 2 1 f283,x09 1 1 [] (λ(c:Nat)=>(Value.pointer (some ⟨c,0,none⟩),Mp c ⟨#[49]⟩ 0,[.unr 4,x08 2 0 1 (λ(i:Unit)=>(Value.tuple #[Ξ true,Θ 0,.int .i32 49],Mp c ⟨#[49]⟩ 1,[x08 2 0 1 (λ(j:Unit)=>(Value.tuple #[Ξ false],Mp c ⟨#[49]⟩ 1,[x03 6 1 (Ξ false),x04 9 2 (sV ⟨#[1]⟩),x04 9 4 (.agg [bV false,sV ⟨#[1]⟩]),x04 6 1 (.agg [bV false,sV ⟨#[1]⟩,iV 0])]))]))]))]))]))]))] λW k l=>(λ(d:QV W)=>X0 func248 (λa w=>call248 a w)<|ai (QdE prog W ⟨#[49]⟩ Tryz.underlying9) λ(b:Nat)=>ai (uj prog W ⟨#[49]⟩ b 0 0 x4) λ(e:Unit)=>ai (Qak prog W ⟨#[49]⟩ b 1 0 x4) λ(f:Unit)=>Vv (JG W ⟨#[49]⟩ 1 x4) func249 (λa w=>call249 a w) (rc W call282 λW=>mb ⟨#[49]⟩ W) func283 (λa w=>call283 a w)<|ai (QdE prog W ⟨#[49]⟩ Tryz.underlying9) λ(c:Nat)=>ai (uj prog W ⟨#[49]⟩ c 0 0 x4) λ(i:Unit)=>ai (Qak prog W ⟨#[49]⟩ c 1 0 x4) λ(j:Unit)=>Ky (Xs W (.tmp 27) (.const (x00)) ⟨#[49]⟩ ⟨#[]⟩ false x4) (rc W call284 λW=>Pc ⟨#[49]⟩ W x4 (DZ x4)) (rc W call151 λW=>sd false 1 W) (rt d call106 λW h=>gk (1) (0) W x4 x4 h)<|l) (Ql d k)
def pI  (w:xH) (d:QV w):RetAt prog w 186 #[Ψ ⟨#[45,49]⟩] (.tuple #[.agg #[Ξ true,Ψ ⟨#[1]⟩,Θ 0],Θ 0,Θ 0]) :=
 rk [.inl 1 1 f248,x09 1 1 [] (λ(b:Nat)=>(Value.pointer (some ⟨b,0,none⟩),Mp b ⟨#[45,49]⟩ 0,[.unr 4,x08 2 0 0 (λ(e:Unit)=>(Value.tuple #[Ξ true,Θ 0,.int .i32 45],Mp b ⟨#[45,49]⟩ 1,[x08 2 0 0 (λ(f:Unit)=>(Value.tuple #[Ξ true,Θ 1,.int .i32 49],Mp b ⟨#[45,49]⟩ 2,[x08 2 0 0 (λ(i:Unit)=>(Value.tuple #[Ξ false],Mp b ⟨#[45,49]⟩ 2,[x03 2 2 (Ψ ⟨#[45,49]⟩),.inl 2 3 f249,x04 1 1 (.tup [sV ⟨#[49]⟩,bV true]),.inl 2 1 f283,x09 1 1 [] (λ(c:Nat)=>(Value.pointer (some ⟨c,0,none⟩),Mp c ⟨#[49]⟩ 0,[.unr 4,x08 2 0 1 (λ(j:Unit)=>(Value.tuple #[Ξ true,Θ 0,.int .i32 49],Mp c ⟨#[49]⟩ 1,[x08 2 0 1 (λ(k:Unit)=>(Value.tuple #[Ξ false],Mp c ⟨#[49]⟩ 1,[x03 6 1 (Ξ false),x03 3 7 (.int .u8 49),x04 9 2 (sV ⟨#[1]⟩),x04 9 4 (.agg [bV true,sV ⟨#[1]⟩]),x04 6 1 (.agg [bV true,sV ⟨#[1]⟩,iV 0])]))]))]))]))]))]))]))] λW l m=>(λ(d:QV W)=>X0 func248 (λa w=>call248 a w)<|ai (QdE prog W ⟨#[45,49]⟩ Tryz.underlying9) λ(b:Nat)=>ai (uj prog W ⟨#[45,49]⟩ b 0 0 x4) λ(e:Unit)=>ai (uj prog W ⟨#[45,49]⟩ b 1 0 x4) λ(f:Unit)=>ai (Qak prog W ⟨#[45,49]⟩ b 2 0 x4) λ(i:Unit)=>Vv (JG W ⟨#[45,49]⟩ 2 x4) func249 (λa w=>call249 a w) (rc W call282 λW=>mb ⟨#[45,49]⟩ W) func283 (λa w=>call283 a w)<|ai (QdE prog W ⟨#[49]⟩ Tryz.underlying9) λ(c:Nat)=>ai (uj prog W ⟨#[49]⟩ c 0 0 x4) λ(j:Unit)=>ai (Qak prog W ⟨#[49]⟩ c 1 0 x4) λ(k:Unit)=>KJ (Xs W (.tmp 27) (.const (x00)) ⟨#[49]⟩ ⟨#[]⟩ false x4) (wO W ⟨#[49]⟩ 0 x4) (rc W call284 λW=>Pc ⟨#[49]⟩ W x4 (DZ x4)) (rc W call151 λW=>sd true 1 W) (rt d call106 λW h=>gk (-1) (0) W x4 x4 h)<|m) (Ql d l)
def pW  (w:xH) (e:QV w):RetAt prog w 186 #[Ψ ⟨#[49,47,52]⟩] (.tuple #[.agg #[Ξ false,Ψ ⟨#[1]⟩,Θ (-2)],Θ 0,Θ 0]) :=
 rk [.inl 1 1 f248,x09 1 1 [] (λ(b:Nat)=>(Value.pointer (some ⟨b,0,none⟩),Mp b ⟨#[49,47,52]⟩ 0,[.unr 4,x08 2 0 0 (λ(f:Unit)=>(Value.tuple #[Ξ true,Θ 0,.int .i32 49],Mp b ⟨#[49,47,52]⟩ 1,[x08 2 0 0 (λ(i:Unit)=>(Value.tuple #[Ξ true,Θ 1,.int .i32 47],Mp b ⟨#[49,47,52]⟩ 2,[x03 2 2 (Ψ ⟨#[49]⟩),.inl 2 3 f249,x04 1 1 (.tup [sV ⟨#[49]⟩,bV false]),.inl 2 1 f283,x09 1 1 [] (λ(c:Nat)=>(Value.pointer (some ⟨c,0,none⟩),Mp c ⟨#[49]⟩ 0,[.unr 4,x08 2 0 1 (λ(j:Unit)=>(Value.tuple #[Ξ true,Θ 0,.int .i32 49],Mp c ⟨#[49]⟩ 1,[x08 2 0 1 (λ(k:Unit)=>(Value.tuple #[Ξ false],Mp c ⟨#[49]⟩ 1,[x03 6 1 (Ξ false),x04 9 2 (sV ⟨#[1]⟩),x04 9 4 (.agg [bV false,sV ⟨#[1]⟩]),x05 7 2 (iV 2),x03 7 3 (Ψ ⟨#[52]⟩),.inl 7 4 f249,x04 1 1 (.tup [sV ⟨#[52]⟩,bV false]),.inl 2 1 f283,x09 1 1 [] (λ(d:Nat)=>(Value.pointer (some ⟨d,0,none⟩),Mp d ⟨#[52]⟩ 0,[.unr 4,x08 2 0 2 (λ(l:Unit)=>(Value.tuple #[Ξ true,Θ 0,.int .i32 52],Mp d ⟨#[52]⟩ 1,[x08 2 0 2 (λ(m:Unit)=>(Value.tuple #[Ξ false],Mp d ⟨#[52]⟩ 1,[x03 6 1 (Ξ false),x04 9 2 (sV ⟨#[4]⟩),x04 9 4 (.agg [bV false,sV ⟨#[4]⟩]),.inl 11 1 f250,x04 1 1 (.agg [bV false,sV ⟨#[1]⟩,iV 2]),.reg 8 [],x04 2 4 (.agg [bV false,sV ⟨#[1]⟩]),x03 2 5 (Ξ true),x05 14 2 (iV (-2)),x04 14 3 (.agg [bV false,sV ⟨#[1]⟩,iV (-2)])]))]))]))]))]))]))]))]))]))] λW n q=>(λ(e:QV W)=>X0 func248 (λa w=>call248 a w)<|ai (QdE prog W ⟨#[49,47,52]⟩ Tryz.underlying9) λ(b:Nat)=>ai (uj prog W ⟨#[49,47,52]⟩ b 0 0 x4) λ(f:Unit)=>ai (uj prog W ⟨#[49,47,52]⟩ b 1 0 x4) λ(i:Unit)=>Vv (JG W ⟨#[49,47,52]⟩ 1 x4) func249 (λa w=>call249 a w) (rc W call282 λW=>mb ⟨#[49]⟩ W) func283 (λa w=>call283 a w)<|ai (QdE prog W ⟨#[49]⟩ Tryz.underlying9) λ(c:Nat)=>ai (uj prog W ⟨#[49]⟩ c 0 0 x4) λ(j:Unit)=>ai (Qak prog W ⟨#[49]⟩ c 1 0 x4) λ(k:Unit)=>Yx (Xs W (.tmp 27) (.const (x00)) ⟨#[49]⟩ ⟨#[]⟩ false x4) (rc W call284 λW=>Pc ⟨#[49]⟩ W x4 (DZ x4)) (rc W call151 λW=>sd false 1 W) (show(IntKind.i64.wrap (1+1):Int)=2 from rfl) (ax W ⟨#[49,47,52]⟩ 2 x4) func249 (λa w=>call249 a w) (rc W call282 λW=>mb ⟨#[52]⟩ W)<|X0 func283 (λa w=>call283 a w)<|ai (QdE prog W ⟨#[52]⟩ Tryz.underlying9) λ(d:Nat)=>ai (uj prog W ⟨#[52]⟩ d 0 0 x4) λ(l:Unit)=>ai (Qak prog W ⟨#[52]⟩ d 1 0 x4) λ(m:Unit)=>Yx (Xs W (.tmp 27) (.const (x00)) ⟨#[52]⟩ ⟨#[]⟩ false x4) (rc W call284 λW=>Pc ⟨#[52]⟩ W x4 (DZ x4)) (rc W call151 λW=>sd false 4 W) func250 (λa w=>call250 a w) (rt e call106 λW h=>gk (4) (0) W x4 x4 h) (rc W call197 λW=>Cm 1 W x4 x4) (gH W (.tmp 10) (.tmp 11) (1) (1) rfl)<|X0 (show(IntKind.i64.wrap (0-2):Int)=-2 from rfl) (rt e call106 λW h=>gk (1) (-2) W x4 x4 h)<|q) (Ql e n)
def Kd(A:xN)(c k:Nat):xN:=A.map λa=>⟨a.block,if c=k then a.off else a.off+k*4,none⟩
section
variable{w0:xH}{A:xN}{c k:Nat}{l:List Tm}
def i6(f:l.length<=c)(a:RdK w0 A l.length 4 (λj=>QK (Qb l j)))(d:0<l.length)(e:k<=l.length):
  Qp prog w0 (Instr.sliceAt 45 (.slice A l.length c) none (some (.int .i64 (k:Int))) none) (.slice A (l.take k).length c):=λw _=>by
 obtain⟨b,off,rfl,_⟩:=a d;rw[JO prog w b off l.length c 0 k none (some (.int .i64 (k:Int))) (Qm 45 _ rfl) rfl x4 (.inl ⟨rfl,rfl⟩) (.inr ⟨.i64,rfl⟩) (L7 _) x3,Ll,Tg e,Ue,T9,ite_self];rfl
def jb(a:l.length<=c)(d:RdK w0 A l.length 4 (λj=>QK (Qb l j)))(e:0<l.length)(f:k<=l.length):
  Qp prog w0 (Instr.sliceAt 45 (.slice A l.length c) (some (.int .i64 (k:Int))) none none) (.slice (Kd A c k) (l.drop k).length (c-k)):=λw _=>by
 obtain⟨b,off,rfl,_⟩:=d e;rw[JO prog w b off l.length c k l.length (some (.int .i64 (k:Int))) none (Qm 45 _ rfl) rfl x4 (.inr ⟨.i64,rfl⟩) (.inl ⟨rfl,rfl⟩) f a,Lf];rfl
def DH(k:Nat)(l:List Tm)(a:RdK w0 A l.length 4 (λj=>QK (Qb l j)))(c:k<=l.length):RdK w0 A (l.take k).length 4 (λj=>QK (Qb (l.take k) j)):=λd=>by
 rw[Ll,Tg c]at d ⊢;let⟨b,off,e,h⟩:=a x3;refine⟨b,off,e,λj f i g=>?_⟩;rw[h j x3 i g];congr 2;simp[Qb,List.getD,f]
def J2(k:Nat)(l:List Tm)(g:l.length<=c)(d:RdK w0 A l.length 4 (λj=>QK (Qb l j)))(m:k<=l.length):RdK w0 (Kd A c k) (l.drop k).length 4 (λj=>QK (Qb (l.drop k) j)):=λe=>by
 rw[Lf]at e ⊢;obtain⟨b,off,rfl,h⟩:=d x3;refine⟨b,off+k*4,by simp[Kd,show c≠k by omega],λj n i f=>?_⟩;have a:=h (k+j) x3 i f;rw[S8,<- Sf]at a;rw[a];congr 2;simp[Qb,List.getD]
end
def Tt{c:α->o3}{l:List α}{A:xN}{x:y9}(h:(Qc e k c l A a).φ x S w):l.length<=a:=by
 let⟨_,d,_⟩:=(show _/\_/\_ from h)
 rcases d.2 with⟨b,f⟩|⟨g,cap,i,b,_,_,j,_⟩
 ·rw[f];exact L7 _
 ·injection b with _ _ m
  rw[m];exact j
def Wg(W:World)(x y:Operand){n:Nat}(hn:n<=4611686018427387904):Qp prog W (do eqGuard .quo 3 x y (.int .i64 (n:Int)) (.int .i64 2);binOp .quo 3 (.int .i64 (n:Int)) (.int .i64 2)) (.int .i64 ((n / 2:Nat):Int)):=λa _=>by
 have h:IntKind.i64.wrap ((n:Int) / 2)=(n:Int) / 2:=Le _ x3;simp[go_sem,h]
def oH:y9:=.func (.func 254) #[] #[]
def oM:y9:=.func (.func 255) #[] #[]
def gR(w0:xH){t bytes:Nat}(c:α->o3)(f:RowT P t t e k bytes)(n:Nat)(a:bytes*n<=281474976710656)(hn:n<=1000000):
  II P w0 [] (λy:Hp=>.slice y.1 ([]:List α).length y.2) (λy:Hp=>Qc e k c ([]:List α) y.1 y.2) (Instr.makeSlice t (.int .i64 0) (.int .i64 (n:Int))):=λW _=>by
 let⟨d,z,i,j,l,m,s⟩:=f.info;let⟨o,p,g,q⟩:=run_make_own (P:=P) W 0 t e d z k f.ht i j l .i64 .i64 n (by rw[m];exact a) (by simp only[maxLen];omega) (L7 _);show Pf P W _ _ _;refine⟨(some ⟨W.heap.size,0,none⟩,n),.bool false,λb=>b=W.heap.size,o,p,(p5 _ _).grown q (L4 _) (λk r=>by cases r),(show _/\_/\_ from⟨rfl,g,λb=>⟨λh=>by rw[h];rfl,λh=>(o7 h).symm⟩⟩),λb a=>?_⟩;subst a;exact⟨L4 _,(g.lt _ rfl).2⟩
def lE{A:xN}{c:Nat}(a:RdK w0 A l.length 4 (λj=>QK (Qb l j)))(h:0<l.length)(w:xH):(Instr.indexAt 45 (.slice A l.length c) (.int .i64 0)).run prog w=.ok (.pointer (some (Q5 A (0*4+0)))) w:=by
 let⟨b,off,e,_⟩:=a h;rw[e];exact(Kr _ (Qm 45 _ rfl) rfl x4 (show RdK w (some ⟨b,off,none⟩) l.length 0 (λ_=>[])from λ_=>⟨b,off,rfl,λ_ _ i d=>absurd d (R4 _)⟩) h (w0:=w) (f:=λ_=>[])) w (p5 _ _)
def ja{A:xN}{c:Nat}(a:l.length<=c)(d:RdK w0 A l.length 4 (λj=>QK (Qb l j)))(h:l.length=1)(w:xH):(Instr.sliceAt 45 (.slice A l.length c) (some (.int .i64 1)) none none).run prog w=.ok (.slice (CX A c 4) 0 (c-1)) w:=by
 let⟨b,off,e,_⟩:=d x3;rw[e,JO prog w b off l.length c 1 l.length (some (.int .i64 1)) none (Qm 45 _ rfl) rfl x4 (.inr ⟨.i64,rfl⟩) (.inl ⟨rfl,rfl⟩) x3 a,Tl,h];rfl
def Pa{A:xN}{n:Nat}(a:RdK w0 A (n+1) k f)(h:A=none):False:=by
 let⟨_,_,e,_⟩:=a (Sw _);rw[h]at e;cases e
def GW(A:xN)(c:Nat)(l:List Tm)(a:decide ((l.length:Int)<2)=true)(w:xH):RetAt prog w 253 #[Ω A l.length c,oH,oM] (Ω A l.length c) :=
 rk [.br true] λW d b=>ai a<|b
abbrev HJH(f:Tm):y9:=.agg #[.string f.m,.bool f.c.b,.string f.c.s,.int .i64 f.c.e]
def fy{A:xN}{c:Nat}{p f:Tm}(q:2<=c)(E:JD p f=1)(w:xH)(F:RdK w A 2 4 (λj=>QK (Qb [p,f] j))):NewIn prog w [] 253 #[Ω A 2 c,.func (.func 254) #[] #[],.func (.func 255) #[] #[]] (λ(y:Hp)=>Ω y.1 2 y.2) (λ(y:Hp)=>Qc 51 4 QK [f,p] y.1 y.2) :=
 Bf Hp Qm QU (λa w=>call253 a w) func253 ntmps253 results253 _ rfl 14 _ _ [.br false,x03 3 2 (Θ 1),.reg 14 [],x03 4 2 (Ω A 1 c),x04 4 5 (lV A 1 c),x03 4 8 (Ω (Kd A c 1) 1 (c-1)),x04 4 11 (lV (Kd A c 1) 1 (c-1)),.inl 4 14 f285,x09 1 5 [] (λ(v:Hp)=>(Ω v.1 0 v.2,Qc 51 4 QK ([]:List Tm) v.1 v.2,[.unr 3,.g 2 4 true,.br true,.reg 9 [],x03 3 2 (.pointer (some (Q5 A (0*4+0)))),x03 3 3 (.agg #[Ψ p.m,Ξ p.c.b,Ψ p.c.s,Θ p.c.e]),x03 3 5 (.pointer (some (Q5 (Kd A c 1) (0*4+0)))),x03 3 6 (HJH f),x04 3 7 (iV (JD p f)),.br false,.br true,.ord,.pur 0,.pur 1,.pur 2,x03 8 2 (.pointer (some (Q5 (Kd A c 1) (0*4+0)))),.pur 6,.pur 7,x03 8 7 (Ω (CX (Kd A c 1) (c-1) 4) 0 (c-1-1)),x03 8 3 (HJH f),x08 8 5 14 (λ(z:Hp)=>(Ω z.1 ([f]).length z.2,Qc 51 4 QK ([f]) z.1 z.2,[.g 2 4 true,.br false,x08 9 2 14 (λ(B:Hp)=>(Ω B.1 ([f,p]).length B.2,Qc 51 4 QK ([f,p]) B.1 B.2,[x08 9 4 14 (λ(r:Hp)=>(Ω r.1 ([f,p]).length r.2,Qc 51 4 QK ([f,p]) r.1 r.2,[]))]))]))]))] (λW G=>have t:=F.up G (λ_=>rfl);Yx (show(decide ((2:Nat)<2))=false from rfl) (Wg W (.tmp 13) (.const (Θ 2)) (n:=2) xq) (i6 (l:=[p,f]) (k:=1) q t (Sw 1) xq) (GW A c ([p]) rfl W) (jb (l:=[p,f]) (k:=1) q t (Sw 1) xq) (GW (Kd A c 1) (c-1) ([f]) rfl W) func285 (λa w=>call285 a w)<|ai (gR W QK XN 2 xq xq) λ(v:Hp)=>Yx (show(decide (((1:Nat):Int)>0))=true from rfl) (show(decide (((1:Nat):Int)>0))=true from rfl) (Y0 c (DH 1 ([p,f]) t xq) 0 (Sw 0)) (ZE (DH 1 ([p,f]) t xq) 0 0 (Sw 0) x4 rfl rfl) (Y0 (c-1) (J2 1 ([p,f]) q t xq) 0 (Sw 0)) (ZE (J2 1 ([p,f]) q t xq) 0 0 (Sw 0) x4 rfl rfl) (QbJ p f W) (show(decide ((JD p f)<0))=false from by rw[E];rfl)<|Ky (show(decide ((JD p f)>0))=true from by rw[E];rfl) (lE (c:=(c-1)) (l:=[f]) (J2 1 ([p,f]) q t xq) (Sw 0)) (ja (c:=c-1) (l:=[f]) (show 1<=c-1 from Nat.le_sub_of_add_le q) (J2 1 ([p,f]) q t xq) rfl) (ZE (J2 1 ([p,f]) q t xq) 0 0 (Sw 0) x4 rfl rfl)<|ai (YJ W 45 51 1 1 QK ([]:List Tm) ([f]) ([f]) v.1 v.2 ([Ψ f.m,Ξ f.c.b,Ψ f.c.s,Θ f.c.e]) XN Q4 K2 rfl xq rfl rfl) λ(z:Hp)=>X0 (show(decide (((1:Nat):Int)>0))=true from rfl) (show(decide (((0:Nat):Int)>0))=false from rfl)<|ai (Gf W 45 QK ([f]) ([p]) ([f,p]) z.1 z.2 (Ω A 1 c) XN Q4 K2 rfl xq (λ(D:xH) (C:Below W.heap.size W D)=>GM Q4 x4 Bp ((DH 1 ([p,f]) t xq).below (λ_=>rfl) C) (l2:=[p]) λe=>(Pa (DH 1 ([p,f]) t xq) e).elim)) λ(B:Hp)=>ai (Gf W 45 QK ([f,p]) ([]:List Tm) ([f,p]) B.1 B.2 (Ω (CX (Kd A c 1) (c-1) 4) 0 (c-1-1)) XN Q4 K2 rfl xq (λ(D:xH) (C:Below W.heap.size W D)=>GM Q4 x4 Bp (λh=>absurd h (T4 0)) (l2:=([]:List Tm)) λe=>(Pa (J2 1 ([p,f]) q t xq) (by simpa [CX]using e)).elim)) λ(r:Hp)=>(show ∃y:Hp,SV.val (Ω r.1 ([f,p]).length r.2)=SV.val ((λ(y:Hp)=>Ω y.1 2 y.2) y)/\∀(x:y9) (S:Nat->Prop) (w:xH),(Qc 51 4 QK ([f,p]) r.1 r.2).φ x S w->((λ(y:Hp)=>Qc 51 4 QK [f,p] y.1 y.2) y).φ x S w from⟨r,rfl,λx S w h=>h⟩)) λW=>x5
def OC(A:xN)(c:Nat)(l:List Tm)(e:l.length<=1048576)(W:xH):NewIn prog W [Qc 51 4 QK l A c] 190 #[.slice A l.length c] (λy:Hp=>.slice y.1 l.length y.2) (λy:Hp=>Qc 51 4 QK l y.1 y.2):=⟨λa w=>call190 a w,λb _ x S d=>(UE e b ⟨JN Q4 Bp d,(M6 d).1⟩).2 b (p5 _ _)⟩
def fz(A:xN)(c:Nat)(t1 t2:Tm)(e:JD t1 t2=1)(W:xH):NewIn prog W [Qc 51 4 QK [t1,t2] A c] 253 #[.slice A 2 c,oH,oM] (λy:Hp=>.slice y.1 2 y.2) (λy:Hp=>Qc 51 4 QK [t2,t1] y.1 y.2):=⟨λa w=>call253 a w,λb _ x S d=>(fy (Tt d) e b (JN Q4 Bp d)).2 b (p5 _ _)⟩
open Go.WideShapes Go.ChangeShapes
variable{s:ChangeSpec}{a:List MemPlace}{f:Func}
section
variable{H:Type}{enc:o0×y9->H}{P:xO}
theorem NS{c fresh d l:Bool}{n:xH}{v:y9}{o q:List (DataW H)}(pa pv:List MemPlace)(y:DataW.Whole enc P f.params.toList s.vars c W args.toList o q a)(h:∀(b:Nat) (m:Nat->Bool) (A:Bool),DataW.TrodAll enc P n b m A f.resultTypes.toList (v.resultList f.resultTypes.size) (s.fn H (o++q)).results [])(e:∀m:Nat->Bool,(∀p∈a,m p.block=true)->DataW.TrodAll enc P n 0 m true f.params.toList args.toList (s.fn H (o++q)).args pa)(g:∀m:Nat->Bool,(∀p∈a,m p.block=true)->DataW.TrodVars enc P n m s.vars (s.fn H (o++q)).vars pv)(u:a=pa++pv)(z:Below W.heap.size W n)(hok:∀(j:Nat) (t:o0) (r:y9),f.resultTypes[j]?=some t->(v.resultList f.resultTypes.size)[j]?=some r->Value.okWide P n .any 0 t r):
  s.post enc P f c fresh d l W args v n:=by
 have w:∀p∈a,p.block<W.heap.size:=λp i=>y.lt p i
 have k:∀p∈a,(λb=>decide (b<W.heap.size)) p.block=true:=λp i=>by simpa using w p i
 refine⟨o,q,a,[],pa,pv,y,h _ _ _,e _ k,g _ k,World.keptBut_mono (λp i=>⟨i,?_⟩) (z.frame (·∈a)),λ_=>?_⟩
 ·rw[u,Lo]at i
  grind
 ·let⟨_,_,_,_,_,B,hn⟩:=y;refine⟨hok,_,_,([]++pa)++pv,⟨[]++pa,pv,trodAll_append (e _ (λ_ _=>rfl)) (h _ _ _),g _ (λ_ _=>rfl),rfl,?_,?_⟩,?_⟩
  ·intro b off i;have x:MemPlace.cell b off∈a:=by rw[u];simpa using i
   rw[z.frozen (w _ x)];exact B b off x
  all_goals grind
end
section
variable{H:Type}{enc:o0×y9->H}{P:xO}
def CG(j:laidOutB P=true){W k:xH}(l:Below W.heap.size W k){m:Nat->Bool}:∀ {ts:List o0} {f:o3} {g:List (DataW H)} {b:List MemPlace},(∀t∈ts,P.readableRec t=true/\t<P.types.size) ->
  DataW.TrodAll enc P W 0 (λ_=>true) true ts f g b->(∀x∈b,x.block<W.heap.size)->(∀x∈b,m x.block=true)->DataW.TrodAll enc P k 0 m true ts f g b
 |[],[],[],_,_,h,_,_=>h
 |t::ts,v::f,d::g,b,i,⟨p,q,n,o,r⟩,c,e=>by
  subst r;exact⟨p,q,WideElems.Trod_stays j (i t x6).1 (i t x6).2 n (λx a=>l.same (c x (by simp[a]))) (λx a=>e x (by simp[a])),
   CG j l (λu s=>i u (by simp[s])) o (λx a=>c x (by simp[a])) (λx a=>e x (by simp[a])),rfl⟩
 |[],_::_,_,_,_,h,_,_=>by simp[DataW.TrodAll]at h
 |_::_,[],_,_,_,h,_,_=>by simp[DataW.TrodAll]at h
 |[],[],_::_,_,_,h,_,_=>by simp[DataW.TrodAll]at h
 |_::_,_::_,[],_,_,h,_,_=>by simp[DataW.TrodAll]at h
def Qcq{c fresh d e:Bool}{r:xH}{g:List (DataW H)}{tb:o0}(y:laidOutB P=true)(k:(f.params.toList.all λt=>P.readableRec t&&decide (t<P.types.size))=true)(u:f.resultTypes=#[tb])(h:P.underlying tb=some .bool)(i:s.vars=[])(l:DataW.Whole enc P f.params.toList s.vars c W args.toList g [] a)(z:(s.fn H (g++[])).results=[.lit (.bool true)])(A:(s.fn H (g++[])).args=g)(B:(s.fn H (g++[])).vars=[])(v:Below W.heap.size W r):
  s.post enc P f c fresh d e W args (.bool true) r:=by
 have m:∀p∈a,p.block<W.heap.size:=λp k=>l.lt p k
 let⟨p,q,C,w,j,_,_⟩:=id l;have D:q=[]:=by rw[i]at w;exact w
 subst D;rw[Rq]at j;subst j;have n:∀t∈f.params.toList,P.readableRec t=true/\t<P.types.size:=λt n=>by simpa using Lg.1 k t n
 refine NS a ([]) l (λb x E=>?_) (λx o=>?_) (λx _=>?_) x6 v (ok_one u rfl (okWide_bool_mk h true))
 ·rw[u,z];exact trodAll_mk1 (shut_bool h _)
 ·rw[A];exact CG y v n C m o
 ·rw[i,B];rfl
end
open Go.Deep
section
variable{H:Type}{enc:o0×y9->H}{w:xH}
def Oc:prog.cellsOf 30=2:=x5
end
section
variable{H:Type}{enc:o0×y9->H}{w:xH}{base:Nat}{spare:Nat->Bool}{held:Bool}
def Kz:prog.cellsOf 32=3:=x5
def bE:prog.cellsOf 4=1:=x5
def C9:prog.cellsOf 9=1:=x5
def GA:prog.cellsOf 3=1:=x5
def yk{α:Type}{l:List α}(h:l.length=2):∃a b,l=[a,b]:=by
 match l,h with | [a,b],_=>exact⟨a,b,rfl⟩
def Qdt{α:Type}{l:List α}(h:l.length=3):∃a b c,l=[a,b,c]:=by
 match l,h with | [a,b,c],_=>exact⟨a,b,c,rfl⟩
def rF{a:Nat}{cs:o3}{x:DataW H×List MemPlace}(h:DataW.trod enc prog w base spare held a 30 cs=some x):∃(b:Bool) (s:xM),cs=[.bool b,.string s]/\s.size<=maxLen:=by
 let⟨j,k,n,_,e,c,d⟩:=trod_struct2 Tryz.underlying30 h;rw[Oc]at e;obtain⟨c0,l,rfl⟩:=yk e;dsimp only at c d;rw[bE]at c;rw[C9]at d;let⟨b,f,_⟩:=DataW.trod_bool Tryz.underlying4 c;let⟨s,g,_,i⟩:=DataW.trod_string Tryz.underlying9 d;simp at f g;subst f g;exact⟨b,s,rfl,i⟩
def rG{a:Nat}{cs:o3}{x:DataW H×List MemPlace}(h:DataW.trod enc prog w base spare held a 32 cs=some x):∃(b:Bool) (s:xM) (e:Int),cs=[.bool b,.string s,.int .i64 e]/\s.size<=maxLen:=by
 let⟨k,l,n,_,f,c,d⟩:=trod_struct2 Tryz.underlying32 h;rw[Kz]at f;obtain⟨c0,m,o,rfl⟩:=Qdt f;dsimp only at c d;rw[Oc]at c;rw[GA]at d;let⟨b,s,g,j⟩:=rF c;let⟨e,i,_⟩:=DataW.trod_int Tryz.underlying3 d;simp at g i;obtain⟨rfl,rfl⟩:=g;subst i;exact⟨b,s,e,rfl,j⟩
end
