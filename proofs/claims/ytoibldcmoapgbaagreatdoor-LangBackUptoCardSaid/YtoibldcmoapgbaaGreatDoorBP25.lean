/- Laws beneath the statement. -/
import Derived.Test.YtoibldcmoapgbaaGreatDoorBP24
import Derived.Shelf.Strings.SlTrimAscii
namespace Go.Proofs.YtoibldcmoapgbaaGreatDoor
set_option linter.defProp false
open Tryz
set_option maxHeartbeats 4000000
set_option maxRecDepth 100000
open Go.RowKit
def ZL(z:Int):y9:=if -9223372036854775808<=z/\z<=9223372036854775807 then .tuple #[.int .i64 z,.bool true]else .tuple #[.int .i64 0,.bool false]
def pre(s:m1)(k:Nat):Nat:=KH (s.data.toList.take k)
variable{k:Nat}
def pw(s:m1)(h:k<s.data.toList.length):pre s (k+1)=pre s k*256+(s.data.toList[k]).toNat:=by
 unfold pre;rw[Rj h,Fc]
def pu(s:m1)(h:k<s.size):pre s (k+1)=pre s k*256+(s.data.toList.getD k 0).toNat:=by
 have a:k<s.data.toList.length:=l3 h;rw[pw s a,List.getD,p6 a];rfl
def ib(s:m1):pre s s.size=Qa s:=by
 unfold pre;rw[Rh x6];rfl
def Qbf(s:m1)(k:Nat):pre s k<256^k:=by
 unfold pre;exact L9 (AC _) (Lh x4 x7)
def or8(p d:Nat)(b:p<72057594037927936)(a:d<256):bits .or .u64 ((p:Int)*256) (d:Int)=((p*256+d:Nat):Int):=by
 rw[show(p:Int)*256=((p*256:Nat):Int)by simp,RH _ _ (by rw[Jo];omega) (by rw[Jo];omega)];have h:=Nat.two_pow_add_eq_or_of_lt (i:=8) a p;rw[show 2^8*p=p*256 by omega]at h;rw[<- h]
def Qcg(v:Nat)(a:v<18446744073709551616):∃O:Int,IntKind.i64.wrap (v:Int)=O/\-9223372036854775808<=O/\O<=9223372036854775807/\ZL (Qe false v)=if O=Qe false v then .tuple #[.int .i64 O,.bool true]else .tuple #[.int .i64 0,.bool false]:=by
 have e:Qe false v=(v:Int):=rfl;rw[e];refine⟨_,rfl,?_⟩;rw[IntKind.wrap_i64];unfold ZL;generalize b:((v:Int)+9223372036854775808) % 18446744073709551616-9223372036854775808=O;refine⟨x3,x3,?_⟩;by_cases h:O=(v:Int)
 ·rw[if_pos h,if_pos x3,h]
 ·rw[if_neg h,if_neg x3]
theorem Qcf(v:Nat)(a:v<18446744073709551616):∃O:Int,IntKind.i64.wrap (IntKind.u64.wrap (-(v:Int)))=O/\-9223372036854775808<=O/\O<=9223372036854775807/\ZL (Qe true v)=if O=Qe true v then .tuple #[.int .i64 O,.bool true]else .tuple #[.int .i64 0,.bool false]:=by
 have e:Qe true v=-(v:Int):=rfl;rw[e];refine⟨_,rfl,?_⟩;rw[b7,IntKind.wrap_i64];unfold ZL;generalize b:(-(v:Int) % 18446744073709551616+9223372036854775808) % 18446744073709551616-9223372036854775808=O;refine⟨x3,x3,?_⟩;by_cases h:O=-(v:Int)
 ·rw[if_pos h,if_pos x3,h]
 ·rw[if_neg h,if_neg x3]
open Go
def QfI(W:World)(p q:Operand)(v:Nat)(a:v<72057594037927936):Qp prog W (do eqGuard .shl 206 p q (.int .u64 (v:Int)) (.int .u64 8);binOp .shl 206 (.int .u64 (v:Int)) (.int .u64 8)) (.int .u64 ((v:Int)*256)):=λb _=>by
 have h:IntKind.u64.wrap ((v:Int)*256)=(v:Int)*256:=by rw[b7];omega
 simp[go_sem,h]
def Qfw(a:Int)(s:ByteArray)(W:World)(p q:Operand)(k:Nat)(b:pre s k<72057594037927936)(c:k<s.size)(d:a=((bt s k:Nat):Int)):Qp prog W (do eqGuard .or 206 p q (.int .u64 (((pre s k:Nat):Int)*256)) (.int .u64 a);binOp .or 206 (.int .u64 (((pre s k:Nat):Int)*256)) (.int .u64 a)) (.int .u64 ((pre s (k+1):Nat):Int)):=λe _=>by
 subst d;have h:=or8 (pre s k) (bt s k) b (UInt8.toNat_lt _);rw[show pre s k*256+bt s k=pre s (k+1)from(pu s c).symm]at h;simp[go_sem,h]
def Pp(s:m1)(A:m3){P:z4}(w0:m0){m:Sem y9}{R:y9}(h:∀W,RdK W A s.size 1 (λj=>[.int .u8 ((bt s j:Nat):Int)])->Qp P W m R):GJ P w0 [IR s A] m R:=λW _ _ _ a=>h W (lO a) W (p5 _ _)
section
variable{s:m1}{b:Bool}
theorem QbN(h:decide ((((nd 1 (Qa s):Nat):Int))>64)=true):Value.tuple #[.int .i64 0,.bool false]=ZL (Qe b (Qa s)):=by
 have a:=L0 h;have c:=MH 1 (Qa s) (λh=>by rw[h,EF]at a;omega);have d:(2^1)^64<=(2^1)^(nd 1 (Qa s)-1):=Lh (show 2^1>0 by decide) x3
 grind[ZL,Xd]
variable(h:decide ((((nd 1 (Qa s):Nat):Int))>64)=false)
include h
theorem yJ:Qa s<18446744073709551616:=L9 (B9 1 x4 (Qa s)) (Lh (show 2^1>0 by decide) (show nd 1 (Qa s)<=64 by have:=L1 h;omega))
theorem yM:(QL (Qa s)).size<=8:=by
 simp_all[GE,Xf,yJ]
theorem qD{k:Nat}(a:k<(QL (Qa s)).size):pre (QL (Qa s)) k<72057594037927936:=L9 (Qbf _ k) (L6 (Lh x4 (show k<=7 by have:=yM h;omega)) x4)
def E8(b:Bool)(v:Nat):Int:=if b then IntKind.i64.wrap (IntKind.u64.wrap (0-(v:Int)))else IntKind.i64.wrap (v:Int)
omit h in
theorem FT(b:Bool)(v:Nat):-9223372036854775808<=E8 b v/\E8 b v<=9223372036854775807:=by
 grind[E8,IntKind.wrap_i64]
theorem yH:ZL (Qe b (Qa s))=if E8 b (Qa s)=Qe b (Qa s)then .tuple #[.int .i64 (E8 b (Qa s)),.bool true]else .tuple #[.int .i64 0,.bool false]:=by
 have a:=yJ h;cases b with
 |true =>
  grind[Qcf,E8]
 |false =>
  let⟨O,c,_,_,e⟩:=Qcg (Qa s) a;rw[show E8 false (Qa s)=O from c];exact e
theorem yK(a:(JZ (E8 b (Qa s)-Qe b (Qa s)) != 0)=true):Value.tuple #[.int .i64 0,.bool false]=ZL (Qe b (Qa s)):=by
 rw[yH h,if_neg λe=>by rw[e,Int.sub_self]at a;cases a]
theorem qE(a:(JZ (E8 b (Qa s)-Qe b (Qa s)) != 0)=false):Value.tuple #[.int .i64 (E8 b (Qa s)),.bool true]=ZL (Qe b (Qa s)):=by
 grind[yH,sgn_eq]
end
theorem xY(O:Int)(b:Bool)(s:m1)(c:s.size<=16777216)(d:-9223372036854775808<=O/\O<=9223372036854775807)(w:m0):RetAt prog w 99 #[.agg #[.bool (neg O),.string (QJ O)],.agg #[.bool b,.string s]] (.int .i64 (JZ (O-Qe b (Qa s)))):=⟨λa w=>call99 a w,λW _=>by
 grind[aU,XU,jl,Xp]⟩
abbrev Hza(s:m1):=E8 false (Qa s)
abbrev Hzb(s:m1):=E8 true (Qa s)
variable{s:m1}{b:Bool}
def si(q:s.size<=16777216)(w:m0):RetAt prog w 192 #[.agg #[Ξ b,Ψ s]] (ZL (Qe b (Qa s))) :=
 let r:OB:=some (30,[bV b,sV s]);rk [x04 1 2 (iV ((nd 1 (Qa s):Nat):Int)),.both [] [x04 4 2 (sV (QL (Qa s))),x09 4 3 [] (λ(d:Hp)=>(Ω d.1 (QL (Qa s)).size d.2,IR (QL (Qa s)) d.1,[x0a (0:Nat) (λ(k:Nat) (u:List Hp)=>k+1) (λ(k:Nat)=>((⟨39,[(1,.ptr 0 0),(4,.val (.int .u64 ((pre (QL (Qa s)) k:Nat):Int))),(15,lV d.1 (QL (Qa s)).size d.2),(16,iV (((QL (Qa s)).size:Nat):Int)),(17,iV (k:Int))],[none],[none]⟩:St),(k<=(QL (Qa s)).size),((QL (Qa s)).size-k),[.both [x06 6 0 [0] (.pointer (some (Q5 d.1 (k*1+0)))),x06 6 1 [0] (.int .u8 ((bt (QL (Qa s)) k:Nat):Int)),x03 7 1 (.int .u64 (((pre (QL (Qa s)) k:Nat):Int)*256)),x05 7 3 (.val (.int .u64 ((bt (QL (Qa s)) k:Nat):Int))),x03 7 4 (.int .u64 ((pre (QL (Qa s)) (k+1):Nat):Int)),x05 8 0 (iV ((k+1:Nat):Int)),.nxt []] [.both [x05 11 1 (iV (Hzb s)),.reg 5 [],x04 12 1 (.agg [bV (neg (Hzb s)),sV (QJ (Hzb s))]),x04 12 3 (iV (JZ ((Hzb s)-Qe b (Qa s)))),.both [] []] [x05 11 1 (iV (Hza s)),.reg 5 [],x04 12 1 (.agg [bV (neg (Hza s)),sV (QJ (Hza s))]),x04 12 3 (iV (JZ ((Hza s)-Qe b (Qa s)))),.both [] []]]]))]))]] λW t v=>ai (Cr W λW=>ED s W x3)<|Xi (decide (((nd 1 (Qa s):Nat):Int)>64)) (λg=>(show(.tuple #[Θ 0,Ξ false]:y9)=ZL (Qe b (Qa s))from QbN g)) λg=>ai (Cr W λW=>(OK s W).mono λ_ _ h=>⟨h.1,h.2▸p5 _ _⟩)<|ai (ME prog W 9 82 5 x5 x5 x5 (QL (Qa s))) λ(d:Hp)=>Vv (rfl:(0:Int)=((pre (QL (Qa s)) 0:Nat):Int)) (qV (Ω d.1 (QL (Qa s)).size d.2)) (qI (((QL (Qa s)).size:Nat):Int)) (rfl:(0:Int)=((0:Nat):Int)) (qk r) (XR (IR (QL (Qa s)) d.1))<|ai (show 0<=(QL (Qa s)).size from L7 _) λ(k:Nat) (x:(k<=(QL (Qa s)).size))=>Xi (decide ((k:Int)<(((QL (Qa s)).size:Nat):Int))) (λf=>Yx (Pp (QL (Qa s)) d.1 W (λm p=>Fw d.2 m p k (show k<(QL (Qa s)).size from Qt f))) (Pp (QL (Qa s)) d.1 W (λm p=>Oz m p k 0 (show k<(QL (Qa s)).size from Qt f) x4 rfl)) (QfI W (.tmp 21) (.const (.int .u64 8)) (pre (QL (Qa s)) k) (qD g (show k<(QL (Qa s)).size from Qt f))) (show IntKind.u64.wrap ((bt (QL (Qa s)) k:Nat):Int)=((bt (QL (Qa s)) k:Nat):Int)from by rw[b7];have:=UInt8.toNat_lt ((QL (Qa s)).data.toList.getD k 0);unfold bt;omega) (Qfw ((bt (QL (Qa s)) k:Nat):Int) (QL (Qa s)) W (.tmp 22) (.tmp 24) k (qD g (show k<(QL (Qa s)).size from Qt f)) (show k<(QL (Qa s)).size from Qt f) rfl) (QD k (k0 (yM g) (L0 f))) (qI ((pre (QL (Qa s)) (k+1):Nat):Int)) (qV (Ω d.1 (QL (Qa s)).size d.2))<|Ky (qI (((QL (Qa s)).size:Nat):Int)) (qI (((k+1):Nat):Int)) (qk r) (XR (IR (QL (Qa s)) d.1))<|ai (show k+1<=(QL (Qa s)).size from(show k<(QL (Qa s)).size from Qt f)) (show(QL (Qa s)).size-(k+1)<(QL (Qa s)).size-k from hA (L0 f))) λf=>Xi b (λl=>Ja (show IntKind.i64.wrap (IntKind.u64.wrap (0-((pre (QL (Qa s)) k:Nat):Int)))=(E8 true (Qa s))from by rw[(show pre (QL (Qa s)) k=Qa s from by rw[show k=(QL (Qa s)).size from hA (L1 f),ib,XT])];rfl) (Cr W λW=>Cm (Hzb s) W (FT _ _).1 (FT _ _).2) (xY (Hzb s) b s q (FT _ _) W)<|Xi ((JZ ((E8 true (Qa s))-Qe b (Qa s))) != 0) (λj=>(show(.tuple #[Θ 0,Ξ false]:y9)=ZL (Qe b (Qa s))from by subst l;exact yK g j)) λj=>(show(.tuple #[Θ (E8 true (Qa s)),Ξ true]:y9)=ZL (Qe b (Qa s))from by subst l;exact qE g j)) λl=>Ja (show IntKind.i64.wrap ((pre (QL (Qa s)) k:Nat):Int)=(E8 false (Qa s))from by rw[(show pre (QL (Qa s)) k=Qa s from by rw[show k=(QL (Qa s)).size from hA (L1 f),ib,XT])];rfl) (Cr W λW=>Cm (Hza s) W (FT _ _).1 (FT _ _).2) (xY (Hza s) b s q (FT _ _) W)<|Xi ((JZ ((E8 false (Qa s))-Qe b (Qa s))) != 0) (λj=>(show(.tuple #[Θ 0,Ξ false]:y9)=ZL (Qe b (Qa s))from by subst l;exact yK g j)) λj=>(show(.tuple #[Θ (E8 false (Qa s)),Ξ true]:y9)=ZL (Qe b (Qa s))from by subst l;exact qE g j)
theorem aX(s:m1)(b:Bool)(w:m0)(a:s.size<=16777216):o4 prog 192 #[.agg #[.bool b,.string s]] w (ZL (Qe b (Qa s))):=(si a w).at
open Go.Lib
def TB:Nat:=1000000000000000000
def Ph:0<TB:=x4
variable{z:Int}
theorem kL(a:-9223372036854775808<=z)(b:z<=9223372036854775807):ZL z=.tuple #[.int .i64 z,.bool true]:=by grind[ZL]
def pd(s:ByteArray)(w:World)(a:s.size<=16777216)(b:Qa s<9223372036854775808):
  o4 prog 141 #[.string s] w (.int .u64 (Qa s:Nat)):=by
 have c:=x0f (λW=>aX s false W a);rw[show Qe false (Qa s)=(Qa s:Int)from rfl,kL x3 x3]at c;have g:IntKind.u64.wrap (Qa s:Int)=(Qa s:Int):=by rw[b7];omega
 generalize Qa s=v at *;clear b;go_enter func141,ntmps141
 go_wp2_with fail
 refine(c.out _).mono ?_
 rintro e i ⟨rfl,f⟩;go_wp2
 go_ret
 exact⟨rfl,f⟩
def Wi:(prog.info? 9).map (λi=>(i.zero,i.size,i.bytes))=some (some (x00),1,16):=x5
def dP(v j:Nat):y9:=.string ⟨(DJ 18 (v / TB^j)).toArray⟩
def zW(v k j:Nat):y9:=if j=k then .string ⟨(decDigits (v / TB^k)).toArray⟩else dP v j
variable{v:Nat}
theorem zB(h:v / TB≠0):decDigits v=decDigits (v / TB)++DJ 18 v:=fF 18 v h
theorem I2(v k:Nat):v / TB^(k+1)=v / TB^k / TB:=by rw[Rk,R8]
def p9:∀n,repeatL [48] n=List.replicate n 48
 |0=>rfl
 |n+1=>by rw[repeatL,p9 n,List.replicate_succ];rfl
theorem Dx(l m:List UInt8):(⟨l.toArray⟩:m1)++⟨m.toArray⟩=⟨(l++m).toArray⟩:=by
 rfl
def Qa4(r:Nat)(a:r<TB):(⟨(repeatL [48] (18-nDigits r)).toArray⟩:m1)++⟨(decDigits r).toArray⟩=⟨(DJ 18 r).toArray⟩:=by
 rw[Wr 18 r (Jy a x4),p9,Dx]
def C5(l:List UInt8):(⟨l.toArray⟩:m1).size=l.length:=by rfl
def svO:y9->Nat | .string s=>Qa s|_=>0
def EC{u:Nat}(h:u<=v):nDigits u<=nDigits v:=Jy (Lw h (lt_pow_nDigits v)) (nDigits_pos v)
theorem B7{n:Nat}(h:v<256^n):nDigits v<=3*n+1:=by
 refine Jy ?_ (Sw _)
 have a:256^n<=1000^n:=Nat.pow_le_pow_left x4 n
 grind[T1]
def QcA{n:Nat}(h:v<256^n)(b:TB^k<=v):k<n:=by
 have c:256^k<=TB^k:=Nat.pow_le_pow_left x4 k;exact(Nat.pow_lt_pow_iff_right (a:=256) x4).1 x3
variable{j:Nat}
theorem QcB(h:TB^k<=v)(a:j<=k):v / TB^j≠0:=by
 have b:TB^j<=TB^k:=Lh x4 a;have c:0<v / TB^j:=Nat.div_pos x3 (Se Ph);omega
def kP(l m:List UInt8):Lib.byteCells l++Lib.strCells ⟨m.toArray⟩=Lib.byteCells (l++m):=by simp[Lib.byteCells,Lib.strCells]
def Pk(v k p:Nat):List UInt8:=if p=k+1 then[]else decDigits (v / TB^p)
def lH(v k p:Nat):(Pk v k p).length<=nDigits v:=by
 unfold Pk;split;all_goals simp[Ji,EC,Rn]
def cv(v k q:Nat):List UInt8:=if q=k then decDigits (v / TB^k)else DJ 18 (v / TB^q)
theorem zX(v k q:Nat):zW v k q=.string ⟨(cv v k q).toArray⟩:=by grind[zW,cv,dP]
def mW(v k q:Nat):(cv v k q).length<=nDigits v+18:=by
 unfold cv;split
 ·rw[Ji];exact L6 (EC (Rn _ _)) (Rm _ _)
 simp[Wp]
theorem jh{q:Nat}(a:q<=k)(h:k=0\/TB^k<=v):Pk v k (q+1)++cv v k q=Pk v k q:=by
 grind[Pk,cv,I2,QcB,zB]
def UY(s:ByteArray)(w:World)(hs:s.size<=65536)(hT:Tab10 w):
  o4 prog 104 #[.string s] w (.string ⟨(decDigits (Qa s)).toArray⟩):=by
 have U:=x0f (λW=>Io 1000000000000000000 W x4);have O:=x0f (λ(m:ByteArray) W (h:m.size<=65536)=>Wx m (QL TB) W x3 (by rw[GE];decide));have I:Qa (QL TB)=TB:=XT _;simp only[I,if_neg (Nat.ne_of_gt Ph)]at O;have Q:=x0f (λ(r:Nat) W (h:r<TB)=>pd (QL r) W (by rw[GE];exact L6 (Xf (k:=8) (n:=8) x4 (Ut h x4)) x4) (by rw[XT];exact Ut h x4));simp only[XT]at Q;have V:=x0f (λ(r:Nat) W (h:r<TB) (f:Below w.heap.size w W)=>tV r (Ut h x4) W (hT.later f));have X:=x0f (λ(c:Nat) W (h:c<=18)=>Tryz.strings_Repeat (⟨#[48]⟩:ByteArray) c W x3 (by show 1*c<=_;omega));clear hT I;generalize Y:Qa s=v at *;have D:v<256^s.size:=Y▸Dk s;have Z:=x0f (B7 D);have J:=x0f D;have HV:=x0f Y;clear Y D;go_enter func104,ntmps104
 go_wp2_with fail
 go_loopw [0,3] (λmg out wr=>∃(k:Nat) (m:ByteArray),mg=.string m/\Qa m=v / TB^k/\m.size<=65536/\k<=s.size/\Hid (k=0\/TB^k<=v)/\OwnR wr w.heap.size 9 out k (dP v)/\Below w.heap.size w wr) (λmg _ _=>svO mg)
 case atStart=>exact⟨0,s,rfl,by rw[Tx,Nat.div_one];exact HV.out,hs,L7 _,x0f (.inl rfl),OwnR.nil_ _ _ _ _,p5 _ _⟩
 case round =>
  obtain⟨k,m,rfl,S,ad,hk,ae,a,g⟩:=hrel;have HM:=x0f S;have H:v / TB^k % TB<TB:=Re _ Ph;have T:=x0f (λW=>O.out m W ad);rw[S,<- I2]at T;have c2:=x0f (λW=>Q.out _ W H);have c3:=x0f (λW f=>V.out _ W H f);have K:k+1<=9223372036854775807:=x3;have L:(k+1)*16<=140737488355328:=x3;by_cases u:v / TB^(k+1)=0
  ·have he:(QL (v / TB^(k+1))).toList=[]:=nstr_empty.2 u;have hV:v / TB^k % TB=v / TB^k:=by
    rw[I2]at u;exact Rc (k0 (Nat.div_eq_zero_iff.1 u) Ph)
   have HF:=x0f (show zW v k=λj=>if j=k then .string ⟨(decDigits (v / TB^k % TB)).toArray⟩else dP v j by rw[hV];rfl);clear H hV u S O Q V X HM;generalize QL (v / TB^(k+1))=q at *;generalize QL (v / TB^k % TB)=r at *;generalize (⟨(decDigits (v / TB^k % TB)).toArray⟩:ByteArray)=d at *;generalize v / TB^k % TB=R at *;go_wp2_with fail
   refine(U.out _).mono ?_
   rintro e w1 ⟨rfl,f⟩;replace g:=nxt g f;replace a:=a.below f (L4 _);clear f;go_wp2_with fail
   refine(T.out _).mono ?_
   rintro e w2 ⟨rfl,f⟩;replace g:=nxt g f;replace a:=a.below f (L4 _);clear f;go_wp2_with fail
   refine(c2.out _).mono ?_
   rintro e w3 ⟨rfl,f⟩;replace g:=nxt g f;replace a:=a.below f (L4 _);clear f;go_wp2_with fail
   refine(c3.out _ g).mono ?_
   rintro e w4 ⟨rfl,f⟩;replace g:=nxt g f;replace a:=a.below f (L4 _);clear f;go_wp2_with (at_builtin;refine Ax rfl (.tmp 22) (.tmp 24) _ rfl w.heap.size 9 (.string ⟨#[]⟩) 16 Tryz.underlying93 Wi rfl _ k (dP v) _ rfl rfl a rfl K L g.size ?_;intro v' C o y ag)
   replace y:=g.trans y;rw[<- HF.out]at o;obtain⟨A,c,rfl,cb,al,_⟩:=o.rd;have ao:=Lib.fresh_isBuilder 85 5 C;have cS:=x0f (λ(b:Nat) (l:List UInt8) W h g=>Tryz.Builder_String_any C.heap.size b l W h g);have cW:=x0f (λ(b:Nat) (bs:List Value) (x:ByteArray) W h hl g=>lI C.heap.size b bs x W h hl g);have hL:=b1 C (.cells #[.pointer none,.slice none 0 0] 85);clear T c2 c3 U a;have HB:=x0f y;have cc:((k+1:Nat):Int)<=65537:=x3;have aB:∀W,(Builtin.len_ #[93] 3 #[.slice A (k+1) c]).run prog W=.ok (.int .i64 ((k+1:Nat):Int)) W:=λW=>by
    rw[run_len_slice (P:=prog) (h:=Tryz.underlying93)];rfl
   go_wp2_with fail
   simp only[aB,c8];go_wp2
   go_loopw [9] (λi wr=>∃p:Nat,p<=k+1/\i=.int .i64 ((p:Int)-1)/\Lib.IsBuilder 85 5 C.heap.size C.heap.size (Lib.byteCells (Pk v k p)) wr/\Below C.heap.size C wr) (λi _=>(RowKit.intOf i+1).toNat)
   case atStart =>
    refine⟨k+1,L4 _,x6,?_,hL⟩;unfold Pk;rw[if_pos rfl];exact ao
   case round =>
    obtain⟨p,hp,rfl,E,B⟩:=hrel;rcases p with _|q
    ·have cs:=x0f (cS.out _ _ wr E B.size);have t:¬(0:Int)<=((0:Nat):Int)-1:=x3;have hd:decide ((0:Int)<=((0:Nat):Int)-1)=false:=Lc t;have HE:=x0f (show Pk v k 0=decDigits v by unfold Pk;rw[if_neg x3,Tx,Nat.div_one]);go_wp2_with fail
     refine cs.out.mono ?_
     rintro e w8 ⟨rfl,f⟩;go_wp2
     go_ret
     exact⟨by rw[HE.out];rfl,nxt HB.out (B.trans f)⟩
    ·have u:q<=k:=x3;obtain⟨b,off,rfl,hc⟩:=al x3;have g1:=Lj B (hc q x3);rw[zX]at g1;have bd:=mW v k q;have M:=lH v k (q+1);have hN:=Z.out;have cw:=x0f (cW.out _ _ (⟨(cv v k q).toArray⟩:ByteArray) wr E (by rw[Lib.byteCells_length,C5];omega) B.size);have HS:=x0f (jh u ae.out);clear hc M bd hN E;have e1:((q+1:Nat):Int)-1=(q:Int):=x3;rw[e1];have t:(0:Int)<=(q:Int):=x3;have hd:decide ((0:Int)<=(q:Int))=true:=Lk t;have cd:(q:Int)<((k+1:Nat):Int):=x3;go_wp2_with fail
     refine cw.out.mono ?_
     rintro e w8 ⟨rfl,bi,f⟩;go_wp2
     refine⟨⟨q,x3,by go_num,.inr ?_,B.trans f⟩,by simp[RowKit.intOf]⟩;rw[<- HS.out,<- kP];exact bi
  ·have he:(QL (v / TB^(k+1))).toList.isEmpty=false:=by
    rw[U4];exact λh=>u (nstr_empty.1 h)
   have F:TB^(k+1)<=v:=by
    rcases R5 v (TB^(k+1))with h|h
    ·exact absurd (Sg h) u
    ·exact h
   have bk:k+1<=s.size:=Sv (QcA (k:=k+1) J.out F);have t:v / TB^(k+1)<v / TB^k:=by
    rw[I2]at u ⊢;exact Nat.div_lt_self (Nat.pos_of_ne_zero λh=>u (by rw[h,Nat.zero_div])) x4
   have bl:(QL (v / TB^(k+1))).size<=65536:=by
    rw[GE];refine L6 (Xf (k:=8) (n:=s.size) x4 ?_) hs;exact Lw (Rn _ _) J.out
   have bX:nDigits (v / TB^k % TB)<=18:=Jy H x4;have G:(⟨(decDigits (v / TB^k % TB)).toArray⟩:ByteArray).size=nDigits (v / TB^k % TB):=by rw[C5,Ji]
   have cf:¬ 9223372036854775807<(⟨(repeatL [48] (18-nDigits (v / TB^k % TB))).toArray⟩:ByteArray).size+(⟨(decDigits (v / TB^k % TB)).toArray⟩:ByteArray).size:=by
    rw[G,C5,p9,Sl];omega
   have hw:IntKind.i64.wrap (18-((⟨(decDigits (v / TB^k % TB)).toArray⟩:ByteArray).size:Int))=((18-nDigits (v / TB^k % TB):Nat):Int):=by
    rw[G,Le _ x3];omega
   have c4:=x0f (λW=>X.out (18-nDigits (v / TB^k % TB)) W (Nat.sub_le _ _));have HP:=x0f (Qa4 _ H);have N:=x0f (show Qa (QL (v / TB^(k+1)))=v / TB^(k+1)from XT _);have HD:=x0f (show DJ 18 (v / TB^k % TB)=DJ 18 (v / TB^k)from Wq 18 _);have bY:=x0f F;have ca:=x0f t;clear H u S O Q V X F t G bX;generalize QL (v / TB^(k+1))=q at *;generalize QL (v / TB^k % TB)=r at *;generalize (⟨(decDigits (v / TB^k % TB)).toArray⟩:ByteArray)=d at *;generalize 18-nDigits (v / TB^k % TB)=z at *;generalize (⟨(repeatL [48] z).toArray⟩:ByteArray)=x at *;generalize v / TB^k % TB=R at *;go_wp2_with fail
   refine(U.out _).mono ?_
   rintro e w1 ⟨rfl,f⟩;replace g:=nxt g f;replace a:=a.below f (L4 _);clear f;go_wp2_with fail
   refine(T.out _).mono ?_
   rintro e w2 ⟨rfl,f⟩;replace g:=nxt g f;replace a:=a.below f (L4 _);clear f;go_wp2_with fail
   refine(c2.out _).mono ?_
   rintro e w3 ⟨rfl,f⟩;replace g:=nxt g f;replace a:=a.below f (L4 _);clear f;go_wp2_with fail
   refine(c3.out _ g).mono ?_
   rintro e w4 ⟨rfl,f⟩;replace g:=nxt g f;replace a:=a.below f (L4 _);clear f;go_wp2_with fail
   refine(c4.out _).mono ?_
   rintro e C ⟨rfl,f⟩;replace g:=nxt g f;replace a:=a.below f (L4 _);clear f;go_wp2_with (at_builtin;refine Ax rfl (.tmp 26) (.tmp 33) _ rfl w.heap.size 9 (.string ⟨#[]⟩) 16 Tryz.underlying93 Wi rfl _ k (dP v) _ rfl rfl a rfl K L g.size ?_;intro v' w6 o y ag)
   refine⟨⟨k+1,q,rfl,N.out,bl,bk,x0f (.inr bY.out),o.congr λj hj=>?_,g.trans y⟩,?_⟩
   ·by_cases e:j=k
    ·subst e;rw[if_pos rfl];unfold dP;rw[<- HD.out,<- HP.out]
    ·rw[if_neg e]
   ·show Qa q<Qa m;rw[N.out,HM.out];exact ca.out
def DD(v:Nat):m1:=⟨(decDigits v).toArray⟩
def bW(v:Nat):(DD v).size=nDigits v:=by simp[DD,C5,Ji]
def Qe9(s:m1)(W:m0)(a:s.size<=65536)(b:Tab10 W):o4 prog 104 #[.string s] W (.string (DD (Qa s))):=UY s W a b
def zY(a:s.size<=65536):(⟨#[45]⟩:m1).size+(DD (Qa s)).size<=9223372036854775807:=by
 have h:=B7 (Dk s);rw[bW];show 1+_<=_;omega
theorem vR(h:decide (JZ (Qe b (Qa s))<0)=true):(⟨#[45]⟩:m1)++DD (Qa s)=Qz (Qe b (Qa s)):=by
 grind[V2,Qz,itoa,DD,Xd,Dx]
theorem vS(h:decide (JZ (Qe b (Qa s))<0)=false):DD (Qa s)=Qz (Qe b (Qa s)):=by
 grind[V2,Qz,itoa,DD,Xd]
def Dn(s:m1):Bool:=hasPrefix s.data.toList [45]
def Xl(s:m1):m1:=⟨(trimPrefix s.data.toList [45]).toArray⟩
def mb(s:m1)(W:m0):o4 prog 237 #[.string s,.string ⟨#[45]⟩] W (.tuple #[.string (Xl s),.bool (Dn s)]) :=
 (Tryz.strings_CutPrefix s ⟨#[45]⟩ W).mono λe a ⟨b,c⟩=>⟨b,by rw[c];exact p5 _ _⟩
def jw(s:m1):(Xl s).data.toList=trimPrefix s.data.toList [45]:=by simp[Xl]
theorem fz(h:Dn s=true):∃l,s.data.toList=45::l/\(Xl s).data.toList=l:=by
 rw[jw];unfold Dn at h;unfold trimPrefix;rw[if_pos h];unfold hasPrefix at h;cases e:s.data.toList with
 |nil=>rw[e]at h;cases h
 |cons c l =>
  grind
theorem mc(h:Dn s=false):Xl s=s/\∀c l,s.data.toList=c::l->(c==45)=false:=by
 unfold Dn at h;refine⟨?_,λc l e=>?_⟩
 ·unfold Xl trimPrefix;simp_all
 grind[hasPrefix]
theorem PA{n:Nat}(a:s.size<=n):(Xl s).size<=n:=by
 have b:(Xl s).data.toList.length=(Xl s).size:=x6;have c:s.data.toList.length=s.size:=x6;cases h:Dn s with
 |true =>
  grind[fz]
 |false=>rw[(mc h).1];exact a
def PG(l:List UInt8):y9:=match X6 l with
 |some i=>.tuple #[.agg #[.bool false,.string ⟨#[]⟩],.int .i64 i,.int .i64 2]
 |none=>.tuple #[.agg #[.bool (neg (YR l)),.string (QJ (YR l))],.int .i64 0,.int .i64 0]
theorem Vn(l:List UInt8):(∃i:Nat,Vd l=some i/\Z8 l=i)\/(Vd l=none/\Z8 l=-1):=by
 unfold Z8;cases h:Vd l with
 |some i=>exact .inl ⟨i,rfl,rfl⟩
 |none=>exact .inr ⟨rfl,rfl⟩
variable{i:Nat}
theorem Nl{l:List UInt8}(h:Vd l=some i):i<=l.length:=by
 unfold Vd at h;split at h
 ·rename_i j a;have b:=List.mem_of_find?_eq_some a
  grind
 grind
theorem wJ(s:m1):-1<=Z8 s.data.toList/\Z8 s.data.toList<=s.size:=by
 rcases Vn s.data.toList with⟨i,a,b⟩|⟨_,b⟩
 ·have:=Nl a;simp_all
 ·omega
theorem qJ(a:s.size<=65536):IntKind.i64.wrap (Z8 (Xl s).data.toList+1)=Z8 (Xl s).data.toList+1:=by
 have h:=wJ (Xl s);have b:=PA a
 grind[Le]
theorem Px(h:(Z8 (Xl s).data.toList != 0)=true):0<(Xl s).size:=by
 rcases T5 (Xl s).size with a|a
 ·have:(Xl s).data.toList=[]:=So.1 (l3 a);rw[this]at h;exact absurd h x4
 ·exact a
def UG(h:decide (Z8 (Xl s).data.toList>=0)=false):zE (Xl s):=by
 have e:=L1 h;rcases Vn (Xl s).data.toList with⟨i,_,a⟩|⟨a,_⟩
 ·omega
 ·have b:=spoil_none.1 a;intro j c;have d:=isDig_iff.1 (TJ (b.2 j (l3 c)));exact d
theorem cJ(b:0<s.size):(s.data.toList.head?==some 48)=decide (byt s 0=48):=by
 let⟨c,l,e,a⟩:=j7 s b;rw[e];by_cases h:byt s 0=48
 ·have:c=48:=UInt8.toNat_inj.1 (by rw[a,h];rfl)
  grind
 ·have:¬ c=48:=λd=>h (by rw[<- a,d];rfl)
  grind
def FM(h:Dn s=true):X6 s.data.toList=(match (Xl s).data.toList.head?==some 48 with|true=>some 1|false=>(Vd (Xl s).data.toList).map (· + 1))/\YR s.data.toList=-(JT (Xl s).data.toList:Int):=by
 let⟨l,a,b⟩:=fz h;rw[a,b];exact⟨rfl,rfl⟩
def OP(h:Dn s=false):X6 s.data.toList=Vd (Xl s).data.toList/\YR s.data.toList=(JT (Xl s).data.toList:Int):=by
 let⟨a,b⟩:=mc h;rw[a];cases e:s.data.toList with
 |nil=>exact⟨rfl,rfl⟩
 |cons c l =>
  simp only[X6,YR,b c l e];simp
theorem Qfa(a:Dn s=true)(c:(Z8 (Xl s).data.toList != 0)=true)(b:((byt (Xl s) 0:Int)==48)=true):(.tuple #[.agg #[.bool false,.string ⟨#[]⟩],.int .i64 1,.int .i64 2]:y9)=PG s.data.toList:=by
 have d:=(FM a).1
 grind[cJ,Px,PG]
theorem QcZ(f:Dn s=true)(g:¬((Z8 (Xl s).data.toList != 0)=true/\byt (Xl s) 0=48))(k:decide (Z8 (Xl s).data.toList>=0)=true):(.tuple #[.agg #[.bool false,.string ⟨#[]⟩],.int .i64 (Z8 (Xl s).data.toList+1),.int .i64 2]:y9)=PG s.data.toList:=by
 have c:=(FM f).1;have t:=L0 k;rcases Vn (Xl s).data.toList with⟨i,a,d⟩|⟨_,d⟩
 ·have l:((Xl s).data.toList.head?==some 48)=false:=by
   by_cases m:0<(Xl s).size
   ·rw[cJ m];by_cases e:byt (Xl s) 0=48
    ·have n:¬(Z8 (Xl s).data.toList != 0)=true:=λh=>g ⟨h,e⟩
     have o:Z8 (Xl s).data.toList=0:=l3 n;have p:i=0:=x3;subst p;exfalso;unfold Vd at a;split at a
     ·rename_i j q;obtain rfl:j=0:=by injection a
      have u:=List.find?_some q
      grind[ff]
     ·split at a
      ·rename_i b;have v:(Xl s).data.toList.length=0:=by rw[b];rfl
       have r:(Xl s).data.toList.length=(Xl s).size:=x6;omega
      ·cases a
    ·exact Lc e
   ·have r:(Xl s).data.toList.length=(Xl s).size:=x6;have:(Xl s).data.toList=[]:=So.1 x3;rw[this];rfl
  rw[l,a]at c;unfold PG;rw[c,d]
  rfl
 ·omega
theorem Qfb(a:Dn s=false)(b:decide (Z8 (Xl s).data.toList>=0)=true):(.tuple #[.agg #[.bool false,.string ⟨#[]⟩],.int .i64 (Z8 (Xl s).data.toList),.int .i64 2]:y9)=PG s.data.toList:=by
 have c:=(OP a).1
 grind[Vn,PG]
theorem Qfc(d:Dn s=true)(j:¬((Z8 (Xl s).data.toList != 0)=true/\byt (Xl s) 0=48))(e:decide (Z8 (Xl s).data.toList>=0)=false):(.tuple #[.agg #[.bool (neg (Qe true (JT (Xl s).data.toList))),.string (QJ (Qe true (JT (Xl s).data.toList)))],.int .i64 0,.int .i64 0]:y9)=PG s.data.toList:=by
 let⟨a,f⟩:=FM d;have k:=L1 e;rcases Vn (Xl s).data.toList with⟨i,b,c⟩|⟨b,c⟩
 ·omega
 ·have g:(Z8 (Xl s).data.toList != 0)=true:=by rw[c];rfl
  have h:((Xl s).data.toList.head?==some 48)=false:=by
   grind[cJ,Px]
  rw[h,b]at a;unfold PG;rw[a,f];rfl
def Qfd(c:Dn s=false)(d:decide (Z8 (Xl s).data.toList>=0)=false):(.tuple #[.agg #[.bool (neg (Qe false (JT (Xl s).data.toList))),.string (QJ (Qe false (JT (Xl s).data.toList)))],.int .i64 0,.int .i64 0]:y9)=PG s.data.toList:=by
 let⟨a,e⟩:=OP c;have g:=L1 d;rcases Vn (Xl s).data.toList with⟨i,b,f⟩|⟨b,f⟩
 ·omega
 ·rw[b]at a;unfold PG;rw[a,e];rfl
theorem sd(b:Bool)(v:Nat)(W:m0):o4 prog 128 #[.agg #[.bool b,.string (QL v)]] W (.agg #[.bool (neg (Qe b v)),.string (QJ (Qe b v))]):=by
 grind[Cl,XT]
theorem Qai(W:World)(p q:Operand)(x y:Int):Qp prog W (do eqGuard .eql 30 p q (vI x) (vI y);binOp .eql 30 (vI x) (vI y)) (.bool (decide (x=y))):=λa _=>by
 have h:(neg x=neg y/\(QJ x).toList=(QJ y).toList)↔x=y:=by
  rw[S5,S5];exact⟨λh=>QaH h.1 (ByteArray.ext (l3 h.2)),λh=>by rw[h];exact⟨rfl,rfl⟩⟩
 unfold vI;simp[go_sem];by_cases e:x=y
 ·subst e;simp
 ·have b:=mt h.1 e;by_cases c:neg x=neg y<;>by_cases d:(QJ x).toList=(QJ y).toList<;>simp_all
def vT(d:s.size<=65536)(w:m0)(a:Tab10 w):RetAt prog w 68 #[.agg #[Ξ b,Ψ s]] (Ψ (Qz (Qe b (Qa s)))) :=
 rk [x04 1 2 (sV (DD (Qa s))),x04 2 1 (iV (JZ (Qe b (Qa s)))),.both [x03 3 1 (Ψ (⟨#[45]⟩++(DD (Qa s))))] []] λW e f=>(λ(a:Tab10 W)=>X0 (wu a call104 λW h=>Qe9 s W d h) (rc W call97 λW=>GI s b W)<|Xi (decide ((JZ (Qe b (Qa s)))<0)) (λc=>ai (SI W (.const (Ψ ⟨#[45]⟩)) (.tmp 10) ⟨#[45]⟩ (DD (Qa s)) (zY d))<|(show(Ψ (⟨#[45]⟩++(DD (Qa s))):y9)=Ψ (Qz (Qe b (Qa s)))from Lu Ψ (vR c))) λc=>(show(Ψ (DD (Qa s)):y9)=Ψ (Qz (Qe b (Qa s)))from Lu Ψ (vS c))) (a.later e)
def Hzc(s:m1):List Dir:=[.br false,.br false,x04 9 2 (sV (QL (JT (Xl s).data.toList))),x04 9 4 (.val (vI (Qe (Dn s) (JT (Xl s).data.toList))))]
def vq(e:s.size<=65536)(w:m0):RetAt prog w 209 #[Ψ s] (PG s.data.toList) :=
 rk [x04 1 1 (.tup [sV (Xl s),bV (Dn s)]),x04 2 1 (iV (Z8 (Xl s).data.toList)),.gb 3 2 [.gb 3 6 [x03 3 7 (.int .u8 (byt (Xl s) 0:Int)),.both [.br true,x05 6 2 (iV 1)] [.gb 5 3 [.br true,x05 6 2 (iV (Z8 (Xl s).data.toList+1))] (Hzc s)]] [.g 5 3 true,.br true,x05 6 2 (iV (Z8 (Xl s).data.toList+1))]] [.gb 5 3 [.br false,.br true] (Hzc s)]] λW f i=>X0 (rc W call237 λW=>mb s W) (rc W call238 λW=>er (Xl s) W (hA (PA e)))<|ZD (Dn s) true (λa=>ZD ((Z8 (Xl s).data.toList) != 0) true (λd=>ai (wO W (Xl s) 0 (Px d))<|Xi ((byt (Xl s) 0:Int)==48) (λc=>X0 a (show IntKind.i64.wrap (0+1)=1 from x4)<|(show(.tuple #[.agg #[Ξ false,x00],Θ 1,Θ 2]:y9)=PG s.data.toList from Qfa a d c)) λc=>ZD (decide ((Z8 (Xl s).data.toList)>=0)) true (λb=>X0 a (qJ e)<|(show(.tuple #[.agg #[Ξ false,x00],Θ (Z8 (Xl s).data.toList+1),Θ 2]:y9)=PG s.data.toList from QcZ a (λh=>xV c x3) b)) λb=>Ky (rfl:false=false) b (rc W call239 λW=>Pc (Xl s) W (PA e) (UG b)) (rc W call128 λW=>sd (Dn s) (JT (Xl s).data.toList) W)<|(show(.tuple #[vI (Qe (Dn s) (JT (Xl s).data.toList)),Θ 0,Θ 0]:y9)=PG s.data.toList from by rw[a];exact Qfc a (λh=>xV c x3) b)) λd=>Ja (show decide ((Z8 (Xl s).data.toList)>=0)=true from Lk (by have:=d;simp at this;omega)) a (qJ e)<|(show(.tuple #[.agg #[Ξ false,x00],Θ (Z8 (Xl s).data.toList+1),Θ 2]:y9)=PG s.data.toList from QcZ a (λh=>absurd h.1 (by rw[d];decide)) (Lk (by have:=d;simp at this;omega)))) λa=>ZD (decide ((Z8 (Xl s).data.toList)>=0)) true (λb=>X0 a b<|(show(.tuple #[.agg #[Ξ false,x00],Θ (Z8 (Xl s).data.toList),Θ 2]:y9)=PG s.data.toList from Qfb a b)) λb=>Ky (rfl:false=false) b (rc W call239 λW=>Pc (Xl s) W (PA e) (UG b)) (rc W call128 λW=>sd (Dn s) (JT (Xl s).data.toList) W)<|(show(.tuple #[vI (Qe (Dn s) (JT (Xl s).data.toList)),Θ 0,Θ 0]:y9)=PG s.data.toList from by rw[a];exact Qfd a b)
def bL(b:Bool)(s:m1)(W:m0)(a:s.size<=65536)(h:Tab10 W):o4 prog 68 #[.agg #[.bool b,.string s]] W (.string (Qz (Qe b (Qa s)))):=(vT a W h).at
def UI(z:Int)(W:m0)(a:Zr z<=65536)(h:Tab10 W):o4 prog 68 #[.agg #[.bool (neg z),.string (QJ z)]] W (.string (Qz z)):=by
 have c:=bL (neg z) (QJ z) W (by rw[XU];exact a) h;rwa [Xp]at c
theorem NA(z:Int):(Qz z).size<=nDigits z.natAbs+1:=by
 have h:(Qz z).size=(itoa z).length:=by unfold Qz;rw[C5]
 rw[h];unfold itoa;split
 ·rw[Li,Ji];exact L4 _
 ·rw[Ji,show z.toNat=z.natAbs by omega];omega
def Z9(W:m0)(x y:x0h)(a b c:m1)(d:a.size+b.size<=9223372036854775807)(h:a++b=c):Qp prog W (do eqGuard .add 9 x y (.string a) (.string b);binOp .add 9 (.string a) (.string b)) (.string c):=h▸SI W x y a b d
theorem TQ(z:Int):Zr z<=(itoa z).length:=by
 refine DY ?_
 have b:=lt_pow_nDigits z.natAbs;have a:nDigits z.natAbs<=(itoa z).length:=by
  unfold itoa;split
  ·rw[Li,Ji];omega
  ·rw[Ji,show z.toNat=z.natAbs by omega];exact L4 _
 have c:10^nDigits z.natAbs<=256^nDigits z.natAbs:=Nat.pow_le_pow_left x4 _;have d:256^nDigits z.natAbs<=256^(itoa z).length:=Lh x4 a;omega
def jk{l:m1}{n:Nat}(a:X6 l.data.toList=none)(b:l.size<=n):Zr (YR l.data.toList)<=n:=by
 have h:=TQ (YR l.data.toList);rw[Ms a]at h;have c:l.data.toList.length=l.size:=x6;omega
theorem x9(m e:Int):(dm (dy m e)).natAbs<=m.natAbs:=by
 by_cases h:m=0
 ·subst h;rw[Jj];exact L4 _
 grind[UQ,Tj]
theorem mn{m:Int}(e:Int){n:Nat}(h:m.natAbs<256^n):(dy m e=0/\de (dy m e)=0)\/(e<=de (dy m e)/\de (dy m e)<=e+8*n):=by
 by_cases b:m=0
 ·subst b;rw[Jj];exact .inl ⟨rfl,rfl⟩
 ·right;rw[(UQ e b).2];let⟨k,c⟩:=Ck (v:=m.natAbs) x3;have d:2^tz m.natAbs<=m.natAbs:=by
   grind
  have f:(256:Nat)^n=2^(8*n):=by rw[show(256:Nat)=2^8 from rfl,<- T1]
  have g:tz m.natAbs<8*n:=(Nat.pow_lt_pow_iff_right (a:=2) x4).1 x3;omega
def yt(x:Dyadic):List UInt8:=if de x=0 then itoa (dm x)else itoa (dm x)++112::itoa (de x)
def Dg(x:Dyadic):m1:=⟨(yt x).toArray⟩
theorem ve{x:Dyadic}(h:(de x==0)=true):Qz (dm x)=Dg x:=by
 grind[Dg,yt,Qz]
theorem vd{x:Dyadic}(h:(de x==0)=false):(Qz (dm x)++(⟨#[112]⟩:m1))++Qz (de x)=Dg x:=by
 grind[Dg,yt,Qz,Dx]
def Bl(c:UInt8):Bool:=c==112||c==47
def Xw(l:List UInt8):Nat:=l.findIdx Bl
def Cs(l:List UInt8):Int:=if Xw l=l.length then 0 else((l.getD (Xw l) 0).toNat:Int)
def QbF(l:List UInt8):Xw l<=l.length:=List.findIdx_le_length
theorem el{l:List UInt8}(a:k<l.length)(b:∀j,j<k->Bl (l.getD j 0)=false)(c:Bl (l.getD k 0)=true):Xw l=k:=by
 grind[Xw,List.findIdx_eq]
theorem ac{l:List UInt8}(a:∀j,j<l.length->Bl (l.getD j 0)=false):Xw l=l.length:=by
 grind[Xw]
theorem qr{l:List UInt8}(h:Xw l<l.length):Cs l=((l.getD (Xw l) 0).toNat:Int)/\(Cs l=112\/Cs l=47):=by
 have b:Cs l=((l.getD (Xw l) 0).toNat:Int):=by unfold Cs;rw[if_neg x3]
 refine⟨b,?_⟩;have a:Bl (l.getD (Xw l) 0)=true:=by
  rw[List.getD,p6 h];exact List.findIdx_getElem (w:=h)
 rw[b];unfold Bl at a;rw[Ui]at a;rcases a with a|a
 all_goals simp_all
def pz(l:List UInt8):Int:=match X6 l with|none=>YR l|some _=>0
def pI(l:List UInt8):Int:=match X6 l with|none=>0|some i=>i
def pE(l:List UInt8):Int:=match X6 l with|none=>0|some _=>2
theorem jD(l:List UInt8):PG l=.tuple #[vI (pz l),.int .i64 (pI l),.int .i64 (pE l)]:=by
 unfold PG pz pI pE;cases X6 l<;>rfl
theorem yv{l:List UInt8}(h:(pE l != 0)=true):pE l=2/\∃i,X6 l=some i/\pI l=i:=by
 unfold pE pI at *;cases e:X6 l with
 |none=>rw[e]at h;exact absurd h x4
 |some i=>exact⟨rfl,i,rfl,rfl⟩
theorem gR{l:List UInt8}(h:(pE l != 0)=false):X6 l=none/\pz l=YR l:=by
 unfold pE pz at *;cases e:X6 l with
 |none=>exact⟨rfl,rfl⟩
 |some i=>rw[e]at h;exact absurd h (by show ¬((2:Int) != 0)=false;decide)
def dQ{l:List UInt8}(h:X6 l=some i):i<=l.length+1:=by
 cases l with
 |nil=>injection h with h;omega
 |cons c l =>
  simp only[X6]at h;split at h
  ·split at h
   ·injection h with h;simp;omega
   ·cases e:Vd l with
    |none=>rw[e]at h;cases h
    |some j=>rw[e]at h;have:=Nl e;simp at h;simp;omega
  ·have:=Nl h;simp at this;simp;omega
def QdL(l:List UInt8):0<=pI l/\pI l<=l.length+1:=by
 unfold pI;cases e:X6 l with
 |none=>show(0:Int)<=0/\(0:Int)<=l.length+1;omega
 |some i=>have:=dQ e;show(0:Int)<=i/\(i:Int)<=l.length+1;omega
def OX(z:Int):Int:=if -9223372036854775808<=z/\z<=9223372036854775807 then z else 0
def sG(z:Int):Bool:=decide (-9223372036854775808<=z/\z<=9223372036854775807)
theorem SB(z:Int):ZL z=.tuple #[.int .i64 (OX z),.bool (sG z)]:=by
 grind[ZL,OX,sG]
def Zz(l:List UInt8):Dyadic×Int×Int :=
 match X6 (l.take (Xw l))with
 |some i=>(0,(i:Int),2)
 |none=>if Cs l=0 then(dy (YR (l.take (Xw l))) 0,0,0)else
  match X6 (l.drop (Xw l+1))with
  |some i=>(0,(Xw l:Int)+1+i,2)
  |none=>if Cs l=47 then(if dm (dy (YR (l.drop (Xw l+1))) 0)=1 then(dy (YR (l.take (Xw l))) (-de (dy (YR (l.drop (Xw l+1))) 0)),0,0)else(0,0,1))
   else if -32768<=YR (l.drop (Xw l+1))/\YR (l.drop (Xw l+1))<=32768 then(dy (YR (l.take (Xw l))) (YR (l.drop (Xw l+1))),0,0)else(0,0,3)
def Hx(l:List UInt8):y9:=.tuple #[vN (Zz l).1,.int .i64 (Zz l).2.1,.int .i64 (Zz l).2.2]
theorem Mr(z:Int):∀c,c∈itoa z->Bl c=false:=by
 intro c a;have key:∀c:UInt8,DH c=true->Bl c=false:=λc h=>by
  let⟨b,d⟩:=isDig_iff.1 h;unfold Bl;have f:(c==112)=false:=by
   cases e:c==112 with
   |false=>rfl
   |true=>rw[Sk.1 e]at d;exact absurd d x4
  have g:(c==47)=false:=by
   cases e:c==47 with
   |false=>rfl
   |true=>rw[Sk.1 e]at b;exact absurd b x4
  grind
 unfold itoa at a;split at a
 ·rcases Lb.1 a with rfl|a
  ·rfl
  grind[D1]
 ·exact key c (D1 _ c a)
theorem QbG{m:List UInt8}(b:∀c,c∈m->Bl c=false)(c:UInt8)(d:Bl c=true)(r:List UInt8):Xw (m++c::r)=m.length/\Cs (m++c::r)=(c.toNat:Int):=by
 have a:Xw (m++c::r)=m.length:=by
  refine el x6 (λj e=>?_) ?_
  all_goals grind
 refine⟨a,?_⟩;unfold Cs;rw[a,if_neg x6,List.getD,sT (L4 _)];simp
theorem Qea{m:List UInt8}(a:∀c,c∈m->Bl c=false):Xw m=m.length/\Cs m=0:=by
 grind[ac,Cs]
theorem Qdw(z:Int):Zz (itoa z)=(dy z 0,0,0):=by
 let⟨a,b⟩:=Qea (Mr z)
 grind[CU,Zz]
theorem Qdv(m k:Int)(a:-32768<=k/\k<=32768):Zz (itoa m++112::itoa k)=(dy m k,0,0):=by
 let⟨b,c⟩:=QbG (Mr m) 112 rfl (itoa k);let⟨d,e⟩:=CU m;let⟨f,g⟩:=CU k;simp_all[Zz]
theorem uB(x:Dyadic)(h:-32768<=de x/\de x<=32768):Zz (yt x)=(x,0,0):=by
 unfold yt
 grind[Qdw,F8,Qdv]
structure Tk where
 s:ByteArray
 a:Int
structure Ln where
 l:List Tk
 e:Int
def Ub:Tk:=⟨⟨#[]⟩,0⟩
def Qg(l:List Tk)(k:Nat):Tk:=l.getD k Ub
def Xv(l:List Ln)(k:Nat):Ln:=l.getD k ⟨[],0⟩
structure FD where
 ls:List Ln
 l:List Tk
 ne:Int
 en:Int
abbrev Pz(α:Type):= FD->Except Int (α×FD)
def bnd{α β:Type}(x:Pz α)(f:α->Pz β):Pz β:=λs=>match x s with
 |.error z=>.error z
 |.ok (a,t)=>f a t
variable{α:Type}
def rtn(a:α):Pz α:=λs=>.ok (a,s)
def OJ(b:Bool)(z:Int):Pz Unit:=λs=>bif b then .ok ((),s)else .error z
theorem Xc{β:Type}{x:Pz α}{f:α->Pz β}{s:FD}(h:x s=.error z):bnd x f s=.error z:=by unfold bnd;rw[h]
theorem QA{β:Type}{x:Pz α}{f:α->Pz β}{s t:FD}{a:α}(h:x s=.ok (a,t)):bnd x f s=f a t:=by unfold bnd;rw[h]
def X5:Pz Tk:=λs=>match s.l with
 |[]=>.error s.ne
 |t::l=>.ok (t,{ s with l:=l })
def XF:Pz Unit:=λs=>match s.l with
 |[]=>.ok ((),s)
 |t::_=>.error t.a
def Hi:Pz Unit:=λs=>match s.ls with
 |[]=>.error s.en
 |n::r=>.ok ((),⟨r,n.l,n.e,s.en⟩)
def Qv(b:List m1):Pz Int:=bnd XF λ_=>bnd Hi λ_=>bnd X5 λt=>bnd (OJ (decide (Lib.idxOfS b t.s>=0)&&!decide (t.s=⟨#[]⟩)) t.a) λ_=>rtn (Lib.idxOfS b t.s)
def IW(s:m1):Bool:=(s.data.toList.all (λc=>c.toNat>=48&&c.toNat<=57)&&decide ((s.size:Int)<=9))&&(((bt s 0:Int) != 48)||((s.size:Int)==1))
def Xs(s:m1):Int:=s.data.toList.foldl (λn c=>n*10+((c.toNat:Int)-48)) 0
def QQ(b:Int):Pz Int:=bnd X5 λt=>bnd (OJ (IW t.s) t.a) λ_=>bnd (OJ (decide (Xs t.s<=b)) t.a) λ_=>rtn (Xs t.s)
def km(x:Dyadic):Nm:=⟨neg (dm x),QJ (dm x),de x⟩
def XV:Pz Nm:=bnd X5 λt=>bnd (OJ ((Zz t.s.data.toList).2.2==0) t.a) λ_=>rtn (km (Zz t.s.data.toList).1)
def XW:Nat->List Nm->Pz (List Nm)
 |0,l=>rtn l
 |n+1,l=>bnd XV λa=>XW n (l++[a])
def Jt(b:Int):Nat->List UInt8->Pz (List UInt8)
 |0,l=>rtn l
 |n+1,l=>bnd (QQ b) λa=>Jt b n (l++[UInt8.ofNat a.toNat])
def VS:Nat->List Tm->List Tm->List Tm
 |0,a,b=>a++b
 |_+1,[],b=>b
 |_+1,a,[]=>a
 |f+1,x::a,y::b=>bif By x.m y.m then x::VS f a (y::b)else bif By y.m x.m then y::VS f (x::a) b else⟨x.m,km (nv x.c+nv y.c)⟩::VS f a b
def Zo:Nat->List Tm->List Tm
 |0,l=>l
 |f+1,l=>if l.length<2 then l else VS l.length (Zo f (l.take (l.length / 2))) (Zo f (l.drop (l.length / 2)))
def Xj(l:List Tm):List Tm:=(Zo l.length l).filter λt=>!(sg t.c==0)
def X4(t:Tm):Tm:=⟨t.m,km (nv t.c)⟩
def Xe(vars:Int)(l:List Tm):Py×Int :=
 bif !(decide (0<=vars)&&decide (vars<=12))||l.any (λt=>!ZN t.m vars)then(NU,1)else
 bif decide ((l.length:Int)>65536)||decide (((Xj l).length:Int)>4096)then(NU,3)else(⟨vars,(Xj l).map X4⟩,0)
def JY(vars:Nat):Nat->List Tm->Pz (List Tm)
 |0,l=>rtn l
 |f+1,l=>λs=>bif decide ((s.l.length:Int)>0)then bnd XV (λa=>bnd (Jt 127 vars []) λm=>JY vars f (l++[⟨⟨m.toArray⟩,a⟩])) s else .ok (l,s)
def QC(vars:Int):Pz (Py×Bool):=bnd (JY vars.toNat 70000 []) λl=>rtn ((Xe vars l).1,(Xe vars l).2 != 0)
def G3(n:Nat):Nat->List (List Nm)->Pz (List (List Nm))
 |0,l=>rtn l
 |f+1,l=>bnd (XW n []) λp=>G3 n f (l++[p])
def BC:Nat->List (Nm×Nm)->Pz (List (Nm×Nm))
 |0,l=>rtn l
 |f+1,l=>bnd (XW 2 []) λp=>BC f (l++[(Xm p 0,Xm p 1)])
def Jh:m1:=⟨#[98,111,120]⟩
def Q6:m1:=⟨#[115,105,109,112,108,101,120]⟩
def Xo:m1:=⟨#[115,112,108,105,116]⟩
def Zq:m1:=⟨#[108,101,97,102]⟩
def Zh:m1:=⟨#[101,112,115]⟩
def Xh:m1:=⟨#[100,101,108,116,97]⟩
def Qy:m1:=⟨#[98,117,100,103,101,116]⟩
def ZC:m1:=⟨#[112,111,108,121]⟩
def Xu:m1:=⟨#[114,117,108,101]⟩
def wKinds:List m1:=[⟨#[]⟩,⟨#[114,97,110,103,101]⟩,⟨#[114,97,116,105,111]⟩,⟨#[112,111,115,105,116,105,118,101]⟩,⟨#[109,105,110,105,109,117,109]⟩,⟨#[122,101,114,111,115]⟩,⟨#[99,104,101,99,107]⟩]
def GO(δ:Int):List m1:=bif (δ==2)||(δ==5)then[Jh]else[Jh,Q6]
def Ko(δ vars:Int):Pz (List (Nm×Nm)×List (List Nm)):=bnd (Qv (GO δ)) λi=>bif i==1 then bnd (G3 vars.toNat (vars+1).toNat []) (λl=>rtn ([],l))else bnd (BC vars.toNat []) λl=>rtn (l,[])
def XJ(vars:Int):Nat->Int->List Nd->Bool->Pz (List Nd×Bool)
 |0,_,l,m=>rtn (l,m)
 |f+1,o,l,m=>bif decide (o>0)then bnd (Qv [Xo,Zq]) (λi=>bif i==0 then XJ vars f (o+1) (l++[⟨1,nm0,NU⟩]) m else
  bnd XV λa=>bnd (QC vars) λp=>XJ vars f (o-1) (l++[⟨0,a,p.1⟩]) (m||p.2))else rtn (l,m)
def KX(vars:Int):Nat->List Py->Bool->Pz (List Py×Bool)
 |0,l,m=>rtn (l,m)
 |f+1,l,m=>bnd (Qv [ZC]) λ_=>bnd (QC vars) λp=>KX vars f (l++[p.1]) (m||p.2)
def BP(w:m1)(s:FD):Bool:=bif decide ((s.ls.length:Int)>0)then decide ((Qg (Xv s.ls 0).l 0).s=w)else false
def ZA(δ vars:Int):Nat->List Py->Bool->Pz (List Py×Bool)
 |0,l,m=>rtn (l,m)
 |f+1,l,m=>bif δ==4 then(λs=>bif BP Xu s then(bnd (Qv [Xu]) λ_=>bnd (QC vars) λp=>ZA δ vars f (l++[p.1]) (m||p.2)) s else rtn (l,m) s)else rtn (l,m)
def K8(δ:Int):Pz (Nm×Nm×Int):=bnd (Qv [Zh]) λ_=>bnd XV λe=>bnd (bif δ==4 then bnd (Qv [Xh]) λ_=>XV else rtn nm0) λd=>bnd (Qv [Qy]) λ_=>bnd (QQ 999999999) λb=>rtn (e,d,b)
def MK(bx:List (Nm×Nm))(κ:List (List Nm)):Int:=bif (2*(bx.length:Int))==0 then(κ.length:Int)else 2*(bx.length:Int)
def Ew:Pz Unit:=bnd XF λ_ s=>match s.ls with
 |[]=>.ok ((),s)
 |n::_=>match n.l with
  |[]=>.error n.e
  |t::_=>.error t.a
def i6:Pz Int:=λs0=>bnd (QQ 99) (λvars=>bnd (OJ (decide (vars>0)) (Qg s0.l 0).a) λ_=>rtn vars) s0
def DN(δ:Int)(x:PV)(m:Bool):Pz (PV×Bool) :=
 bif δ==6 then bnd (XJ (MK x.box x.κ) 70000 1 [] m) (λc=>bnd Ew λ_=>rtn ({ x with ι:=c.1 },c.2))else bnd (K8 δ) λt=>bnd Ew λ_=>rtn ({ x with ν:=t.1,ε:=t.2.1,ζ:=t.2.2 },m)
def XD:Pz (PV×Bool):=bnd (Qv wKinds) λδ=>bnd i6 λvars=>bnd (Ko δ vars) λd =>
 bnd (KX vars (QY δ vars).toNat [] false) λp=>bnd (ZA δ vars 70000 [] p.2) λr=>DN δ ⟨δ,vars,d.1,d.2,p.1,r.1,nm0,nm0,0,[]⟩ r.2
def pv0:PV:=⟨0,0,[],[],[],[],nm0,nm0,0,[]⟩
def ZP(c:UInt8):Bool:=(c==32)||(c==9)
def sub(s:List UInt8)(i j:Nat):m1:=⟨((s.take j).drop i).toArray⟩
def D3(s:List UInt8)(at_:Int)(k:Nat)(a:List Tk×Option Nat):List Tk×Option Nat:=match a.2 with
 |none=>a
 |some i=>(a.1++[⟨sub s i k,at_+(i:Int)⟩],none)
def ZT(s:List UInt8)(at_:Int)(k:Nat)(a:List Tk×Option Nat):List Tk×Option Nat:=bif ZP (s.getD k 0)then D3 s at_ k a else match a.2 with
 |none=>(a.1,some k)
 |some _=>a
def Qd(s:List UInt8)(at_:Int):Nat->List Tk×Option Nat
 |0=>([],none)
 |k+1=>ZT s at_ k (Qd s at_ k)
def YI(s:List UInt8)(at_:Int):List Tk:=(D3 s at_ s.length (Qd s at_ s.length)).1
def VE(l:List Tk):Bool:=decide ((l.length:Int)>0)&&((bt (Qg l 0).s 0:Int) != 35)
def Qi:List UInt8->List (List UInt8)
 |[]=>[[]]
 |c::r=>bif c==10 then[]::Qi r else match Qi r with
  |[]=>[[c]]
  |l::m=>(c::l)::m
def Qo:List (List UInt8)->Int->List Ln
 |[],_=>[]
 |l::r,at_=>bif VE (YI l at_)then⟨YI l at_,at_+(l.length:Int)⟩::Qo r (at_+(l.length:Int)+1)else Qo r (at_+(l.length:Int)+1)
def J2(s:List UInt8):FD:=⟨Qo (Qi s) 0,[],0,(s.length:Int)⟩
inductive Pg:Bool->(α:Type)->Pz α->Prop
 |rtn {b:Bool} {α:Type} (a:α):Pg b α (rtn a)
 |bnd {b:Bool} {α β:Type} {x:Pz α} {f:α->Pz β}:Pg b α x->(∀a,Pg b β (f a))->Pg b β (bnd x f)
 |line {b:Bool} (ws:List ByteArray):Pg b Int (Qv ws)
 |cnt {b:Bool} (m:Int):Pg b Int (QQ m)
 |num {b:Bool}:Pg b Nm XV
 |vars {b:Bool}:Pg b Int i6
 |last:Pg true Unit Ew
 |more {b:Bool} {α:Type} {x y:Pz α}:Pg b α x->Pg b α y->Pg b α (λs=>bif decide ((s.l.length:Int)>0)then x s else y s)
 |beg {α:Type} {x y:Pz α} (w:ByteArray):Pg true α x->Pg true α y->Pg true α (λs=>bif BP w s then x s else y s)
theorem FN{c:Bool}{x y:Pz α}(a:Pg b α x)(d:Pg b α y):Pg b α (bif c then x else y):=by grind
def RM{b:Bool}:∀(n:Nat) (l:List Nm),Pg b _ (XW n l)
 |0,l=>.rtn l
 |n+1,_=>.bnd .num λ_=>RM n _
def gV{b:Bool}(m:Int):∀(n:Nat) (l:List UInt8),Pg b _ (Jt m n l)
 |0,l=>.rtn l
 |n+1,_=>.bnd (.cnt m) λ_=>gV m n _
def OQ{b:Bool}(v:Nat):∀(n:Nat) (l:List Tm),Pg b _ (JY v n l)
 |0,l=>.rtn l
 |n+1,l=>.more (x:=bnd XV λa=>bnd (Jt 127 v []) λm=>JY v n (l++[⟨⟨m.toArray⟩,a⟩])) (y:=rtn l) (.bnd .num λ_=>.bnd (gV _ _ _) λ_=>OQ v n _) (.rtn l)
def MR(v:Int):Pg b _ (QC v):=.bnd (OQ _ _ _) λ_=>.rtn _
def pg{b:Bool}(k:Nat):∀(n:Nat) (l:List (List Nm)),Pg b _ (G3 k n l)
 |0,l=>.rtn l
 |n+1,_=>.bnd (RM _ _) λ_=>pg k n _
def pf{b:Bool}:∀(n:Nat) (l:List (Nm×Nm)),Pg b _ (BC n l)
 |0,l=>.rtn l
 |n+1,_=>.bnd (RM _ _) λ_=>pf n _
def Qa9(k v:Int):Pg b _ (Ko k v):=.bnd (.line _) λ_=>FN (.bnd (pg _ _ _) λ_=>.rtn _) (.bnd (pf _ _) λ_=>.rtn _)
def MQ{b:Bool}(v:Int):∀(f:Nat) (o:Int) (l:List Nd) (m:Bool),Pg b _ (XJ v f o l m)
 |0,_,_,_=>.rtn _
 |f+1,_,_,_=>FN (.bnd (.line _) λ_=>FN (MQ v f _ _ _) (.bnd .num λ_=>.bnd (MR v) λ_=>MQ v f _ _ _)) (.rtn _)
def WR{b:Bool}(v:Int):∀(f:Nat) (l:List Py) (m:Bool),Pg b _ (KX v f l m)
 |0,_,_=>.rtn _
 |f+1,_,_=>.bnd (.line _) λ_=>.bnd (MR v) λ_=>WR v f _ _
def Qbc(k:Int):Pg b _ (K8 k):=.bnd (.line _) λ_=>.bnd .num λ_=>.bnd (FN (.bnd (.line _) λ_=>.num) (.rtn _)) λ_=>.bnd (.line _) λ_=>.bnd (.cnt _) λ_=>.rtn _
def vu(k:Int)(x:PV)(m:Bool):Pg true _ (DN k x m):=FN (.bnd (MQ _ _ _ _ _) λ_=>.bnd .last λ_=>.rtn _) (.bnd (Qbc _) λ_=>.bnd .last λ_=>.rtn _)
def WS(k v:Int):∀(f:Nat) (l:List Py) (m:Bool),Pg true _ (ZA k v f l m)
 |0,_,_=>.rtn _
 |f+1,_,_=>FN (.beg _ (.bnd (.line _) λ_=>.bnd (MR v) λ_=>WS k v f _ _) (.rtn _)) (.rtn _)
def gW:Pg true _ XD:=.bnd (.line _) λ_=>.bnd .vars λ_=>.bnd (Qa9 _ _) λ_=>.bnd (WR _ _ _ _) λ_=>.bnd (WS _ _ _ _ _) λ_=>vu _ _ _
def cg(B:Int)(l:List Tk):Prop:=∀t,t∈l->B<=t.a
def mV(B:Int)(l:List Ln):Prop:=∀n,n∈l->cg B n.l/\B<=n.e
structure Far (B:Int) (s:FD):Prop where
 ls:mV B s.ls
 l:cg B s.l
 ne:B<=s.ne
 en:B<=s.en
def Qe0(B:Int):Except Int (α×FD)->Prop
 |.error z=>B<=z
 |.ok p=>Far B p.2
variable{B:Int}
def D4{t:Tk}{l:List Tk}(h:cg B (t::l)):B<=t.a/\cg B l:=⟨h t x6,λu b=>h u (by simp[b])⟩
def fM{n:Ln}{l:List Ln}(h:mV B (n::l)):(cg B n.l/\B<=n.e)/\mV B l:=⟨h n x6,λu a=>h u (by simp[a])⟩
def OpO(B:Int)(ls:List Ln):Except Int (α×FD)->Prop
 |.error z=>B<=z
 |.ok p=>Far B p.2/\ls≠[]
def j6(a:List m1){ls:List Ln}{ne b:Int}(h:mV B ls)(c:B<=b):OpO B ls (Qv a ⟨ls,[],ne,b⟩):=by
 cases ls with
 |nil=>exact c
 |cons n r =>
  let⟨l,e⟩:=n;let⟨⟨f,d⟩,g⟩:=fM h;cases l with
  |nil=>exact d
  |cons t l =>
   let⟨i,j⟩:=D4 f;simp only[Qv,bnd,XF,Hi,X5,OJ,rtn];cases decide (Lib.idxOfS a t.s>=0)&&!decide (t.s=⟨#[]⟩)
   ·exact i
   ·exact⟨⟨g,j,d,c⟩,x6⟩
theorem Qba{x:Pz α}(h:Pg b α x):∀s,Far B s->Qe0 B (x s):=by
 induction h with
 |rtn a=>exact λs h=>h
 |@bnd b α β x f _ _ g i =>
  intro s c;have:=g s c;unfold bnd;cases e:x s with
  |error z=>rw[e]at this;exact this
  |ok p=>rw[e]at this;exact i p.1 p.2 this
 |line o =>
  intro s c;let⟨ls,l,ne,k⟩:=s;cases l with
  |cons t l=>exact(D4 c.l).1
  |nil =>
   have:=j6 o (ne:=ne) c.ls c.en;cases e:Qv o ⟨ls,[],ne,k⟩with
   |error z=>rw[e]at this;exact this
   |ok p=>rw[e]at this;exact this.1
 |cnt m =>
  intro s c;let⟨ls,l,ne,k⟩:=s;cases l with
  |nil=>exact c.ne
  |cons t l =>
   let⟨d,j⟩:=D4 c.l;simp only[QQ,bnd,X5,OJ,rtn];cases IW t.s
   ·exact d
   ·cases decide (Xs t.s<=m)
    ·exact d
    ·exact⟨c.ls,j,c.ne,c.en⟩
 |num =>
  intro s c;let⟨ls,l,ne,k⟩:=s;cases l with
  |nil=>exact c.ne
  |cons t l =>
   let⟨d,j⟩:=D4 c.l;simp only[XV,bnd,X5,OJ,rtn];cases (Zz t.s.data.toList).2.2==0
   ·exact d
   ·exact⟨c.ls,j,c.ne,c.en⟩
 |vars =>
  intro s c;let⟨ls,l,ne,k⟩:=s;cases l with
  |nil=>exact c.ne
  |cons t l =>
   let⟨d,j⟩:=D4 c.l;simp only[i6,QQ,bnd,X5,OJ,rtn,Qg,List.getD_cons_zero];cases IW t.s
   ·exact d
   ·cases decide (Xs t.s<=99)
    ·exact d
    ·simp only[cond_true];cases decide (Xs t.s>0)
     ·exact d
     ·exact⟨c.ls,j,c.ne,c.en⟩
 |last =>
  intro s c;let⟨ls,l,ne,k⟩:=s;cases l with
  |cons t l=>exact(D4 c.l).1
  |nil =>
   cases ls with
   |nil=>exact c
   |cons n r =>
    let⟨l,e⟩:=n;let⟨⟨d,j⟩,_⟩:=fM c.ls;cases l with
    |nil=>exact j
    |cons t l=>exact(D4 d).1
 |more _ _ g i =>
  grind
 |beg w _ _ g i =>
  intro s c;dsimp only;cases BP w s
  ·exact i s c
  ·exact g s c
theorem Nj(s:List UInt8):Qi s≠[]:=by
 cases s with
 |nil=>simp[Qi]
 |cons c r =>
  grind[Qi]
theorem OY(b:List UInt8):∀a:List UInt8,Qi (a++10::b)=Qi a++Qi b
 |[]=>rfl
 |c::a=>by
  rw[List.cons_append];rw[Qi,Qi,OY b a];cases c==10;all_goals grind[Nj]
def O2:∀ {a:List UInt8},(∀c,c∈a->c≠10)->Qi a=[a]
 |[],_=>rfl
 |c::a,h=>by
  unfold Qi;rw[O2 (a:=a) λx b=>h x (by simp[b]),show(c==10)=false from Lp.2 (h c x6)];rfl
theorem Fz(y:List (List UInt8)):∀(x:List (List UInt8)) (a:Int),Qo (x++y) a=Qo x a++Qo y (a+((x.map λl=>l.length+1).sum:Nat))
 |[],a=>by simp[Qo]
 |l::x,a=>by
  rw[List.cons_append,Qo,Qo,Fz y x]
  grind
theorem O0:∀a:List UInt8,((Qi a).map λl=>l.length+1).sum=a.length+1
 |[]=>rfl
 |c::a=>by
  unfold Qi;have:=O0 a
  grind
theorem Pa(s:List UInt8)(a:Int):∀k,cg a (Qd s a k).1
 |0=>λt h=>nomatch h
 |k+1=>by
  have:=Pa s a k;unfold Qd ZT;generalize Qd s a k=b at this;let⟨l,o⟩:=b;cases ZP (s.getD k 0)<;>cases o<;>simp[D3]<;>try exact this
  intro t c;rcases Lo.1 c with h|h
  ·exact this t h
  grind
theorem rv(s:List UInt8)(a:Int):cg a (YI s a):=by
 unfold YI;have:=Pa s a s.length;generalize Qd s a s.length=b at this;let⟨l,o⟩:=b;cases o with
 |none=>exact this
 |some i =>
  intro t c;rcases Lo.1 c with h|h
  ·exact this t h
  grind
def OC:∀(l:List (List UInt8)) {b a:Int},b<=a->mV b (Qo l a)
 |[],_,_,_=>λ_ h=>nomatch h
 |x::l,b,a,h=>by
  unfold Qo;have d:=OC l (b:=b) (a:=a+(x.length:Int)+1) x3;cases VE (YI x a)
  ·exact d
  ·intro n c;rcases Lb.1 c with rfl|c
   ·exact⟨λt e=>T7 h (rv x a t e),by show b<=a+_;omega⟩
   ·exact d n c
def py{s:List UInt8}(h:XD (J2 s)=.error z):0<=z:=by
 have:=Qba (B:=0) gW (J2 s) ⟨OC _ (Sd _),(λ_ h=>nomatch h),Sd _,by show(0:Int)<=s.length;omega⟩;rw[h]at this;exact this
def dN(x:Dyadic):Nm:=⟨neg (dm x),QJ (dm x),de x⟩
def Ht(κ:List (List Nm))(i j:Nat):Nm:=dN (nv (Xm (Qu κ (i+1)) j)-nv (Xm (Qu κ 0) j))
def Co(κ:List (List Nm))(N i:Nat):List Nm:=(List.range N).map (Ht κ i)
def AG(κ:List (List Nm))(N:Nat):List (List Nm):=(List.range N).map (Co κ N)
def yE(f:Nat->α)(k:Nat):(List.range k).map f++[f k]=(List.range (k+1)).map f:=by
 simp[S7]
def CX(A:m3)(c b:Nat):m3:=A.map λa=>⟨a.block,if c=1 then a.off else a.off+b,none⟩
variable{f:Nat->o3}
def yG{t e a n c:Nat}{j:Option Bool}{A:m3}{d:TI}{i:m0}(m:Yw prog t=some d)(p:d.k=.slice e a j)(q:a≠0)(r:n+1<=c)(s:RdK i A (n+1) a f):
  Qp prog i (Instr.sliceAt t (.slice A (n+1) c) (some (.int .i64 1)) none none) (.slice (CX A c a) n (c-1)):=λW _=>by
 obtain⟨b,off,rfl,_⟩:=s (Sw _);have h:=JO prog W b off (n+1) c 1 (n+1) (some (.int .i64 1)) none m p q (.inr ⟨.i64,rfl⟩) (.inl ⟨rfl,rfl⟩) x3 r;rw[h,Tl];rfl
variable{w:m0}
theorem pZ{n c a:Nat}{A:m3}(e:n+1<=c)(d:RdK w A (n+1) a f):RdK w (CX A c a) n a (λj=>f (j+1)):=λg=>by
 obtain⟨b,off,rfl,h⟩:=d (Sw _)
 grind[CX]
def xX(v:y9):o3:=[v]
theorem qW{P:z4}(w0:m0){t b:Nat}(ty e:Nat){a bytes:Nat}(bt cp3:Nat){c:α->o3}(ll ll':List (List α))(l l':List α)(A A2:m3)(cp cp2:Nat)(f:RowT P t b a 1 bytes)(h:∀x,(c x).length=k)(i:l=l')(d:ll++[l']=ll')(j:ll'.length*bytes<=140737488355328):
  ∀W,Below w0.heap.size w0 W->∀g,Bx W g bt #[.slice A2 l.length cp2]->∀x S,(Qj (G4 a k c ll A cp) (Qc e k c l A2 cp2)).φ x S W ->
   Gc P W (λy:Hp=>.slice y.1 ll'.length y.2) (λy:Hp=>G4 a k c ll' y.1 y.2) x S (Vf .append #[t,b] ty [.slice A ll.length cp,.slice (some ⟨g,0,none⟩) 1 cp3]):=by
 grind[wW]
abbrev Hzd:Nat×Hp:=(0,none,0)
abbrev Hze(q1:Nat×Hp)(κ:List (List Nm))(N:Nat):=(List.range q1.1).map (Co κ N)
abbrev Hzf(d:Nat×Hp)(κ:List (List Nm))(q1:Nat×Hp):=(List.range (d.1+1)).map (Ht κ q1.1)
abbrev Hzg(q1:Nat×Hp)(κ:List (List Nm))(N:Nat):=(List.range (q1.1+1)).map (Co κ N)
abbrev Hzh:=List.range (Hzd.1)
variable{As:m3}{Au:Nat->m3}{cu:Nat->Nat}{κ:List (List Nm)}
def xf{cs:Nat}{N:Nat}(L:N<=1048576)(t:N+1<=cs)(hpN:κ.length=N+1)(hpl:∀j,j<N+1->(Qu κ j).length=N)(hok:∀p,p∈κ->∀x,x∈p->okS x)(w:m0)(z:QV w)(D:RdK w As (N+1) 1 (λj=>[Ω (Au j) N (cu j)]))(F:∀j,j<N+1->RdK w (Au j) N 3 (λk=>Xk (Xm (Qu κ j) k))):NewIn prog w [] 96 #[Ω As (N+1) cs] (λ(y:Hp)=>Ω y.1 (AG κ N).length y.2) (λ(y:Hp)=>G4 48 3 Xk (AG κ N) y.1 y.2) :=
 Bf Hp Qm QU (λa w=>call96 a w) func96 ntmps96 results96 _ rfl 0 _ _ [x03 2 1 (Ω (CX As cs 1) N (cs-1)),.nil 3 99999 48 1 xX,.cnv 3 99999 0 (G4 48 3 Xk ((List.range 0).map (Co κ N)) none 0),B2 (λ(q1:Nat×Hp)=>(⟨41,[(0,lV As (N+1) cs),(3,lV q1.2.1 ((Hze q1 κ N)).length q1.2.2),(9,lV (CX As cs 1) N (cs-1)),(10,iV (N:Int)),(11,iV (q1.1:Int))],[],[some (G4 48 3 Xk (Hze q1 κ N) q1.2.1 q1.2.2)]⟩:St)) N Hzd (λ(q1:Nat×Hp)=>[.both [x03 4 0 (.pointer (some (Q5 (CX As cs 1) (q1.1*1+0)))),x03 4 1 (Ω (Au (q1.1+1)) N (cu (q1.1+1))),.nil 7 99999 32 3 Xk,B2 (λ(d:Nat×Hp)=>(⟨41,[(0,lV As (N+1) cs),(3,lV q1.2.1 ((Hze q1 κ N)).length q1.2.2),(5,lV (Au (q1.1+1)) N (cu (q1.1+1))),(6,lV d.2.1 (((List.range d.1).map (Ht κ q1.1))).length d.2.2),(9,lV (CX As cs 1) N (cs-1)),(10,iV (N:Int)),(11,iV (q1.1:Int)),(16,iV (N:Int)),(17,iV (d.1:Int))],[],[none,some (Qc 32 3 Xk ((List.range d.1).map (Ht κ q1.1)) d.2.1 d.2.2)]⟩:St)) N Hzd (λ(d:Nat×Hp)=>[.both [.reg 13 [],x03 9 3 (.pointer (some (Q5 (Au (q1.1+1)) (d.1*3+0)))),x03 9 4 (nA (Xm (Qu κ (q1.1+1)) d.1)),x03 9 6 (.pointer (some (Q5 As (0*1+0)))),x03 9 7 (Ω (Au 0) N (cu 0)),x03 9 9 (.pointer (some (Q5 (Au 0) (d.1*3+0)))),x03 9 10 (nA (Xm (Qu κ 0) d.1)),x04 9 11 (.agg [bV ((Ht κ q1.1 d.1).b),sV ((Ht κ q1.1 d.1).s),iV ((Ht κ q1.1 d.1).e)]),x08 9 13 1 (λ(g:Hp)=>(Ω g.1 ((Hzf d κ q1)).length g.2,Qc 32 3 Xk (Hzf d κ q1) g.1 g.2,[x05 10 0 (iV ((d.1+1:Nat):Int)),.nxt [g]]))] [.join 11 3 0 1,x08 11 3 0 (λ(g:Hp)=>(Ω g.1 ((Hzg q1 κ N)).length g.2,G4 48 3 Xk (Hzg q1 κ N) g.1 g.2,[x05 12 0 (iV ((q1.1+1:Nat):Int)),.nxt [g]]))]])] []])] (λW u=>have G:=Ql z u;have B:=D.up u (λ_=>rfl);have E:=(pZ (f:=λj=>[Ω (Au j) N (cu j)]) t D).up u (λ_=>rfl);(λ(v:∀j,j<N+1->RdK W (Au j) N 3 (λk=>Xk (Xm (Qu κ j) k)))=>Yx (yG (Qm 25 _ rfl) rfl x4 t B) (show ∀(x:y9) (S:Nat->Prop) (w:m0),(Qc 48 1 xX ([]:o3) none 0).φ x S w->(G4 48 3 Xk ((List.range 0).map (Co κ N)) none 0).φ x S w from wX _ 3 Xk _) (qV (Ω As (N+1) cs)) (qV (Ω Hzd.2.1 ((Hzh.map (Co κ N))).length Hzd.2.2)) (qV (Ω (CX As cs 1) N (cs-1))) (qI (N:Int)) (qI ((Hzd.1:Nat):Int)) (Yq (G4 48 3 Xk ((List.range 0).map (Co κ N)) none 0) (G4 48 3 Xk (Hzh.map (Co κ N)) Hzd.2.1 Hzd.2.2) λ_ _ _ h=>h)<|ai (show 0<=N from L7 _) λ(q1:Nat×Hp) (H:(q1.1<=N))=>Xi (decide ((q1.1:Int)<(N:Int))) (λq=>Yx (Zy (cs-1) E q1.1 (Qt q)) (J6 E q1.1 0 (Qt q) x4 rfl) (qV (Ω As (N+1) cs)) (qV (Ω q1.2.1 ((Hze q1 κ N)).length q1.2.2)) (qV (Ω (Au (q1.1+1)) N (cu (q1.1+1)))) (qV (Ω Hzd.2.1 ((Hzh.map (Ht κ q1.1))).length Hzd.2.2)) (qV (Ω (CX As cs 1) N (cs-1))) (qI (N:Int))<|KJ (qI (q1.1:Int)) (qI (N:Int)) (qI ((Hzd.1:Nat):Int)) (XR (G4 48 3 Xk (Hze q1 κ N) q1.2.1 q1.2.2)) (Yq (Qc 32 3 Xk ([]:List Nm) none 0) (Qc 32 3 Xk (Hzh.map (Ht κ q1.1)) (Hzd.2.1) (Hzd.2.2)) λ_ _ _ h=>h)<|ai (show 0<=N from L7 _) λ(d:Nat×Hp) (I:(d.1<=N))=>Xi (decide ((d.1:Int)<(N:Int))) (λr=>GL (Es (cu (q1.1+1)) (v (q1.1+1) (Uy (Qt q))) d.1 (Qt r)) (JW (v (q1.1+1) (Uy (Qt q))) d.1 0 (Qt r) x4 rfl rfl) (Zy cs B 0 (Sw N)) (J6 B 0 0 (Sw N) x4 rfl) (Es (cu 0) (v 0 (Sw N)) d.1 (Qt r)) (JW (v 0 (Sw N)) d.1 0 (Qt r) x4 rfl rfl) (show RetAt prog W 127 #[nA (Xm (Qu κ (q1.1+1)) d.1),nA (Xm (Qu κ 0) d.1)] (nA (Ht κ q1.1 d.1))from⟨λa w=>call127 a w,λJ C=>Qem J (hok _ (Ka (show q1.1+1<κ.length by rw[hpN];have:=L0 q;omega)) _ (KU (show d.1<(Qu κ (q1.1+1)).length by rw[hpl (q1.1+1) (hA (L0 q))];exact(Qt r)))).nd (hok _ (Ka (show 0<κ.length by rw[hpN];omega)) _ (KU (show d.1<(Qu κ 0).length by rw[hpl 0 x3];exact(Qt r)))).nd (hok _ (Ka (show q1.1+1<κ.length by rw[hpN];have:=L0 q;omega)) _ (KU (show d.1<(Qu κ (q1.1+1)).length by rw[hpl (q1.1+1) (hA (L0 q))];exact(Qt r)))).db (hok _ (Ka (show 0<κ.length by rw[hpN];omega)) _ (KU (show d.1<(Qu κ 0).length by rw[hpl 0 x3];exact(Qt r)))).db x4 (Ql G C)⟩)<|ai (YJ W 48 32 1 1 Xk ((List.range d.1).map (Ht κ q1.1)) ([Ht κ q1.1 d.1]) (Hzf d κ q1) d.2.1 d.2.2 ([Ξ ((Ht κ q1.1 d.1).b),Ψ ((Ht κ q1.1 d.1).s),Θ ((Ht κ q1.1 d.1).e)]) ZY Xx Gn (yE (Ht κ q1.1) d.1) (show(((List.range (d.1+1)).map (Ht κ q1.1))).length*32<=140737488355328 from by rw[Rg,Sb];have:=L0 r;omega) rfl rfl) λ(g:Hp)=>Yx (QD d.1 x3) (qV (Ω As (N+1) cs)) (qV (Ω q1.2.1 ((Hze q1 κ N)).length q1.2.2)) (qV (Ω (Au (q1.1+1)) N (cu (q1.1+1)))) (qV (Ω g.1 ((Hzf d κ q1)).length g.2)) (qV (Ω (CX As cs 1) N (cs-1))) (qI (N:Int)) (qI (q1.1:Int))<|Ky (qI (N:Int)) (qI (((d.1+1):Nat):Int)) (XR (G4 48 3 Xk (Hze q1 κ N) q1.2.1 q1.2.2)) (Yq (Qc 32 3 Xk (Hzf d κ q1) g.1 g.2) (Qc 32 3 Xk (Hzf d κ q1) g.1 g.2) λ_ _ _ h=>h)<|ai (show d.1+1<=N from Qt r) (show N-(d.1+1)<N-d.1 from hA (L0 r))) λr=>ai (qW W 166 32 48 1 (Hze q1 κ N) (Hzg q1 κ N) ((List.range d.1).map (Ht κ q1.1)) (Co κ N q1.1) q1.2.1 d.2.1 q1.2.2 d.2.2 M7 Xx (show((List.range d.1).map (Ht κ q1.1))=Co κ N q1.1 from by rw[(show d.1=N from hA (L1 r))];rfl) (yE (Co κ N) q1.1) (show(((List.range (q1.1+1)).map (Co κ N))).length*24<=140737488355328 from by rw[Rg,Sb];have:=L0 q;omega)) λ(g:Hp)=>GL (QD q1.1 x3) (qV (Ω As (N+1) cs)) (qV (Ω g.1 ((Hzg q1 κ N)).length g.2)) (qV (Ω (CX As cs 1) N (cs-1))) (qI (N:Int)) (qI (((q1.1+1):Nat):Int)) (Yq (G4 48 3 Xk (Hzg q1 κ N) g.1 g.2) (G4 48 3 Xk (Hzg q1 κ N) g.1 g.2) λ_ _ _ h=>h)<|ai (show q1.1+1<=N from Qt q) (show N-(q1.1+1)<N-q1.1 from hA (L0 q))) λq=>(show ∃y:Hp,SV.val (Ω q1.2.1 (((List.range q1.1).map (Co κ N))).length q1.2.2)=SV.val ((λ(y:Hp)=>Ω y.1 (AG κ N).length y.2) y)/\∀(x:y9) (S:Nat->Prop) (w:m0),(G4 48 3 Xk ((List.range q1.1).map (Co κ N)) q1.2.1 q1.2.2).φ x S w->((λ(y:Hp)=>G4 48 3 Xk (AG κ N) y.1 y.2) y).φ x S w from⟨q1.2,(by rw[(show q1.1=N from hA (L1 q))];rfl),λx S w h=>(by rw[(show q1.1=N from hA (L1 q))]at h;exact h)⟩)) (λj K=>(F j K).below (λ_=>rfl) u)) λW=>x5
def QaO:ND nm0.b nm0.s nm0.e (nv nm0):=⟨rfl,x4,x4,x4⟩
def nm0_ok:okS nm0:=⟨x4,x4,x4⟩
def DR(κ:List (List Nm))(N i j:Nat):Dyadic:=nv (Xm ((AG κ N).getD i []) j)
def QcW{x:Dyadic}{L T:Nat}(h:DB L T x)(a:L+T<=4000000):nv (dN x)=x:=(WC h a).val
section
variable{As:m3}{cs:Nat}{Au:Nat->m3}{cu:Nat->Nat}{κ:List (List Nm)}{N:Nat}(hpN:κ.length=N+1)(hpl:∀j,j<N+1->(Qu κ j).length=N)(hok:∀p,p∈κ->∀x,x∈p->okS x)
include hpN hpl hok
theorem xZ{i j:Nat}(d:i<N)(a:j<N):DB 200 361 (nv (Xm (Qu κ (i+1)) j)-nv (Xm (Qu κ 0) j)):=by
 have b:=hok _ (Ka (show i+1<κ.length by omega)) _ (KU (show j<(Qu κ (i+1)).length by rw[hpl (i+1) x3];exact a));have c:=hok _ (Ka (show 0<κ.length by omega)) _ (KU (show j<(Qu κ 0).length by rw[hpl 0 x3];exact a));exact zy b.db c.db
omit hpN hpl hok in
theorem qT{i j:Nat}(a:i<N)(b:j<N):Xm ((AG κ N).getD i []) j=Ht κ i j:=by
 grind[AG,Co,Xm]
theorem wV{i j:Nat}(a:i<N)(b:j<N):DR κ N i j=nv (Xm (Qu κ (i+1)) j)-nv (Xm (Qu κ 0) j):=by
 unfold DR;rw[qT a b];exact QcW (xZ hpN hpl hok a b) x4
theorem qU(i j:Nat):ND (Xm ((AG κ N).getD i []) j).b (Xm ((AG κ N).getD i []) j).s (Xm ((AG κ N).getD i []) j).e (DR κ N i j)/\DB 200 361 (DR κ N i j):=by
 by_cases h:i<N/\j<N
 ·have a:=xZ hpN hpl hok h.1 h.2;have c:=WC a x4;rw[wV hpN hpl hok h.1 h.2,qT h.1 h.2];exact⟨c,a⟩
 ·have d:Xm ((AG κ N).getD i []) j=nm0:=by
   grind[AG,Co,Xm]
  unfold DR;rw[d];exact⟨QaO,UJ nm0_ok.db x4 x4⟩
omit hpN hpl hok in
theorem Qeo{A:m3}{g:Nat}{x:y9}{S:Nat->Prop}(h:(G4 48 3 Xk (AG κ N) A g).φ x S w):RdM w A N (λ_=>N) (λi j=>(Xm ((AG κ N).getD i []) j).b) (λi j=>(Xm ((AG κ N).getD i []) j).s) (λi j=>(Xm ((AG κ N).getD i []) j).e):=by
 have f:=QbU Xx nm0 h;have k:(AG κ N).length=N:=by simp[AG]
 rw[k]at f;intro l;let⟨b,off,e,m⟩:=f l;refine⟨b,off,e,λi n=>?_⟩;let⟨o,ci,k1,a,c,d⟩:=m i n;have p:((AG κ N).getD i []).length=N:=by
  grind[AG,Co]
 dsimp only at k1 a c d;rw[p]at k1 a c d;exact⟨o,ci,k1,a,c,d⟩
omit hok in
theorem xg(a:1<=N)(b:N<=8):aH κ=(N:Int):=by
 grind[aH,Kf,Xb]
omit hok in
theorem Qb5{a:Nat}(d:1<=N)(e:N<=4)(b:RdK w As (N+1) 1 (λj=>[.slice (Au j) N (cu j)]))(c:∀j,j<N+1->SlV a 3 VT w (Qu κ j) (.slice (Au j) N (cu j))):RetAt prog w 94 #[.slice As (N+1) cs] (.int .i64 (N:Int)):=by
 have h:=Qew cs κ (λj=>.slice (Au j) N (cu j)) x3 w (by rw[hpN];exact b) (by rw[hpN];exact c)
 grind[xg]
end
def xi{m:Nat}{cs:Nat}{N:Nat}(t:N<=1048576)(e:N+1<=cs)(hpN:κ.length=N+1)(hpl:∀j,j<N+1->(Qu κ j).length=N)(hok:∀p,p∈κ->∀x,x∈p->okS x)(n:1<=N)(q:N<=4)(w:m0)(f:QV w)(u:RdK w As (N+1) 1 (λj=>[Ω (Au j) N (cu j)]))(v:∀j,j<N+1->RdK w (Au j) N 3 (λk=>Xk (Xm (Qu κ j) k)))(y:∀j,j<N+1->SlV m 3 VT w (Qu κ j) (Ω (Au j) N (cu j))):RetAt prog w 57 #[Ω As (N+1) cs] (.tuple #[nA (dN (K4 N (DR κ N))),Θ 0]) :=
 rk [x04 1 1 (iV (N:Int)),.br false,x09 3 1 [] (λ(b:Hp)=>(Ω b.1 (AG κ N).length b.2,G4 48 3 Xk (AG κ N) b.1 b.2,[.o 3 2 (.retr [0] (.tuple #[nA (dN (K4 N (DR κ N))),Θ 0]))]))] λW d E=>have r:=Ql f d;have s:=u.up d (λ_=>rfl);(λ(z:∀j,j<N+1->RdK W (Au j) N 3 (λk=>Xk (Xm (Qu κ j) k)))=>(λ(B:∀j,j<N+1->SlV m 3 VT W (Qu κ j) (Ω (Au j) N (cu j)))=>X0 (Qb5 (cs:=cs) hpN hpl n q s B) (show((N:Int)==0)=false from Lp.2 x3)<|ai (xf t e hpN hpl hok W r s z) λ(b:Hp)=>ai (show Cv prog W [G4 48 3 Xk (AG κ N) b.1 b.2] 95 #[Ω b.1 (AG κ N).length b.2] (.tuple #[nA (dN (K4 N (DR κ N))),Θ 0])from⟨λa w=>call95 a w,λC g x S D=>(by have h:=(QaD 200 361 b.1 b.2 (DR κ N) n q x4 (λi j=>(qU hpN hpl hok i j).1) (λi j=>(qU hpN hpl hok i j).2) C (Ql r g) (Qeo D)).at;rw[show(AG κ N).length=N from by simp[AG]];exact h)⟩)<|(show(.tuple #[nA (dN (K4 N (DR κ N))),Θ 0]:y9)=.tuple #[nA (dN (K4 N (DR κ N))),Θ 0]from rfl)) (λj l=>(y j l).below YH d)) (λj l=>(v j l).below (λ_=>rfl) d)
def eE(κ:List (List Nm))(N:Nat):Int:=bif sg (dN (K4 N (DR κ N)))==0 then 5 else 0
abbrev Hzi(N:Nat)(κ:List (List Nm)):=dN (K4 N (DR κ N))
def qY{h:Nat}{cs:Nat}{N:Nat}(l:N<=1048576)(c:N+1<=cs)(hpN:κ.length=N+1)(hpl:∀j,j<N+1->(Qu κ j).length=N)(hok:∀p,p∈κ->∀x,x∈p->okS x)(m:1<=N)(n:N<=4)(w:m0)(d:QV w)(q:RdK w As (N+1) 1 (λj=>[Ω (Au j) N (cu j)]))(r:∀j,j<N+1->RdK w (Au j) N 3 (λk=>Xk (Xm (Qu κ j) k)))(t:∀j,j<N+1->SlV h 3 VT w (Qu κ j) (Ω (Au j) N (cu j))):RetAt prog w 27 #[Ω As (N+1) cs] (Θ (eE κ N)) :=
 have i:=eI (eE κ N);rk [x04 1 1 (.tup [.agg [bV ((Hzi N κ).b),sV ((Hzi N κ).s),iV ((Hzi N κ).e)],iV 0]),x04 2 4 (iV (sg (Hzi N κ))),.both [] []] λW a A=>have u:=Ql d a;have v:=q.up a (λ_=>rfl);(λ(y:∀j,j<N+1->RdK W (Au j) N 3 (λk=>Xk (Xm (Qu κ j) k)))=>(λ(z:∀j,j<N+1->SlV h 3 VT W (Qu κ j) (Ω (Au j) N (cu j)))=>X0 (xi l c hpN hpl hok m n W u v y z) (rc W call58 λW=>GB (Hzi N κ).s (Hzi N κ).b (Hzi N κ).e W)<|Xi ((sg (dN (K4 N (DR κ N))))==0) (λf=>(i 5 (by unfold eE;rw[f];rfl))) λf=>(i 0 (by unfold eE;rw[f];rfl))) (λj g=>(t j g).below YH a)) (λj g=>(r j g).below (λ_=>rfl) a)
theorem pJ{b:Nat}{v:y9}{N:Nat}(hpN:κ.length=N+1)(hpl:∀j,j<N+1->(Qu κ j).length=N)(h:SlV b 1 (kz b) w κ v):
  ∃(As:m3) (cs:Nat) (Au:Nat->m3) (cu:Nat->Nat),v=.slice As (N+1) cs/\N+1<=cs/\RdK w As (N+1) 1 (λj=>[.slice (Au j) N (cu j)])/\(∀j,j<N+1->RdK w (Au j) N 3 (λk=>Xk (Xm (Qu κ j) k)))/\∀j,j<N+1->SlV b 3 VT w (Qu κ j) (.slice (Au j) N (cu j)):=by
 obtain⟨As,cs,l,rfl,d,_,f,g⟩:=h.rdPt;rw[hpN]at d f g ⊢;have key:∀j,∃(A:m3) (c:Nat),j<N+1->l j=.slice A N c/\RdK w A N 3 (λk=>Xk (Xm (Qu κ j) k)):=λj=>by
  by_cases a:j<N+1
  ·let⟨A,c,e,_,_,i⟩:=(g j a).enc nm0;rw[hpl j a]at e i;exact⟨A,c,λ_=>⟨e,i⟩⟩
  ·exact⟨none,0,λh=>absurd h a⟩
 refine⟨As,cs,λj=>Classical.choose (key j),λj=>Classical.choose (Lq (key j)),rfl,d,f.congr λj a=>?_,λj a=>?_,λj a=>?_⟩;all_goals grind
def qZ{lo:Nat}{v:y9}{N:Nat}(hpN:κ.length=N+1)(hpl:∀j,j<N+1->(Qu κ j).length=N)(hok:∀p,p∈κ->∀x,x∈p->okS x)(a:1<=N)(b:N<=4)(w:m0)(c:QV w)(h:SlV lo 1 (kz lo) w κ v):RetAt prog w 27 #[v] (.int .i64 (eE κ N)):=by
 obtain⟨As,cs,Au,cu,rfl,k1,d,e,f⟩:=pJ hpN hpl h;exact qY x3 k1 hpN hpl hok a b w c d e f
theorem bN(s:m1)(p:Nat)(a:¬(s.get! (p+0)).toNat<128):(Utf8.decode s p).2<=4/\(2<=(Utf8.decode s p).2->(decide (p+1<s.size)&&((s.get! (p+1)).toNat / 64==2))=true)/\(3<=(Utf8.decode s p).2->(decide (p+2<s.size)&&((s.get! (p+2)).toNat / 64==2))=true)/\(4<=(Utf8.decode s p).2->(decide (p+3<s.size)&&((s.get! (p+3)).toNat / 64==2))=true):=by
 grind[Utf8.decode]
theorem UN(s:m1)(p:Nat)(h:p<s.size)(c:128<=byt s p):∀j,j<(Utf8.decode s p).2->p+j<s.size/\128<=byt s (p+j):=by
 have d:∀k,p+k<s.size->(s.get! (p+k)).toNat=byt s (p+k):=λk a=>by
  rw[<- Vp s (p+k) a];have e:s.get! (p+k)=s[p+k]'a:=by simp[ByteArray.get!,getElem!_pos,a];rfl
  rw[e]
 have f:(s.get! (p+0)).toNat=byt s p:=d 0 h;have g:¬ byt s p<128:=x3;have b:∀k,(decide (p+k<s.size)&&((s.get! (p+k)).toNat / 64==2))=true->p+k<s.size/\128<=byt s (p+k):=λk a=>by
  grind
 have key:=bN s p (by rw[f];exact g);let⟨m,k1,i,l⟩:=key;intro j n;rcases j with _|_|_|_|j
 ·exact⟨h,c⟩
 ·exact b 1 (k1 x3)
 ·exact b 2 (i x3)
 ·exact b 3 (l x3)
 ·omega
theorem QbE(h:128<=byt s j):Bl (s.data.toList.getD j 0)=false:=by
 unfold Bl;have e:∀d:UInt8,d.toNat<128->(s.data.toList.getD j 0==d)=false:=λd a=>by
  cases e:s.data.toList.getD j 0==d with
  |false=>rfl
  |true =>
   grind[byt]
 rw[e 112 x4,e 47 x4];rfl
theorem QbD:Bl (s.data.toList.getD j 0)=(decide (byt s j=112)||decide (byt s j=47)):=by
 unfold Bl byt;have e:∀(c d:UInt8),(c==d)=decide (c.toNat=d.toNat):=λc d=>by
  grind[UInt8.toNat_inj]
 rw[e,e];rfl
def qy(s:ByteArray)(w:World)(K:s.size<=1099511627776):
  o4 prog 208 #[.string s] w (.tuple #[.int .i32 (Cs s.data.toList),.int .i64 (Xw s.data.toList:Nat)]):=by
 have y:=x0f (show s.data.toList.length=s.size by simp);go_enter func208,ntmps208
 go_wp2
 go_loopw [2] (λr wr=>∃p:Nat,r=.int .i32 0/\p<=s.size/\wr=w.iter s p/\Hid (∀j,j<p->Bl (s.data.toList.getD j 0)=false)) (λ_ wr=>s.size-wr.iterPos w.heap.size)
 case atStart=>exact⟨0,rfl,L7 _,rfl,x0f (λ_ h=>absurd h (R4 _))⟩
 case round =>
  obtain⟨p,rfl,L,rfl,f⟩:=hrel;by_cases a:p<s.size
  ·have D:(p:Int)<=1099511627776:=x3;by_cases g:byt s p<128
   ·have i:∀k,(Instr.next (.pointer (some ⟨w.heap.size,0,none⟩)) true k).run prog (w.iter s p)=_:=λk=>run_next_ascii (P:=prog) w s p k a (by rw[Vp];exact g)
    simp only[Vp]at i;have z:Hid (p<s.data.toList.length):=x0f (by rw[y.out];exact a);have n:=x0f (QbD (s:=s) (j:=p));by_cases u:byt s p=112
    ·have m:=x0f (el z.out f.out (by rw[n.out,Lk u];rfl));have l:=x0f (show Cs s.data.toList=112 by rw[(qr (by rw[m.out];exact z.out)).1,m.out];show((byt s p:Nat):Int)=112;rw[u];rfl);have b:((byt s p:Nat):Int)=112:=x3;rw[b]at i;clear a g u b;go_wp2
     exact bodyPost_ret (v:=.tuple #[.int .i32 112,.int .i64 (p:Nat)]) (by simp[results,results208,go_sem]) rfl ⟨by rw[m.out,l.out],Zv _ _ _⟩
    by_cases x:byt s p=47
    ·have m:=x0f (el z.out f.out (by rw[n.out,Lk x,Bool.or_true]));have l:=x0f (show Cs s.data.toList=47 by rw[(qr (by rw[m.out];exact z.out)).1,m.out];show((byt s p:Nat):Int)=47;rw[x];rfl);have b:((byt s p:Nat):Int)=47:=x3;rw[b]at i;clear a g u x b;go_wp2
     exact bodyPost_ret (v:=.tuple #[.int .i32 47,.int .i64 (p:Nat)]) (by simp[results,results208,go_sem]) rfl ⟨by rw[m.out,l.out],Zv _ _ _⟩
    have A:=x0f (show ∀j,j<p+1->Bl (s.data.toList.getD j 0)=false from λj G=>by
     by_cases e:j=p
     ·rw[e,n.out,Lc u,Lc x];rfl
     ·exact f.out j x3)
    have b:¬((byt s p:Nat):Int)=112:=x3;have H:(((byt s p:Nat):Int)==112)=false:=l3 b;have o:¬((byt s p:Nat):Int)=47:=x3;have I:(((byt s p:Nat):Int)==47)=false:=l3 o;clear g u x;generalize byt s p=d at *;go_wp2
    go_roundw
    case rel=>exact⟨p+1,rfl,a,rfl,A⟩
    case measure=>simp;omega
   ·have t:=(decode_high s p a (by rw[Vp];omega))
    have c:=UN s p a x3;have i:∀k,(Instr.next (.pointer (some ⟨w.heap.size,0,none⟩)) true k).run prog (w.iter s p)=_:=λk=>run_next_any (P:=prog) w s p k a
    obtain⟨d,hd⟩:∃d,d=(Utf8.decode s p).1:=⟨_,rfl⟩
    obtain⟨q,B⟩:∃q,q=(Utf8.decode s p).2:=⟨_,rfl⟩
    rw[<- hd,<- B]at i t;rw[<- B]at c;have C:p+q<=s.size:=by have:=(c (q-1) x3).1;omega
    have A:=x0f (show ∀j,j<p+q->Bl (s.data.toList.getD j 0)=false from λj G=>by
     by_cases e:j<p
     ·exact f.out j e
     ·have E:=(c (j-p) x3).2;rw[show p+(j-p)=j by omega]at E;exact QbE E)
    have b:¬(d:Int)=112:=x3;have H:((d:Int)==112)=false:=l3 b;have o:¬(d:Int)=47:=x3;have I:((d:Int)==47)=false:=l3 o;have J:1<=q:=t.2;clear g t c hd B;go_wp2
    go_roundw
    case rel=>exact⟨p+q,rfl,C,rfl,A⟩
    case measure=>simp;omega
  ·obtain rfl:p=s.size:=x3;have i:∀k,(Instr.next (.pointer (some ⟨w.heap.size,0,none⟩)) true k).run prog (w.iter s s.size)=_:=λk=>run_next_end (P:=prog) w s s.size k a
   have m:=x0f (show Xw s.data.toList=s.size by rw[<- y.out];exact ac (by rw[y.out];exact f.out));have l:=x0f (show Cs s.data.toList=0 by unfold Cs;rw[m.out,y.out,if_pos rfl]);go_wp2
   exact bodyPost_ret (v:=.tuple #[.int .i32 0,.int .i64 (s.size:Nat)]) (by simp[results,results208,go_sem]) rfl ⟨by rw[m.out,l.out],Zv _ _ _⟩
open Go.Sort
variable{e:Int}
def PF{n:Nat}(a:s.size<=n):Zr (dm (dy (Qe b (Qa s)) e))<=n:=L6 (J0 (x9 _ _)) (L6 (GN b s) a)
def sx{n:Nat}(h:Zr z<=n):(Qz z).size<=3*n+2:=by
 have c:=NA z;have a:=Bc z;have b:z.natAbs<256^n:=L9 a (Lh x4 h);have d:=B7 b;omega
theorem sy(h:-1000000<=z/\z<=1000000):(Qz z).size<=8:=by
 grind[NA,nDigits]
def UK(d:s.size<=1000)(f:-100000<=e/\e<=100000):-1000000<=de (dy (Qe b (Qa s)) e)/\de (dy (Qe b (Qa s)) e)<=1000000:=by
 have a:(Qe b (Qa s)).natAbs<256^s.size:=by rw[Xd];exact Dk s
 rcases mn e a with⟨_,c⟩|c
 ·omega
 ·omega
def Qe6(a:s.size<=1000):(Qz (dm (dy (Qe b (Qa s)) e))).size+(⟨#[112]⟩:m1).size<=9223372036854775807:=by
 have h:=sx (PF (b:=b) (e:=e) a);show _+1<=_;omega
def Qe7(a:s.size<=1000)(c:-100000<=e/\e<=100000):(Qz (dm (dy (Qe b (Qa s)) e))++(⟨#[112]⟩:m1)).size+(Qz (de (dy (Qe b (Qa s)) e))).size<=9223372036854775807:=by
 have h:=sx (PF (b:=b) (e:=e) a);have d:=sy (UK (b:=b) a c);rw[ByteArray.size_append];show _+1+_<=_;omega
def DI(n:Int)(W:m0)(h:-1000000<=n/\n<=1000000)(c:Tab10 W):o4 prog 32 #[.int .i64 n] W (.string (Qz n)):=by
 refine(Tryz.strconv_Itoa n x3 x3 W c).mono ?_
 rintro e b ⟨rfl,k,a,rfl⟩;have d:Below W.heap.size W (grow (W.drewN k) a):=⟨rfl,rfl,rfl,by show W.heap.size<=(W.heap++a).size;rw[Array.size_append];omega,λj f=>by show(W.heap++a)[j]?=_;rw[Array.getElem?_append_left f]⟩
 exact⟨rfl,d⟩
def gk(z e:Int)(W:m0)(d:Zr z<=65536)(f:-1000000<=e/\e<=1000000)(a:QV W):o4 prog 90 #[.agg #[.bool (neg z),.string (QJ z)],.int .i64 e] W (vN (dy z e)):=by
 have c:=AF (QJ z) (neg z) e W (by rw[XU];omega) x3 x3 a;rwa [Xp]at c
def Yg(s:m1)(k:Nat):m1:=⟨(s.data.toList.take k).toArray⟩
def Q8(s:m1)(k:Nat):m1:=⟨(s.data.toList.drop k).toArray⟩
theorem G0(s:m1)(k:Nat):(Yg s k).data.toList=s.data.toList.take k:=by simp[Yg]
theorem CO(s:m1)(k:Nat):(Q8 s k).data.toList=s.data.toList.drop k:=by simp[Q8]
theorem Nq(s:m1)(k:Nat):(Yg s k).size<=s.size:=by
 have h:(Yg s k).data.toList.length=(Yg s k).size:=x6;have a:s.data.toList.length=s.size:=x6
 grind[G0]
theorem I5(s:m1)(k:Nat):(Q8 s k).size<=s.size:=by
 have h:(Q8 s k).data.toList.length=(Q8 s k).size:=x6;have a:s.data.toList.length=s.size:=x6
 grind[CO]
theorem qX(s:m1)(k:Nat):s.extract 0 k=Yg s k:=by
 apply ByteArray.ext;rw[ByteArray.data_extract]
 grind[Yg]
def mJ(s:m1)(k:Nat):s.extract k s.size=Q8 s k:=by
 apply ByteArray.ext;rw[ByteArray.data_extract];unfold Q8;apply Array.ext';simp[Rh]
def aw(W:m0)(s:m1)(k:Nat)(h:k<=s.size):Qp prog W (Instr.sliceAt 9 (.string s) none (some (.int .i64 (k:Int))) none) (.string (Yg s k)):=λa _=>by
 rw[run_sliceAt_string (h:=Tryz.underlying9),run_slice_string_h (ht:=Tryz.underlying9) (h0:=x3) (h2:=x3),<- qX];rfl
def ax(W:m0)(s:m1)(k:Nat)(h:k<=s.size):Qp prog W (Instr.sliceAt 9 (.string s) (some (.int .i64 (k:Int))) none none) (.string (Q8 s k)):=λa _=>by
 rw[run_sliceAt_string (h:=Tryz.underlying9),run_slice_string_l (ht:=Tryz.underlying9) (h0:=x3) (h1:=x3),<- mJ];rfl
theorem fB(s:m1)(W:m0)(a:s.size<=65536):o4 prog 209 #[.string s] W (.tuple #[vI (pz s.data.toList),.int .i64 (pI s.data.toList),.int .i64 (pE s.data.toList)]):=by
 have c:=(vq a W).at
 grind[jD]
theorem xF(z:Int)(W:m0)(b:Zr z<=65536):o4 prog 192 #[.agg #[.bool (neg z),.string (QJ z)]] W (.tuple #[.int .i64 (OX z),.bool (sG z)]):=by
 grind[aX,XU,Xp,SB]
theorem CV{l:List UInt8}{n:Nat}(h:l.length<=n):Zr (pz l)<=n:=by
 unfold pz;cases e:X6 l with
 |some i=>exact L6 (show Zr 0<=0 by decide) (L7 _)
 |none =>
  grind[TQ,Ms]
def SP(s:m1)(k:Nat):(Yg s k).data.toList.length<=s.size:=by
 simp[Nq]
theorem I4(s:m1)(k:Nat):(Q8 s k).data.toList.length<=s.size:=by
 simp[I5]
theorem RY(s:m1):Xw s.data.toList<=s.size:=by
 have h:=QbF s.data.toList;simp_all
theorem Qd9(h:(Cs s.data.toList==0)=false):Xw s.data.toList+1<=s.size:=by
 have b:=xV h;have c:=RY s;rcases R5 (Xw s.data.toList) s.size with a|a
 ·exact a
 simp_all[Cs]
theorem kI1(a:s.size<=60000):IntKind.i64.wrap ((Xw s.data.toList:Int)+1)=((Xw s.data.toList+1:Nat):Int):=by grind[QeD,RY]
theorem kI2(a:s.size<=60000):IntKind.i64.wrap (((Xw s.data.toList+1:Nat):Int)+pI (Q8 s (Xw s.data.toList+1)).data.toList)=(Xw s.data.toList:Int)+1+pI (Q8 s (Xw s.data.toList+1)).data.toList:=by
 have b:=RY s;have c:=QdL (Q8 s (Xw s.data.toList+1)).data.toList
 grind[I4,Le]
theorem nde{n:Nat}(h:Zr z<=n)(b:n<=60000):IntKind.i64.wrap (0-de (dy z 0))=-de (dy z 0):=by
 have a:z.natAbs<256^n:=L9 (Bc z) (Lh x4 h);have c:=mn 0 a
 grind[Le]
def zA{n:Nat}(h:Zr z<=n)(b:n<=60000):-1000000<= -de (dy z 0)/\-de (dy z 0)<=1000000:=by
 have a:z.natAbs<256^n:=L9 (Bc z) (Lh x4 h);have c:=mn 0 a;omega
def Gl{l:List UInt8}{x:Dyadic}{i:Int}(h:Zz l=(x,i,e)):(.tuple #[vN x,.int .i64 i,.int .i64 e]:y9)=Hx l:=by unfold Hx;rw[h]
section
variable{s:m1}
theorem lw1(h:(pE (Yg s (Xw s.data.toList)).data.toList != 0)=true):Zz s.data.toList=(0,pI (Yg s (Xw s.data.toList)).data.toList,pE (Yg s (Xw s.data.toList)).data.toList):=by
 let⟨a,i,b,c⟩:=yv h
 grind[G0,Zz]
theorem lw2(h:(pE (Yg s (Xw s.data.toList)).data.toList != 0)=false)(a:(Cs s.data.toList==0)=true):Zz s.data.toList=(dy (pz (Yg s (Xw s.data.toList)).data.toList) 0,0,0):=by
 let⟨b,c⟩:=gR h
 grind[G0,Zz]
theorem lw3(h:(pE (Yg s (Xw s.data.toList)).data.toList != 0)=false)(a:(Cs s.data.toList==0)=false)(b:(pE (Q8 s (Xw s.data.toList+1)).data.toList != 0)=true):Zz s.data.toList=(0,(Xw s.data.toList:Int)+1+pI (Q8 s (Xw s.data.toList+1)).data.toList,pE (Q8 s (Xw s.data.toList+1)).data.toList):=by
 let⟨c,_⟩:=gR h
 grind[yv,G0,CO,Zz]
theorem gx(h:(pE (Yg s (Xw s.data.toList)).data.toList != 0)=false)(a:(Cs s.data.toList==0)=false)(b:(pE (Q8 s (Xw s.data.toList+1)).data.toList != 0)=false):Zz s.data.toList=if Cs s.data.toList=47 then(if dm (dy (pz (Q8 s (Xw s.data.toList+1)).data.toList) 0)=1 then(dy (pz (Yg s (Xw s.data.toList)).data.toList) (-de (dy (pz (Q8 s (Xw s.data.toList+1)).data.toList) 0)),0,0)else(0,0,1))
  else if -32768<=pz (Q8 s (Xw s.data.toList+1)).data.toList/\pz (Q8 s (Xw s.data.toList+1)).data.toList<=32768 then(dy (pz (Yg s (Xw s.data.toList)).data.toList) (pz (Q8 s (Xw s.data.toList+1)).data.toList),0,0)else(0,0,3):=by
 let⟨c,d⟩:=gR h
 grind[gR,G0,CO,Zz]
def lw4(h:(pE (Yg s (Xw s.data.toList)).data.toList != 0)=false)(a:(Cs s.data.toList==0)=false)(b:(pE (Q8 s (Xw s.data.toList+1)).data.toList != 0)=false)(c:(Cs s.data.toList==47)=true)(d:decide (dm (dy (pz (Q8 s (Xw s.data.toList+1)).data.toList) 0)=1)=true):Zz s.data.toList=(dy (pz (Yg s (Xw s.data.toList)).data.toList) (-de (dy (pz (Q8 s (Xw s.data.toList+1)).data.toList) 0)),0,0):=by
 rw[gx h a b,if_pos (jP c),if_pos (L0 d)]
def lw5(h:(pE (Yg s (Xw s.data.toList)).data.toList != 0)=false)(a:(Cs s.data.toList==0)=false)(b:(pE (Q8 s (Xw s.data.toList+1)).data.toList != 0)=false)(c:(Cs s.data.toList==47)=true)(d:decide (dm (dy (pz (Q8 s (Xw s.data.toList+1)).data.toList) 0)=1)=false):Zz s.data.toList=(0,0,1):=by
 rw[gx h a b,if_pos (jP c),if_neg (L1 d)]
theorem yI(a:sG z=true):OX z=z:=by
 grind[sG,OX]
def lw6(h:(pE (Yg s (Xw s.data.toList)).data.toList != 0)=false)(c:(Cs s.data.toList==0)=false)(d:(pE (Q8 s (Xw s.data.toList+1)).data.toList != 0)=false)(e:(Cs s.data.toList==47)=false)(f:sG (pz (Q8 s (Xw s.data.toList+1)).data.toList)=true)(a:decide ((OX (pz (Q8 s (Xw s.data.toList+1)).data.toList))>32768)=false)(b:decide ((OX (pz (Q8 s (Xw s.data.toList+1)).data.toList))<(-32768))=false):Zz s.data.toList=(dy (pz (Yg s (Xw s.data.toList)).data.toList) (OX (pz (Q8 s (Xw s.data.toList+1)).data.toList)),0,0):=by
 rw[yI f]at a b ⊢;have:=L1 a;have:=L1 b;rw[gx h c d,if_neg (xV e),if_pos x3]
def lw7(h:(pE (Yg s (Xw s.data.toList)).data.toList != 0)=false)(c:(Cs s.data.toList==0)=false)(d:(pE (Q8 s (Xw s.data.toList+1)).data.toList != 0)=false)(e:(Cs s.data.toList==47)=false)(a:sG (pz (Q8 s (Xw s.data.toList+1)).data.toList)=false\/OX (pz (Q8 s (Xw s.data.toList+1)).data.toList)>32768\/OX (pz (Q8 s (Xw s.data.toList+1)).data.toList) < -32768):Zz s.data.toList=(0,0,3):=by
 rw[gx h c d,if_neg (xV e),if_neg ?_];intro f;have b:sG (pz (Q8 s (Xw s.data.toList+1)).data.toList)=true:=Lk x3;rw[b,yI b]at a;rcases a with a|a|a
 ·cases a
 ·omega
 ·omega
theorem QfM(a:decide ((OX z)>32768)=false)(b:decide ((OX z)<(-32768))=false):-1000000<=OX z/\OX z<=1000000:=by
 grind
end
abbrev Hzj(b:Bool)(s:m1)(e:Int):=dy (Qe b (Qa s)) e
def B3(c:s.size<=1000)(g:-100000<=e/\e<=100000)(w:m0)(d:QV w)(a:Tab10 w):RetAt prog w 35 #[rN b s e] (Ψ (Dg (dy (Qe b (Qa s)) e))) :=
 rk [x04 1 1 (.val (vN (Hzj b s e))),.both [x04 3 2 (sV (Qz (dm (Hzj b s e))))] [.reg 9 [],x04 4 2 (sV (Qz (dm (Hzj b s e)))),x03 4 3 (Ψ (Qz (dm (Hzj b s e))++(⟨#[112]⟩:m1))),x04 4 6 (sV (Qz (de (Hzj b s e)))),x03 4 7 (Ψ (Dg (Hzj b s e)))]] λW i j=>(λ(a:Tab10 W)=>(λ(d:QV W)=>ai (rt d call52 λW h=>KA s b e W x3 x3 x3 h)<|Xi ((de (dy (Qe b (Qa s)) e))==0) (λf=>ai (wu a call68 λW h=>UI (dm (Hzj b s e)) W (L6 (PF c) x4) h)<|(show(Ψ (Qz (dm (dy (Qe b (Qa s)) e))):y9)=Ψ (Dg (dy (Qe b (Qa s)) e))from Lu Ψ (ve f))) λf=>Ky (wu a call68 λW h=>UI (dm (Hzj b s e)) W (L6 (PF c) x4) h) (SI W (.tmp 14) (.const (Ψ ⟨#[112]⟩)) (Qz (dm (Hzj b s e))) ⟨#[112]⟩ (Qe6 c)) (wu a call32 λW h=>DI (de (Hzj b s e)) W (UK c g) h) (Z9 W (.tmp 15) (.tmp 18) (Qz (dm (Hzj b s e))++(⟨#[112]⟩:m1)) (Qz (de (Hzj b s e))) (Dg (Hzj b s e)) (Qe7 c g) (vd f))<|j) (Ql d i)) (a.later i)
def vP(b:Zr z<=65536)(w:m0)(a:QV w):RetAt prog w 210 #[vI z] (.tuple #[Θ (de (dy z 0)),Ξ (decide ((dm (dy z 0))=1))]) :=
 rk [x04 1 1 (.val (vN (dy z 0))),.reg 8 [],x04 2 4 (.val (vI (1))),x03 2 5 (Ξ (decide ((dm (dy z 0))=1)))] λW c d=>(λ(a:QV W)=>Ja (rt a call90 λW h=>gk z 0 W b x4 h) (rc W call165 λW=>Cm 1 W x4 x4) (Qai W (.tmp 10) (.tmp 11) (dm (dy z 0)) 1)<|d) (Ql a c)
def oc(j:s.size<=60000)(w:m0)(d:QV w):RetAt prog w 154 #[Ψ s] (Hx s.data.toList) :=
 rk [x04 1 1 (.tup [.val (.int .i32 (Cs s.data.toList)),iV (Xw s.data.toList:Int)]),x03 2 2 (Ψ (Yg s (Xw s.data.toList))),x04 2 3 (.tup [.val (vI (pz (Yg s (Xw s.data.toList)).data.toList)),iV (pI (Yg s (Xw s.data.toList)).data.toList),iV (pE (Yg s (Xw s.data.toList)).data.toList)]),.both [] [.both [x04 6 1 (.val (vN (dy (pz (Yg s (Xw s.data.toList)).data.toList) 0)))] [x05 7 2 (iV ((Xw s.data.toList+1:Nat):Int)),x03 7 3 (Ψ (Q8 s (Xw s.data.toList+1))),x04 7 4 (.tup [.val (vI (pz (Q8 s (Xw s.data.toList+1)).data.toList)),iV (pI (Q8 s (Xw s.data.toList+1)).data.toList),iV (pE (Q8 s (Xw s.data.toList+1)).data.toList)]),.both [x05 9 2 (iV ((Xw s.data.toList+1:Nat):Int)),x05 9 4 (iV ((Xw s.data.toList:Int)+1+pI (Q8 s (Xw s.data.toList+1)).data.toList))] [.both [x04 11 1 (.tup [iV (de (dy (pz (Q8 s (Xw s.data.toList+1)).data.toList) 0)),bV (decide ((dm (dy (pz (Q8 s (Xw s.data.toList+1)).data.toList) 0))=1))]),.both [] [x05 14 2 (iV (-de (dy (pz (Q8 s (Xw s.data.toList+1)).data.toList) 0))),x04 14 3 (.val (vN (dy (pz (Yg s (Xw s.data.toList)).data.toList) (-de (dy (pz (Q8 s (Xw s.data.toList+1)).data.toList) 0)))))]] [x04 15 1 (.tup [iV (OX (pz (Q8 s (Xw s.data.toList+1)).data.toList)),bV (sG (pz (Q8 s (Xw s.data.toList+1)).data.toList))]),.gb 16 3 [.gb 16 7 [.both [] [x04 18 2 (.val (vN (dy (pz (Yg s (Xw s.data.toList)).data.toList) (OX (pz (Q8 s (Xw s.data.toList+1)).data.toList)))))]] []] []]]]]] λW k l=>(λ(d:QV W)=>Ja (rc W call208 λW=>qy s W x3) (aw W s (Xw s.data.toList) (RY s)) (rc W call209 λW=>fB (Yg s (Xw s.data.toList)) W (hA (Nq s (Xw s.data.toList))))<|Xi ((pE (Yg s (Xw s.data.toList)).data.toList) != 0) (λh=>(show(.tuple #[rN false ⟨#[]⟩ 0,Θ (pI (Yg s (Xw s.data.toList)).data.toList),Θ (pE (Yg s (Xw s.data.toList)).data.toList)]:y9)=Hx s.data.toList from Gl (lw1 h))) λh=>Xi ((Cs s.data.toList)==0) (λa=>ai (rt d call90 λW h=>gk (pz (Yg s (Xw s.data.toList)).data.toList) 0 W (L6 (CV (SP s (Xw s.data.toList))) x3) x4 h)<|(show(.tuple #[vN (dy (pz (Yg s (Xw s.data.toList)).data.toList) 0),Θ 0,Θ 0]:y9)=Hx s.data.toList from Gl (lw2 h a))) λa=>Ja (show IntKind.i64.wrap ((Xw s.data.toList:Int)+1)=((Xw s.data.toList+1:Nat):Int)from kI1 x3) (ax W s (Xw s.data.toList+1) (Qd9 a)) (rc W call209 λW=>fB (Q8 s (Xw s.data.toList+1)) W (hA (I5 s (Xw s.data.toList+1))))<|Xi ((pE (Q8 s (Xw s.data.toList+1)).data.toList) != 0) (λb=>X0 (show IntKind.i64.wrap ((Xw s.data.toList:Int)+1)=((Xw s.data.toList+1:Nat):Int)from kI1 x3) (show IntKind.i64.wrap (((Xw s.data.toList+1:Nat):Int)+pI (Q8 s (Xw s.data.toList+1)).data.toList)=(Xw s.data.toList:Int)+1+pI (Q8 s (Xw s.data.toList+1)).data.toList from kI2 x3)<|(show(.tuple #[rN false ⟨#[]⟩ 0,Θ ((Xw s.data.toList:Int)+1+pI (Q8 s (Xw s.data.toList+1)).data.toList),Θ (pE (Q8 s (Xw s.data.toList+1)).data.toList)]:y9)=Hx s.data.toList from Gl (lw3 h a b))) λb=>Xi ((Cs s.data.toList)==47) (λc=>ai (rt d call210 λW h=>(vP (z:=pz (Q8 s (Xw s.data.toList+1)).data.toList) (L6 (CV (I4 s (Xw s.data.toList+1))) x3) W h).at)<|Xi (!(decide ((dm (dy (pz (Q8 s (Xw s.data.toList+1)).data.toList) 0))=1))) (λg=>(show(.tuple #[rN false ⟨#[]⟩ 0,Θ 0,Θ 1]:y9)=Hx s.data.toList from Gl (lw5 h a b c (l3 g)))) λg=>X0 (nde (CV (I4 s (Xw s.data.toList+1))) j) (rt d call90 λW h=>gk (pz (Yg s (Xw s.data.toList)).data.toList) (-de (dy (pz (Q8 s (Xw s.data.toList+1)).data.toList) 0)) W (L6 (CV (SP s (Xw s.data.toList))) x3) (zA (CV (I4 s (Xw s.data.toList+1))) j) h)<|(show(.tuple #[vN (dy (pz (Yg s (Xw s.data.toList)).data.toList) (-de (dy (pz (Q8 s (Xw s.data.toList+1)).data.toList) 0))),Θ 0,Θ 0]:y9)=Hx s.data.toList from Gl (lw4 h a b c (l3 g)))) λc=>ai (rc W call192 λW=>xF (pz (Q8 s (Xw s.data.toList+1)).data.toList) W (L6 (CV (I4 s (Xw s.data.toList+1))) x3))<|ZD (!(sG (pz (Q8 s (Xw s.data.toList+1)).data.toList))) false (λi=>ZD (decide ((OX (pz (Q8 s (Xw s.data.toList+1)).data.toList))>32768)) false (λe=>Xi (decide ((OX (pz (Q8 s (Xw s.data.toList+1)).data.toList))<(-32768))) (λf=>(show(.tuple #[rN false ⟨#[]⟩ 0,Θ 0,Θ 3]:y9)=Hx s.data.toList from Gl (lw7 h a b c (.inr (.inr (L0 f)))))) λf=>ai (rt d call90 λW h=>gk (pz (Yg s (Xw s.data.toList)).data.toList) (OX (pz (Q8 s (Xw s.data.toList+1)).data.toList)) W (L6 (CV (SP s (Xw s.data.toList))) x3) (QfM e f) h)<|(show(.tuple #[vN (dy (pz (Yg s (Xw s.data.toList)).data.toList) (OX (pz (Q8 s (Xw s.data.toList+1)).data.toList))),Θ 0,Θ 0]:y9)=Hx s.data.toList from Gl (lw6 h a b c (l3 i) e f))) λe=>(show(.tuple #[rN false ⟨#[]⟩ 0,Θ 0,Θ 3]:y9)=Hx s.data.toList from Gl (lw7 h a b c (.inr (.inl (L0 e)))))) λi=>(show(.tuple #[rN false ⟨#[]⟩ 0,Θ 0,Θ 3]:y9)=Hx s.data.toList from Gl (lw7 h a b c (.inl (l3 i))))) (Ql d k)
def G5(x:Tk):o3:=[.string x.s,.int .i64 x.a]
def KT(w0:m0)(v:y9):Qp prog w0 (Instr.makeInterface 103 v) (.iface 103 v):=λw _=>x5
def T6(z:Int):y9:=.iface 103 (.int .i64 z)
structure χ where
 A0:Option Addr
 c0:Nat
 ls:List Ln
 Al:Nat->Option Addr
 cl:Nat->Nat
 A:Option Addr
 c:Nat
 l:List Tk
 ne:Int
 en:Int
def χ.fd(s:χ):FD:=⟨s.ls,s.l,s.ne,s.en⟩
def χ.cs(s:χ)(xs:o3):o3:=.slice s.A0 s.ls.length s.c0::.slice s.A s.l.length s.c::.int .i64 s.ne::.int .i64 s.en::xs
structure χ.ok (s:χ) (w:World):Prop where
 h0:s.ls.length<=s.c0
 r0:RdK w s.A0 s.ls.length 2 (λj=>[.slice (s.Al j) (Xv s.ls j).l.length (s.cl j),.int .i64 (Xv s.ls j).e])
 hl:∀j,j<s.ls.length->(Xv s.ls j).l.length<=s.cl j
 rl:∀j,j<s.ls.length->RdK w (s.Al j) (Xv s.ls j).l.length 2 (λi=>G5 (Qg (Xv s.ls j).l i))
 hc:s.l.length<=s.c
 rd:RdK w s.A s.l.length 2 (λj=>G5 (Qg s.l j))
def QS(l:List Tk):Prop:=l.length<=4000/\∀t,t∈l->0<t.s.size/\t.s.size<=4000
structure okF (s:FD):Prop where
 l:QS s.l
 n:s.ls.length<=4001
 ls:∀n,n∈s.ls->QS n.l/\n.l≠[]
structure χ.In (s:χ) (M:Res):Prop where
 ok:∀(x:Value) (S:Nat->Prop) (w:World),M.φ x S w->s.ok w
 f:okF s.fd
 ca:s.ls.length<=s.c0
 na:0<s.ls.length->∃b o,s.A0=some ⟨b,o,none⟩
def χ.nx(s:χ):χ:={ s with A:=CX s.A s.c 2,c:=s.c-1,l:=s.l.drop 1 }
def χ.ln(s:χ):χ:={ s with A0:=CX s.A0 s.c0 2,c0:=s.c0-1,ls:=s.ls.drop 1,Al:=λj=>s.Al (j+1),cl:=λj=>s.cl (j+1),A:=s.Al 0,c:=s.cl 0,l:=(Xv s.ls 0).l,ne:=(Xv s.ls 0).e }
def χ.nxs:Nat->χ->χ
 |0,s=>s
 |n+1,s=>(χ.nxs n s).nx
variable{a:m0}
def Qer{A:m3}{c:Nat}{l:List Tk}(f:0<l.length)(b:l.length<=c)(d:RdK a A l.length 2 (λj=>G5 (Qg l j))):
  Qp prog a (Instr.sliceAt 63 (.slice A l.length c) (some (.int .i64 1)) none none) (.slice (CX A c 2) (l.drop 1).length (c-1)):=by
 obtain⟨n,e⟩:∃n,l.length=n+1:=⟨l.length-1,x3⟩
 rw[e]at d b ⊢;rw[show(l.drop 1).length=n by rw[Lf];omega];exact yG (Qm 63 _ rfl) rfl x4 b d
def yW{A:m3}{c:Nat}{l:List α}(b:l.length<=c)(d:RdK a A l.length 2 f):RdK a (CX A c 2) (l.drop 1).length 2 (λj=>f (j+1)):=by
 cases l with
 |nil=>intro h;simp at h
 |cons x l=>exact pZ b d
def kV(l:List Tk)(j:Nat):Qg (l.drop 1) j=Qg l (j+1):=by
 simp[Qg]
def FB(l:List Ln)(j:Nat):Xv (l.drop 1) j=Xv l (j+1):=by
 simp[Xv]
variable{s:χ}
def χ.ok.nx(h:s.ok w):s.nx.ok w:=⟨h.h0,h.r0,h.hl,h.rl,(by show(s.l.drop 1).length<=s.c-1;rw[Lf];have:=h.hc;omega),(yW h.hc h.rd).congr λj _=>by show _=G5 (Qg (s.l.drop 1) j);rw[kV]⟩
def χ.ok.ln(h:s.ok w)(b:0<s.ls.length):s.ln.ok w:=by
 have c:∀j,j<(s.ls.drop 1).length->j+1<s.ls.length:=λj a=>by rw[Lf]at a;omega
 refine⟨by show(s.ls.drop 1).length<=s.c0-1;rw[Lf];have:=h.h0;omega,(yW h.h0 h.r0).congr λj _=>?_,λj a=>?_,λj a=>?_,h.hl 0 b,h.rl 0 b⟩
 ·show _=[Value.slice (s.Al (j+1)) (Xv (s.ls.drop 1) j).l.length (s.cl (j+1)),.int .i64 (Xv (s.ls.drop 1) j).e];rw[FB]
 ·show(Xv (s.ls.drop 1) j).l.length<=s.cl (j+1);rw[FB];exact h.hl _ (c j a)
 ·show RdK w (s.Al (j+1)) (Xv (s.ls.drop 1) j).l.length 2 (λi=>G5 (Qg (Xv (s.ls.drop 1) j).l i));rw[FB];exact h.rl _ (c j a)
def oU{l:List Tk}(h:QS l):QS (l.drop 1):=⟨by rw[Lf];have:=h.1;omega,λt a=>h.2 t (To a)⟩
theorem Wn{l:List Ln}(h:k<l.length):Xv l k∈l:=by
 grind[Xv]
theorem ri{l:List Tk}(h:k<l.length):Qg l k∈l:=by
 grind[Qg]
variable{M:Res}
def χ.In.nx(h:s.In M):s.nx.In M:=⟨λx S w a=>(h.ok x S w a).nx,⟨oU h.f.l,h.f.n,h.f.ls⟩,h.ca,h.na⟩
def χ.In.ln(h:s.In M)(a:0<s.ls.length):s.ln.In M:=⟨λx S w c=>(h.ok x S w c).ln a,⟨(h.f.ls _ (Wn a)).1,(by show(s.ls.drop 1).length<=4001;rw[Lf];have:s.ls.length<=4001:=h.f.n;omega),λn d=>h.f.ls n (To d)⟩,(by show(s.ls.drop 1).length<=s.c0-1;rw[Lf];have:=h.ca;omega),λ_=>by
 let⟨b,o,e⟩:=h.na a;exact⟨b,_,(show CX s.A0 s.c0 2=some _ by rw[e];rfl)⟩⟩
def Qau{A:m3}{c:Nat}{l:List Ln}(a:0<l.length)(d:l.length<=c)(e:∃b o,A=some ⟨b,o,none⟩)(w:m0):(Instr.sliceAt 61 (.slice A l.length c) (some (.int .i64 1)) none none).run prog w=.ok (.slice (CX A c 2) (l.drop 1).length (c-1)) w:=by
 obtain⟨b,o,rfl⟩:=e;rw[JO prog w b o l.length c 1 l.length (some (.int .i64 1)) none (Qm 61 _ rfl) rfl x4 (.inr ⟨.i64,rfl⟩) (.inl ⟨rfl,rfl⟩) a d,Tl,Lf];rfl
def χ.In.nxs(h:s.In M):∀n,(χ.nxs n s).In M
 |0=>h
 |n+1=>(h.nxs n).nx
theorem Di{n:Nat}(h:(!decide ((n:Int)>0))=false):0<n:=by
 grind
def nt(h:(!b)=true):b=false:=l3 h
def nf(h:(!b)=false):b=true:=l3 h
def tq(h:decide ((s.l.length:Int)>0)=true):XF s.fd=.error (Qg s.l 0).a:=by
 let⟨_,_,ls,_,_,_,_,l,_,_⟩:=s;cases l with
 |nil=>cases h
 |cons t l=>rfl
def tr(h:decide ((s.l.length:Int)>0)=false):XF s.fd=.ok ((),s.fd):=by
 let⟨_,_,ls,_,_,_,_,l,_,_⟩:=s;cases l with
 |nil=>rfl
 |cons t l=>have:=L1 h;simp at this
def QaM(h:(!decide ((s.l.length:Int)>0))=true):X5 s.fd=.error s.ne:=by
 let⟨_,_,ls,_,_,_,_,l,_,_⟩:=s;cases l with
 |nil=>rfl
 |cons t l=>have:=L1 (nt h);simp at this
def QaN(h:(!decide ((s.l.length:Int)>0))=false):X5 s.fd=.ok (Qg s.l 0,s.nx.fd):=by
 let⟨_,_,ls,_,_,_,_,l,_,_⟩:=s;cases l with
 |nil=>cases h
 |cons t l=>rfl
def Qa1(h:(!decide ((s.ls.length:Int)>0))=true):Hi s.fd=.error s.en:=by
 let⟨_,_,ls,_,_,_,_,l,_,_⟩:=s;cases ls with
 |nil=>rfl
 |cons t l=>have:=L1 (nt h);simp at this
def RG(h:(!decide ((s.ls.length:Int)>0))=false):Hi s.fd=.ok ((),s.ln.fd):=by
 let⟨_,_,ls,_,_,_,_,l,_,_⟩:=s;cases ls with
 |nil=>cases h
 |cons t l=>rfl
def EA{s:FD}(h:b=false):OJ b z s=.error z:=by rw[h];rfl
def EB{s:FD}(h:b=true):OJ b z s=.ok ((),s):=by rw[h];rfl
def Xy(p:Pz α)(s:χ)(v:y9):Prop:=∃z,p s.fd=.error z/\v=T6 z
def jg(W:m0)(g:Nat)(b:o3)(M:Res)(s:χ)(f:FuncId)(args:x0g)(p:Pz α)(a:α)(t:χ)(v:y9):Prop :=
 FxF prog W (Qh g 69 (s.cs b) M) f args (λ_:PLift (p s.fd=.ok (a,t.fd))=>v) (λ_=>Qh g 69 (t.cs b) M) (Xy p s)
def Q0(s:χ):Nm:=km (Zz (Qg s.l 0).s.data.toList).1
def yV{x:Tk×FD}(h:QS s.l)(e:X5 s.fd=.ok x):(Qg s.l 0).s.size<=4000:=by
 let⟨_,_,ls,_,_,_,_,l,_,_⟩:=s;cases l with
 |nil=>cases e
 |cons t l=>exact(h.2 t x6).2
def ez{x:Tk×FD}(h:QS s.l)(e:X5 s.fd=.ok x):0<(Qg s.l 0).s.size:=by
 let⟨_,_,ls,_,_,_,_,l,_,_⟩:=s;cases l with
 |nil=>cases e
 |cons t l=>exact(h.2 t x6).1
variable{s:m1}
def od(a:s.size<=60000)(W:m0)(b:QV W):RetAt prog W 154 #[.string s] (.tuple #[.agg #[.bool (neg (dm (Zz s.data.toList).1)),.string (QJ (dm (Zz s.data.toList).1)),.int .i64 (de (Zz s.data.toList).1)],.int .i64 (Zz s.data.toList).2.1,.int .i64 (Zz s.data.toList).2.2]):=oc a W b
abbrev Hzk(s:χ):y9:=.int .i64 ((Qg s.l 0).a)
def Pv(g:Nat)(M:Res)(s:χ)(xs:o3)(k:s.In M)(W:m0):jg W g xs M s 79 #[x02 g] XF () s (.tuple #[]) :=
 VC Qm QU (λa w=>call79 a w) func79 ntmps79 results79 _ rfl _ _ _ _ [.inl 0 1 f113,x06 1 4 [0] (Ω s.A s.l.length s.c),.both [x06 1 4 [0] (Ω s.A s.l.length s.c),x06 1 5 [0] (.pointer (some (Q5 s.A (0*2+0)))),x06 1 7 [0] (Hzk s),.inl 1 8 f73,x03 1 1 (.iface 103 (Hzk s))] []] (λF=>have Z:=Q2 (w0:=W) (g:=g) (t:=69) (cs:=(χ.cs s xs)) (M:=M) (λb e=>Y5 b 1 e rfl);Ja func113 (λa w=>call113 a w) Z<|Xi (decide ((s.l.length:Int)>0)) (λd=>Vv Z (YB W g 69 (χ.cs s xs) M (λb x S f=>have j:=k.ok x S b f;Y4 b s.c j.rd 0 (Qt d))) (YB W g 69 (χ.cs s xs) M (λb x S f=>have j:=k.ok x S b f;BZ b j.rd 0 1 (Qt d) x4 rfl)) func73 (λa w=>call73 a w) (KT W (Hzk s))<|(KP F (.iface 103 (Hzk s)) (Xy XF s) (show Xy XF s (.iface 103 (Θ ((Qg s.l 0).a)))from⟨_,tq d,rfl⟩))) λd=>(YP F (.tuple #[]) (λ_:PLift (XF s.fd=.ok ((),s.fd))=>.tuple #[]) (Qh g 69 (χ.cs s xs) M) (λ_:PLift (XF s.fd=.ok ((),s.fd))=>Qh g 69 (χ.cs s xs) M) ⟨tr d⟩ rfl λ_ _ _ h=>h)) λF=>x5
abbrev Hzl(s:χ)(xs:o3):o3:=.slice s.A0 s.ls.length s.c0::.slice (CX s.A s.c 2) (s.l.drop 1).length (s.c-1)::.int .i64 s.ne::.int .i64 s.en::xs
def dF(g:Nat)(M:Res)(s:χ)(xs:o3)(k:s.In M)(W:m0):jg W g xs M s 108 #[x02 g] X5 (Qg s.l 0) s.nx (.agg #[Ψ ((Qg s.l 0).s),Θ ((Qg s.l 0).a)]) :=
 VC Qm QU (λa w=>call108 a w) func108 ntmps108 results108 _ rfl _ _ _ _ [.reg 12 [],x06 1 4 [0] (Ω s.A s.l.length s.c),x06 1 11 [0] (Θ s.ne),.inl 1 12 f73,.both [x03 1 1 (.iface 103 (Θ s.ne))] [x06 2 4 [0] (Ω s.A s.l.length s.c),x06 2 5 [0] (.pointer (some (Q5 s.A (0*2+0)))),x06 2 6 [0] (.agg #[Ψ ((Qg s.l 0).s),Θ ((Qg s.l 0).a)]),x06 3 5 [0] (Ω s.A s.l.length s.c),x06 3 6 [0] (Ω (CX s.A s.c 2) (s.l.drop 1).length (s.c-1)),x08 3 10 0 (λ(m:Unit)=>(undef,Qh g 69 (Hzl s xs) M,[]))]] (λF=>have Z:=Q2 (w0:=W) (g:=g) (t:=69) (cs:=(χ.cs s xs)) (M:=M) (λb d=>Y5 b 1 d rfl);Ky Z (Q2 (w0:=W) (g:=g) (t:=69) (cs:=(χ.cs s xs)) (M:=M) (λb d=>Ze b 2 d rfl)) func73 (λa w=>call73 a w)<|Xi (!(decide ((s.l.length:Int)>0))) (λe=>ai (KT W (Θ s.ne))<|(KP F (.iface 103 (Θ s.ne)) (Xy X5 s) (show Xy X5 s (.iface 103 (Θ s.ne))from⟨_,QaM e,rfl⟩))) λe=>KJ Z (YB W g 69 (χ.cs s xs) M (λb x S j=>have f:=k.ok x S b j;Y4 b s.c f.rd 0 (Di e))) (YB W g 69 (χ.cs s xs) M (λb x S j=>have f:=k.ok x S b j;NL (w0:=b) (i:=0) (o:=0) f.rd (Di e) x4 rfl rfl)) Z (YB W g 69 (χ.cs s xs) M (λb x S j=>have f:=k.ok x S b j;Qer (Di e) f.hc f.rd))<|ai (YN W prog g 69 (χ.cs s xs) M 63 ([Ω (CX s.A s.c 2) (s.l.drop 1).length (s.c-1)]) 1 (Ω (CX s.A s.c 2) (s.l.drop 1).length (s.c-1)) (Qm 63 _ rfl) rfl rfl (L8 rfl) (Lg.1 (rfl:([Ω (CX s.A s.c 2) (s.l.drop 1).length (s.c-1)]:o3).all (λu=>u.oneCell')=true))) λ(m:Unit)=>(YP F (.agg #[Ψ ((Qg s.l 0).s),Θ ((Qg s.l 0).a)]) (λ_:PLift (X5 s.fd=.ok ((Qg s.l 0),s.nx.fd))=>.agg #[Ψ ((Qg s.l 0).s),Θ ((Qg s.l 0).a)]) (Qh g 69 (Hzl s xs) M) (λ_:PLift (X5 s.fd=.ok ((Qg s.l 0),s.nx.fd))=>Qh g 69 (χ.cs s.nx xs) M) ⟨QaN e⟩ rfl λ_ _ _ h=>h)) λF=>x5
abbrev Hzm(s:χ):=Zz (Qg s.l 0).s.data.toList
abbrev Hzn(s:χ):=X5 s.fd=.ok ((Qg s.l 0),s.nx.fd)
def Af(g:Nat)(M:Res)(s:χ)(xs:o3)(d:s.In M)(W:m0)(e:QV W):jg W g xs M s 114 #[x02 g] XV (Q0 s) s.nx (nA (Q0 s)) :=
 VC Qm QU (λa w=>call114 a w) func114 ntmps114 results114 _ rfl _ _ _ _ [x07 1 1 0 (Xy X5 s) (λ(b:PLift (Hzn s))=>(.agg #[Ψ ((Qg s.l 0).s),Θ ((Qg s.l 0).a)],Qh g 69 (χ.cs s.nx xs) M,[x04 2 2 (.tup [.agg [bV (neg (dm (Hzm s).1)),sV (QJ (dm (Hzm s).1)),iV (de (Hzm s).1)],iV ((Hzm s).2.1),iV ((Hzm s).2.2)]),.inl 3 4 f73,.both [x03 1 1 (.iface 103 (Θ ((Qg s.l 0).a)))] []]))] (λF=>ai (dF g M s xs d W)<|ai (λ(b:PLift (Hzn s))=>Ja (od (s:=(Qg s.l 0).s) (L6 (yV d.f.l b.down) x4) W e) func73 (λa w=>call73 a w)<|Xi (!(((Zz (Qg s.l 0).s.data.toList).2.2)==0)) (λc=>ai (KT W (Θ ((Qg s.l 0).a)))<|(KP F (.iface 103 (Θ ((Qg s.l 0).a))) (Xy XV s) (show Xy XV s (.iface 103 (Θ ((Qg s.l 0).a)))from⟨_,(QA b.down).trans (Xc (EA (nt c))),rfl⟩))) λc=>(YP F (.agg #[Ξ (neg (dm (Hzm s).1)),Ψ (QJ (dm (Hzm s).1)),Θ (de (Hzm s).1)]) (λ_:PLift (XV s.fd=.ok ((Q0 s),s.nx.fd))=>nA (Q0 s)) (Qh g 69 (χ.cs s.nx xs) M) (λ_:PLift (XV s.fd=.ok ((Q0 s),s.nx.fd))=>Qh g 69 (χ.cs s.nx xs) M) ⟨(QA b.down).trans (QA (EB (nf c)))⟩ rfl λ_ _ _ h=>h)) (Yf F (Xy X5 s) (Xy XV s) λ_ h=>h.imp λ_ h=>⟨Xc h.1,h.2⟩)) λF=>x5
def Cj(x:Tk):(G5 x).length=2:=rfl
def SO(x:Tk)(u:y9)(h:u∈G5 x):u.oneCell'=true:=by
 simp only[G5,Lb,Ri,or_false]at h;rcases h with rfl|rfl<;>rfl
def YW:Option Nat->Int
 |none=>-1
 |some i=>(i:Int)
section
variable{l:List UInt8}{a:Int}{p:Nat}
theorem Bq:∀ {p i:Nat},(Qd l a p).2=some i->i<p
 |0,_,h=>nomatch h
 |p+1,i,h=>by
  have b:(ZT l a p (Qd l a p)).2=some i:=h;unfold ZT at b;cases e:ZP (l.getD p 0)with
  |true =>
   rw[e]at b;unfold D3 at b;cases c:(Qd l a p).2 with
   |none=>rw[cond_true,c]at b;rw[c]at b;cases b
   |some j=>rw[cond_true,c]at b;cases b
  |false =>
   rw[e,cond_false]at b;cases c:(Qd l a p).2 with
   |none=>rw[c]at b;have d:=o7 b;omega
   |some j=>rw[c]at b;rw[c]at b;have d:=o7 b;have:=Bq c;omega
theorem ru(h:ZP (l.getD p 0)=true):Qd l a (p+1)=D3 l a p (Qd l a p):=by
 grind[ZT,Qd]
theorem rq(h:ZP (l.getD p 0)=false)(e:(Qd l a p).2=none):Qd l a (p+1)=((Qd l a p).1,some p):=by
 grind[ZT,Qd]
theorem eD{i:Nat}(h:ZP (l.getD p 0)=false)(e:(Qd l a p).2=some i):Qd l a (p+1)=Qd l a p:=by
 grind[ZT,Qd]
def kY(h:ZP (l.getD p 0)=false):∃i,(Qd l a (p+1)).2=some i:=by
 cases e:(Qd l a p).2 with
 |none=>rw[rq h e];exact⟨_,rfl⟩
 |some i=>rw[eD h e];exact⟨_,e⟩
theorem FY:∀ {w:Nat},1<=w->(∀j,j<w->ZP (l.getD (p+j) 0)=false)->Qd l a (p+w)=Qd l a (p+1)
 |1,_,_=>rfl
 |w+2,_,h=>by
  have b:=FY (w:=w+1) x3 λj c=>h j x3
  let⟨i,d⟩:=kY (a:=a) (h 0 x3);rw[<- b,show p+(w+2)=(p+(w+1))+1 by omega];simp_all[eD]
theorem At:∀p,(Qd l a p).1.length<=p
 |0=>L4 _
 |p+1=>by
  have h:=At p
  grind[ZT,Qd,D3]
def ar{o:Option Nat}(h:decide (YW o>=0)=false):o=none:=by
 cases o with
 |none=>rfl
 |some i=>have:=L1 h;exact absurd (Int.natCast_nonneg i) this
def Nn{o:Option Nat}(h:decide (YW o>=0)=true):∃i,o=some i/\YW o=(i:Int):=by
 cases o with
 |none=>exact absurd (L0 h) x4
 |some i=>exact⟨i,rfl,rfl⟩
theorem UV(h:decide (YW (Qd l a p).2>=0)=true):D3 l a p (Qd l a p)=((Qd l a p).1++[⟨sub l (YW (Qd l a p).2).toNat p,a+YW (Qd l a p).2⟩],none):=by
 let⟨i,e,b⟩:=Nn h
 grind[D3]
def UU(h:decide (YW (Qd l a p).2>=0)=false):D3 l a p (Qd l a p)=Qd l a p:=by
 unfold D3;rw[ar h]
end
variable{p:Nat}
theorem XC(h:p<s.size)(a:(((Utf8.decode s p).1:Nat):Int)=32\/(((Utf8.decode s p).1:Nat):Int)=9):ZP (s.data.toList.getD p 0)=true/\(Utf8.decode s p).2=1:=by
 rcases R5 (s.data.toList.getD p 0).toNat 128 with b|b
 ·have e:=fE h b;rw[e]at a ⊢;refine⟨?_,rfl⟩;unfold ZP;rcases a with a|a
  ·have c:(((s.data.toList.getD p 0).toNat:Nat):Int)=32:=a;rw[show s.data.toList.getD p 0=32 from UInt8.toNat_inj.1 (show(s.data.toList.getD p 0).toNat=32 by omega)];rfl
  ·have c:(((s.data.toList.getD p 0).toNat:Nat):Int)=9:=a;rw[show s.data.toList.getD p 0=9 from UInt8.toNat_inj.1 (show(s.data.toList.getD p 0).toNat=9 by omega)];rfl
 grind[UM]
theorem lG{c:UInt8}(h:128<=c.toNat):ZP c=false:=by
 unfold ZP;rw[Rf];exact⟨Lp.2 λe=>by rw[e]at h;exact absurd h x4,Lp.2 λe=>by rw[e]at h;exact absurd h x4⟩
theorem Yp(h:p<s.size)(a:¬(((Utf8.decode s p).1:Nat):Int)=32)(b:¬(((Utf8.decode s p).1:Nat):Int)=9):1<=(Utf8.decode s p).2/\p+(Utf8.decode s p).2<=s.size/\∀j,j<(Utf8.decode s p).2->ZP (s.data.toList.getD (p+j) 0)=false:=by
 rcases R5 (s.data.toList.getD p 0).toNat 128 with c|c
 ·have e:=fE h c;rw[e]at a b ⊢;refine⟨L4 _,h,λj d=>?_⟩;have:j=0:=by have f:j<1:=d;omega
  subst this;unfold ZP;rw[Rf];exact⟨Lp.2 λe=>a (by rw[T9]at e;rw[e];rfl),Lp.2 λe=>b (by rw[T9]at e;rw[e];rfl)⟩
 grind[UM,lG]
theorem SJ(s:m1)(o:Option Nat)(p:Nat)(h:decide (YW o>=0)=true)(a:∀i,o=some i->i<=p)(c:p<=s.size)(W:m0):Qp prog W (Instr.sliceAt 9 (.string s) (some (.int .i64 (YW o))) (some (.int .i64 (p:Int))) none) (.string (sub s.data.toList (YW o).toNat p)):=λd _=>by
 let⟨i,e,b⟩:=Nn h;have f:=a i e;rw[b,run_sliceAt_string (h:=Tryz.underlying9),run_slice_string (h:=Tryz.underlying9) (h0:=x3) (h1:=x3) (h2:=x3)];congr 2;apply ByteArray.ext;rw[ByteArray.data_extract]
 grind[sub]
section
variable{l:List UInt8}{a:Int}{p w:Nat}
def QbY(c:1<=w)(h:∀j,j<w->ZP (l.getD (p+j) 0)=false)(b:decide (YW (Qd l a p).2<0)=true):Qd l a (p+w)=((Qd l a p).1,some p):=by
 rw[FY c h];refine rq (h 0 x3) ?_
 cases e:(Qd l a p).2 with
 |none=>rfl
 |some i=>rw[e]at b;have d:(i:Int)<0:=L0 b;omega
def QbZ(c:1<=w)(h:∀j,j<w->ZP (l.getD (p+j) 0)=false)(b:decide (YW (Qd l a p).2<0)=false):Qd l a (p+w)=Qd l a p:=by
 rw[FY c h];cases e:(Qd l a p).2 with
 |none=>rw[e]at b;exact absurd (show(-1:Int)<0 by decide) (L1 b)
 |some i=>exact eD (h 0 x3) e
def kW(b:ZP (l.getD p 0)=true/\w=1)(h:decide (YW (Qd l a p).2>=0)=true):Qd l a (p+w)=((Qd l a p).1++[⟨sub l (YW (Qd l a p).2).toNat p,a+YW (Qd l a p).2⟩],none):=by
 rw[b.2,ru b.1,UV h]
def kX(b:ZP (l.getD p 0)=true/\w=1)(h:decide (YW (Qd l a p).2>=0)=false):Qd l a (p+w)=((Qd l a p).1,none):=by
 rw[b.2,ru b.1,UU h,<- ar h]
variable{x:List Tk×Option Nat}(E:Qd l a p=x)
include E
theorem FV{t:Nat}{A:m3}{c:Nat}{X:y9}{S:Nat->Prop}{w:m0}(h:(Qc t 2 G5 x.1 A c).φ X S w):(Qc t 2 G5 (Qd l a p).1 A c).φ X S w:=by rw[E];exact h
theorem FW{A:m3}{c:Nat}:Value.slice A x.1.length c=Value.slice A (Qd l a p).1.length c:=by rw[E]
theorem O7:YW x.2=YW (Qd l a p).2:=by rw[E]
end
variable{a:Int}
def ew(h:decide (YW (Qd s.data.toList a p).2>=0)=true):0<=YW (Qd s.data.toList a p).2/\YW (Qd s.data.toList a p).2<p:=by
 let⟨i,e,b⟩:=Nn h;have:=Bq e;omega
theorem iN(b:p=s.size)(h:decide (YW (Qd s.data.toList a p).2>=0)=true):(Qd s.data.toList a p).1++[⟨sub s.data.toList (YW (Qd s.data.toList a p).2).toNat s.size,a+YW (Qd s.data.toList a p).2⟩]=YI s.data.toList a:=by
 subst b;simp_all[YI,UV]
theorem iM(b:p=s.size)(h:decide (YW (Qd s.data.toList a p).2>=0)=false):(Qd s.data.toList a p).1=YI s.data.toList a:=by
 subst b;simp_all[YI,UU]
def Y9:RowT prog 63 63 102 2 24:=⟨x5,⟨102,x5⟩,x5,x4,x4⟩
abbrev Hzo(s:m1)(a:Int)(q1:Nat×Hp):=Qd s.data.toList a q1.1
abbrev Hzp(s:m1)(a:Int)(q1:Nat×Hp):=sub s.data.toList (YW (Hzo s a q1).2).toNat q1.1
abbrev Hzq(q1:Nat×Hp)(s:m1):=(q1.1+(Utf8.decode s q1.1).2,q1.2)
noncomputable def Hzr(s:m1)(a:Int)(q1:Nat×Hp):List Dir:=[.inl 8 2 f70,.both [.reg 10 [],x03 1 4 (.string (Hzp s a q1)),x05 1 7 (iV (a+YW (Hzo s a q1).2)),x08 1 10 0 (λ(d:Hp)=>(Value.slice d.1 ((Hzo s a q1).1++[(⟨(Hzp s a q1),a+YW (Hzo s a q1).2⟩:Tk)]).length d.2,Qc 102 2 G5 ((Hzo s a q1).1++[(⟨(Hzp s a q1),a+YW (Hzo s a q1).2⟩:Tk)]) d.1 d.2,[.nxt [d]]))] [.nxt [q1.2]]]
abbrev Hzs(s:m1)(a:Int)(q1:Nat×Hp):=sub s.data.toList (YW (Hzo s a q1).2).toNat s.size
abbrev Hzt:Nat×Hp:=(0,(none,0))
abbrev Hzu(j:Nat):y9:=.pointer (some ⟨j,0,none⟩)
abbrev Hzv(s:m1)(q1:Nat×Hp):=Utf8.decode s q1.1
abbrev Hzw(s:m1)(a:Int)(q1:Nat×Hp):=(Qd s.data.toList a ((Hzq q1 s).1)).1
abbrev Hzx(j:Nat)(s:m1)(q1:Nat×Hp):=Mp j s (q1.1+(Hzv s q1).2)
abbrev Hzy:=λa w=>call70 a w
def rp(C:s.size<=65536)(D:0<=a/\a<=1000000)(w:m0):NewIn prog w [] 38 #[Ψ s,Θ a] (λy:Hp=>Ω y.1 (YI s.data.toList a).length y.2) (λy:Hp=>Qc 102 2 G5 (YI s.data.toList a) y.1 y.2) :=
 let t:OB:=some (9,[sV s]);let Z1:OB:=some (3,[iV a]);Bf Hp Qm QU (λa w=>call38 a w) func38 ntmps38 results38 _ rfl 0 _ _ [.nil 0 2 102 2 G5,x09 4 1 [] (λ(j:Nat)=>(x02 j,Mp j s 0,[x0a (Hzt:Nat×Hp) (λ(q1:Nat×Hp) (u:List Hp)=>(q1.1+(Hzv s q1).2,u.headD (none,0))) (λ(q1:Nat×Hp)=>((⟨36,[(2,.ptr 0 0),(3,.ptr 1 0),(5,.ptr 2 0),(6,.ptr 3 0),(7,.clo (.func 70) [] [.ptr 3 0,.ptr 2 0,.ptr 0 0,.ptr 1 0]),(12,.val (Hzu j))],[none,none,some (63,[lV q1.2.1 ((Hzo s a q1).1).length q1.2.2]),some (3,[iV (YW (Hzo s a q1).2)])],[some (Qc 102 2 G5 ((Hzo s a q1).1) q1.2.1 q1.2.2),some (Mp j s q1.1)]⟩:St),(q1.1<=s.size),(s.size-q1.1),[.cas 5 0 (decide (q1.1<s.size)) [x08 5 0 1 (λ(v:Unit)=>(Value.tuple #[Ξ true,Θ (q1.1:Int),.int .i32 (((Hzv s q1).1:Nat):Int)],Mp j s (q1.1+(Hzv s q1).2),[.gb 7 3 [.both (Hzr s a q1) [.both [.nxt [q1.2]] [.nxt [q1.2]]]] (Hzr s a q1)]))] [x08 5 0 1 (λ(v:Unit)=>(Value.tuple #[Ξ false],Mp j s q1.1,[.inl 11 3 f70,.both [.reg 10 [],x03 1 4 (Ψ (Hzs s a q1)),x05 1 7 (iV (a+YW (Hzo s a q1).2)),x08 1 10 0 (λ(d:Hp)=>(Ω d.1 ((Hzo s a q1).1++[(⟨(Hzs s a q1),a+YW (Hzo s a q1).2⟩:Tk)]).length d.2,Qc 102 2 G5 ((Hzo s a q1).1++[(⟨(Hzs s a q1),a+YW (Hzo s a q1).2⟩:Tk)]) d.1 d.2,[]))] []]))]]))]))] (λW E=>ai (QdE (P:=prog) (w0:=W) (s:=s) Tryz.underlying9) λ(j:Nat)=>Yx (Rx (.func 70:Fn)) (qV (Hzu j)) (qk t) (qk Z1) (qV (Ω Hzt.2.1 ((Qd s.data.toList a (Hzt.1)).1).length Hzt.2.2)) (qI (YW (Qd s.data.toList a (Hzt.1)).2)) (Yq (Qc 102 2 G5 ([]:List Tk) none 0) (Qc 102 2 G5 ((Qd s.data.toList a (Hzt.1)).1) (Hzt.2.1) (Hzt.2.2)) λ_ _ _ h=>h) (Yq (Mp j s 0) (Mp j s Hzt.1) λ_ _ _ h=>h)<|ai (show(0:Nat)<=s.size from L7 _) λ(q1:Nat×Hp) (z:(q1.1<=s.size))=>Xi (decide (q1.1<s.size)) (λf=>ai (uj (P:=prog) (w0:=W) (s:=s) (g:=j) (p:=q1.1) 0 (L0 f)) λ(v:Unit)=>ZD ((((Utf8.decode s q1.1).1:Nat):Int)==32) false (λb=>Xi ((((Utf8.decode s q1.1).1:Nat):Int)==9) (λk=>X0 func70 Hzy<|Xi (decide ((YW (Qd s.data.toList a q1.1).2)>=0)) (λn=>X0 (SJ s ((Hzo s a q1).2) q1.1 n (λi e=>L6 (Sv (Bq e)) (L4 _)) z W) (show IntKind.i64.wrap (a+YW (Qd s.data.toList a q1.1).2)=a+YW (Qd s.data.toList a q1.1).2 from Le _ (hA (ew n)))<|ai (YJ W 63 102 1 1 G5 ((Hzo s a q1).1) ([(⟨(Hzp s a q1),a+YW (Hzo s a q1).2⟩:Tk)]) ((Hzo s a q1).1++[(⟨(Hzp s a q1),a+YW (Hzo s a q1).2⟩:Tk)]) q1.2.1 q1.2.2 ([Ψ (Hzp s a q1),Θ (a+YW (Hzo s a q1).2)]) Y9 Cj SO rfl (show((Qd s.data.toList a q1.1).1++[(⟨(sub s.data.toList (YW (Qd s.data.toList a q1.1).2).toNat q1.1),a+YW (Qd s.data.toList a q1.1).2⟩:Tk)]).length*24<=140737488355328 from by rw[La];have:=At (l:=s.data.toList) (a:=a) q1.1;simp only[Ro];omega) rfl rfl) λ(d:Hp)=>Yx (Rx (.func 70:Fn)) (qV (Hzu j)) (qk t) (qk Z1) (show(Ω d.1 ((Qd s.data.toList a q1.1).1++[(⟨(sub s.data.toList (YW (Qd s.data.toList a q1.1).2).toNat q1.1),a+YW (Qd s.data.toList a q1.1).2⟩:Tk)]).length d.2:y9)=(Ω (q1.1+(Utf8.decode s q1.1).2,d).2.1 ((Qd s.data.toList a ((q1.1+(Utf8.decode s q1.1).2,d).1)).1).length (q1.1+(Utf8.decode s q1.1).2,d).2.2)from(FW (kW (XC (L0 f) (.inr (l3 k))) n))) (show((-1):Int)=(YW (Qd s.data.toList a ((q1.1+(Utf8.decode s q1.1).2,d).1)).2)from(O7 (kW (XC (L0 f) (.inr (l3 k))) n))) (Yq (Qc 102 2 G5 ((Hzo s a q1).1++[(⟨(Hzp s a q1),a+YW (Hzo s a q1).2⟩:Tk)]) d.1 d.2) (Qc 102 2 G5 ((Qd s.data.toList a ((q1.1+(Hzv s q1).2,d).1)).1) ((q1.1+(Hzv s q1).2,d).2.1) ((q1.1+(Hzv s q1).2,d).2.2)) λ_ _ _ h=>(FV (kW (XC (L0 f) (.inr (l3 k))) n) h)) (Yq (Hzx j s q1) (Mp j s (q1.1+(Hzv s q1).2,d).1) λ_ _ _ h=>h)<|ai (show q1.1+(Utf8.decode s q1.1).2<=s.size from by have q:=(XC (L0 f) (.inr (l3 k))).2;have r:=L0 f;omega) (show s.size-(q1.1+(Utf8.decode s q1.1).2)<s.size-q1.1 from by have q:=(XC (L0 f) (.inr (l3 k))).2;have r:=L0 f;omega)) λn=>Yx (Rx (.func 70:Fn)) (qV (Hzu j)) (qk t) (qk Z1) (show(Ω q1.2.1 ((Qd s.data.toList a q1.1).1).length q1.2.2:y9)=(Ω (q1.1+(Utf8.decode s q1.1).2,q1.2).2.1 ((Qd s.data.toList a ((q1.1+(Utf8.decode s q1.1).2,q1.2).1)).1).length (q1.1+(Utf8.decode s q1.1).2,q1.2).2.2)from(FW (kX (XC (L0 f) (.inr (l3 k))) n))) (show((-1):Int)=(YW (Qd s.data.toList a ((q1.1+(Utf8.decode s q1.1).2,q1.2).1)).2)from(O7 (kX (XC (L0 f) (.inr (l3 k))) n))) (Yq (Qc 102 2 G5 ((Hzo s a q1).1) q1.2.1 q1.2.2) (Qc 102 2 G5 (Hzw s a q1) ((Hzq q1 s).2.1) ((Hzq q1 s).2.2)) λ_ _ _ h=>(FV (kX (XC (L0 f) (.inr (l3 k))) n) h)) (Yq (Hzx j s q1) (Mp j s (Hzq q1 s).1) λ_ _ _ h=>h)<|ai (show q1.1+(Utf8.decode s q1.1).2<=s.size from by have q:=(XC (L0 f) (.inr (l3 k))).2;have r:=L0 f;omega) (show s.size-(q1.1+(Utf8.decode s q1.1).2)<s.size-q1.1 from by have q:=(XC (L0 f) (.inr (l3 k))).2;have r:=L0 f;omega)) λk=>Xi (decide ((YW (Qd s.data.toList a q1.1).2)<0)) (λB=>Yx (Rx (.func 70:Fn)) (qV (Hzu j)) (qk t) (qk Z1) (show(Ω q1.2.1 ((Qd s.data.toList a q1.1).1).length q1.2.2:y9)=(Ω (q1.1+(Utf8.decode s q1.1).2,q1.2).2.1 ((Qd s.data.toList a ((q1.1+(Utf8.decode s q1.1).2,q1.2).1)).1).length (q1.1+(Utf8.decode s q1.1).2,q1.2).2.2)from(FW (QbY (Yp (L0 f) (l3 b) (l3 k)).1 (Yp (L0 f) (l3 b) (l3 k)).2.2 B))) (show((q1.1:Int):Int)=(YW (Qd s.data.toList a ((q1.1+(Utf8.decode s q1.1).2,q1.2).1)).2)from(O7 (QbY (Yp (L0 f) (l3 b) (l3 k)).1 (Yp (L0 f) (l3 b) (l3 k)).2.2 B))) (Yq (Qc 102 2 G5 ((Hzo s a q1).1) q1.2.1 q1.2.2) (Qc 102 2 G5 (Hzw s a q1) ((Hzq q1 s).2.1) ((Hzq q1 s).2.2)) λ_ _ _ h=>(FV (QbY (Yp (L0 f) (l3 b) (l3 k)).1 (Yp (L0 f) (l3 b) (l3 k)).2.2 B) h)) (Yq (Hzx j s q1) (Mp j s (Hzq q1 s).1) λ_ _ _ h=>h)<|ai (show q1.1+(Utf8.decode s q1.1).2<=s.size from(Yp (L0 f) (l3 b) (l3 k)).2.1) (show s.size-(q1.1+(Utf8.decode s q1.1).2)<s.size-q1.1 from by have q:=(Yp (L0 f) (l3 b) (l3 k)).1;have r:=L0 f;omega)) λB=>Yx (Rx (.func 70:Fn)) (qV (Hzu j)) (qk t) (qk Z1) (show(Ω q1.2.1 ((Qd s.data.toList a q1.1).1).length q1.2.2:y9)=(Ω (q1.1+(Utf8.decode s q1.1).2,q1.2).2.1 ((Qd s.data.toList a ((q1.1+(Utf8.decode s q1.1).2,q1.2).1)).1).length (q1.1+(Utf8.decode s q1.1).2,q1.2).2.2)from(FW (QbZ (Yp (L0 f) (l3 b) (l3 k)).1 (Yp (L0 f) (l3 b) (l3 k)).2.2 B))) (show((YW (Qd s.data.toList a q1.1).2):Int)=(YW (Qd s.data.toList a ((q1.1+(Utf8.decode s q1.1).2,q1.2).1)).2)from(O7 (QbZ (Yp (L0 f) (l3 b) (l3 k)).1 (Yp (L0 f) (l3 b) (l3 k)).2.2 B))) (Yq (Qc 102 2 G5 ((Hzo s a q1).1) q1.2.1 q1.2.2) (Qc 102 2 G5 (Hzw s a q1) ((Hzq q1 s).2.1) ((Hzq q1 s).2.2)) λ_ _ _ h=>(FV (QbZ (Yp (L0 f) (l3 b) (l3 k)).1 (Yp (L0 f) (l3 b) (l3 k)).2.2 B) h)) (Yq (Hzx j s q1) (Mp j s (Hzq q1 s).1) λ_ _ _ h=>h)<|ai (show q1.1+(Utf8.decode s q1.1).2<=s.size from(Yp (L0 f) (l3 b) (l3 k)).2.1) (show s.size-(q1.1+(Utf8.decode s q1.1).2)<s.size-q1.1 from by have q:=(Yp (L0 f) (l3 b) (l3 k)).1;have r:=L0 f;omega)) λb=>X0 func70 Hzy<|Xi (decide ((YW (Qd s.data.toList a q1.1).2)>=0)) (λn=>X0 (SJ s ((Hzo s a q1).2) q1.1 n (λi e=>L6 (Sv (Bq e)) (L4 _)) z W) (show IntKind.i64.wrap (a+YW (Qd s.data.toList a q1.1).2)=a+YW (Qd s.data.toList a q1.1).2 from Le _ (hA (ew n)))<|ai (YJ W 63 102 1 1 G5 ((Hzo s a q1).1) ([(⟨(Hzp s a q1),a+YW (Hzo s a q1).2⟩:Tk)]) ((Hzo s a q1).1++[(⟨(Hzp s a q1),a+YW (Hzo s a q1).2⟩:Tk)]) q1.2.1 q1.2.2 ([Ψ (Hzp s a q1),Θ (a+YW (Hzo s a q1).2)]) Y9 Cj SO rfl (show((Qd s.data.toList a q1.1).1++[(⟨(sub s.data.toList (YW (Qd s.data.toList a q1.1).2).toNat q1.1),a+YW (Qd s.data.toList a q1.1).2⟩:Tk)]).length*24<=140737488355328 from by rw[La];have:=At (l:=s.data.toList) (a:=a) q1.1;simp only[Ro];omega) rfl rfl) λ(d:Hp)=>Yx (Rx (.func 70:Fn)) (qV (Hzu j)) (qk t) (qk Z1) (show(Ω d.1 ((Qd s.data.toList a q1.1).1++[(⟨(sub s.data.toList (YW (Qd s.data.toList a q1.1).2).toNat q1.1),a+YW (Qd s.data.toList a q1.1).2⟩:Tk)]).length d.2:y9)=(Ω (q1.1+(Utf8.decode s q1.1).2,d).2.1 ((Qd s.data.toList a ((q1.1+(Utf8.decode s q1.1).2,d).1)).1).length (q1.1+(Utf8.decode s q1.1).2,d).2.2)from(FW (kW (XC (L0 f) (.inl (l3 b))) n))) (show((-1):Int)=(YW (Qd s.data.toList a ((q1.1+(Utf8.decode s q1.1).2,d).1)).2)from(O7 (kW (XC (L0 f) (.inl (l3 b))) n))) (Yq (Qc 102 2 G5 ((Hzo s a q1).1++[(⟨(Hzp s a q1),a+YW (Hzo s a q1).2⟩:Tk)]) d.1 d.2) (Qc 102 2 G5 ((Qd s.data.toList a ((q1.1+(Hzv s q1).2,d).1)).1) ((q1.1+(Hzv s q1).2,d).2.1) ((q1.1+(Hzv s q1).2,d).2.2)) λ_ _ _ h=>(FV (kW (XC (L0 f) (.inl (l3 b))) n) h)) (Yq (Hzx j s q1) (Mp j s (q1.1+(Hzv s q1).2,d).1) λ_ _ _ h=>h)<|ai (show q1.1+(Utf8.decode s q1.1).2<=s.size from by have q:=(XC (L0 f) (.inl (l3 b))).2;have r:=L0 f;omega) (show s.size-(q1.1+(Utf8.decode s q1.1).2)<s.size-q1.1 from by have q:=(XC (L0 f) (.inl (l3 b))).2;have r:=L0 f;omega)) λn=>Yx (Rx (.func 70:Fn)) (qV (Hzu j)) (qk t) (qk Z1) (show(Ω q1.2.1 ((Qd s.data.toList a q1.1).1).length q1.2.2:y9)=(Ω (q1.1+(Utf8.decode s q1.1).2,q1.2).2.1 ((Qd s.data.toList a ((q1.1+(Utf8.decode s q1.1).2,q1.2).1)).1).length (q1.1+(Utf8.decode s q1.1).2,q1.2).2.2)from(FW (kX (XC (L0 f) (.inl (l3 b))) n))) (show((-1):Int)=(YW (Qd s.data.toList a ((q1.1+(Utf8.decode s q1.1).2,q1.2).1)).2)from(O7 (kX (XC (L0 f) (.inl (l3 b))) n))) (Yq (Qc 102 2 G5 ((Hzo s a q1).1) q1.2.1 q1.2.2) (Qc 102 2 G5 (Hzw s a q1) ((Hzq q1 s).2.1) ((Hzq q1 s).2.2)) λ_ _ _ h=>(FV (kX (XC (L0 f) (.inl (l3 b))) n) h)) (Yq (Hzx j s q1) (Mp j s (Hzq q1 s).1) λ_ _ _ h=>h)<|ai (show q1.1+(Utf8.decode s q1.1).2<=s.size from by have q:=(XC (L0 f) (.inl (l3 b))).2;have r:=L0 f;omega) (show s.size-(q1.1+(Utf8.decode s q1.1).2)<s.size-q1.1 from by have q:=(XC (L0 f) (.inl (l3 b))).2;have r:=L0 f;omega)) λf=>ai (Qak (P:=prog) (w0:=W) (s:=s) (g:=j) (p:=q1.1) 0 (L1 f)) λ(v:Unit)=>X0 func70 Hzy<|Xi (decide ((YW (Qd s.data.toList a q1.1).2)>=0)) (λn=>X0 (SJ s ((Hzo s a q1).2) s.size n (λi e=>L6 (Sv (Bq e)) z) (L4 _) W) (show IntKind.i64.wrap (a+YW (Qd s.data.toList a q1.1).2)=a+YW (Qd s.data.toList a q1.1).2 from Le _ (hA (ew n)))<|ai (YJ W 63 102 1 1 G5 ((Hzo s a q1).1) ([(⟨(Hzs s a q1),a+YW (Hzo s a q1).2⟩:Tk)]) ((Hzo s a q1).1++[(⟨(Hzs s a q1),a+YW (Hzo s a q1).2⟩:Tk)]) q1.2.1 q1.2.2 ([Ψ (Hzs s a q1),Θ (a+YW (Hzo s a q1).2)]) Y9 Cj SO rfl (show((Qd s.data.toList a q1.1).1++[(⟨(sub s.data.toList (YW (Qd s.data.toList a q1.1).2).toNat s.size),a+YW (Qd s.data.toList a q1.1).2⟩:Tk)]).length*24<=140737488355328 from by rw[La];have:=At (l:=s.data.toList) (a:=a) q1.1;simp only[Ro];omega) rfl rfl) λ(d:Hp)=>(show ∃y:Hp,SV.val (Ω d.1 ((Qd s.data.toList a q1.1).1++[(⟨(sub s.data.toList (YW (Qd s.data.toList a q1.1).2).toNat s.size),a+YW (Qd s.data.toList a q1.1).2⟩:Tk)]).length d.2)=SV.val ((λy:Hp=>Ω y.1 (YI s.data.toList a).length y.2) y)/\∀(x:y9) (S:Nat->Prop) (w:m0),(Qc 102 2 G5 ((Qd s.data.toList a q1.1).1++[(⟨(sub s.data.toList (YW (Qd s.data.toList a q1.1).2).toNat s.size),a+YW (Qd s.data.toList a q1.1).2⟩:Tk)]) d.1 d.2).φ x S w->((λy:Hp=>Qc 102 2 G5 (YI s.data.toList a) y.1 y.2) y).φ x S w from⟨d,by rw[<- (iN (show q1.1=s.size from Ra z (Nat.not_lt.1 (L1 f))) n)],λx S w h=>by rw[<- (iN (show q1.1=s.size from Ra z (Nat.not_lt.1 (L1 f))) n)];exact h⟩)) λn=>(show ∃y:Hp,SV.val (Ω q1.2.1 ((Qd s.data.toList a q1.1).1).length q1.2.2)=SV.val ((λy:Hp=>Ω y.1 (YI s.data.toList a).length y.2) y)/\∀(x:y9) (S:Nat->Prop) (w:m0),(Qc 102 2 G5 ((Qd s.data.toList a q1.1).1) q1.2.1 q1.2.2).φ x S w->((λy:Hp=>Qc 102 2 G5 (YI s.data.toList a) y.1 y.2) y).φ x S w from⟨q1.2,by rw[<- (iM (show q1.1=s.size from Ra z (Nat.not_lt.1 (L1 f))) n)],λx S w h=>by rw[<- (iM (show q1.1=s.size from Ra z (Nat.not_lt.1 (L1 f))) n)];exact h⟩)) λW=>x5
theorem ay{l:List UInt8}(a:i<p)(b:p<=l.length):(sub l i p).size=p-i:=by
 show((l.take p).drop i).toArray.size=_
 grind
theorem aF(l:List UInt8)(a:Int):∀p,p<=l.length->∀t,t∈(Qd l a p).1->0<t.s.size/\t.s.size<=l.length
 |0,_,t,d=>nomatch d
 |p+1,h,t,d=>by
  have f:=aF l a p x3;have b:t∈(ZT l a p (Qd l a p)).1:=d;unfold ZT at b;cases e:ZP (l.getD p 0)with
  |true =>
   rw[e,cond_true]at b;unfold D3 at b;cases c:(Qd l a p).2 with
   |none=>rw[c]at b;exact f t b
   |some i =>
    grind[Bq,ay]
  |false =>
   rw[e,cond_false]at b;cases c:(Qd l a p).2 with
   |none=>rw[c]at b;exact f t b
   |some i=>rw[c]at b;exact f t b
theorem Rr{l:List UInt8}:(YI l a).length<=l.length+1/\∀t,t∈YI l a->0<t.s.size/\t.s.size<=l.length:=by
 have c:=At (l:=l) (a:=a) l.length;have b:=aF l a l.length (L4 _);unfold YI D3;cases d:(Qd l a l.length).2 with
 |none=>exact⟨by show(Qd l a l.length).1.length<=_;omega,b⟩
 |some i =>
  refine⟨?_,λt e=>?_⟩;all_goals grind[Bq,ay]
theorem EV:∀(s:List UInt8),(Qi s).length<=s.length+1/\∀l,l∈Qi s->l.length<=s.length
 |[]=>⟨L4 _,λl h=>by rw[Ly.1 h];exact L7 _⟩
 |c::r=>by
  let⟨a,b⟩:=EV r;unfold Qi;cases c==10 with
  |true =>
   grind
  |false =>
   show(match Qi r with | []=>[[c]] | l::m=>(c::l)::m).length<=_/\∀l,l∈(match Qi r with | []=>[[c]] | l::m=>(c::l)::m)->_;cases e:Qi r with
   |nil=>exact⟨x6,λl h=>by rw[Ly.1 h];simp⟩
   |cons x m =>
    grind
theorem Mz{n:Nat}:∀(ls:List (List UInt8)) (a:Int),(∀l,l∈ls->l.length<=n)->(Qo ls a).length<=ls.length/\∀x,x∈Qo ls a->(x.l.length<=n+1/\∀t,t∈x.l->0<t.s.size/\t.s.size<=n)/\x.l≠[]
 |[],_,_=>⟨L4 _,λ_ h=>nomatch h⟩
 |l::r,a,h=>by
  have c:=h l x6;let⟨d,i⟩:=Mz r (a+(l.length:Int)+1) λx b=>h x (by simp[b])
  unfold Qo;cases e:VE (YI l a)with
  |false=>exact⟨L6 d (Nat.le_succ _),i⟩
  |true =>
   refine⟨T3 d,λx b=>?_⟩;rcases Lb.1 b with rfl|b
   ·let⟨j,f⟩:=Rr (l:=l) (a:=a);refine⟨⟨L6 j (T3 c),λt g=>⟨(f t g).1,L6 (f t g).2 c⟩⟩,λk=>?_⟩;have m:YI l a=[]:=k;rw[m]at e;cases e
   grind
variable{s:List UInt8}
def PM(h:s.length<=3999):okF (J2 s):=by
 let⟨g,c⟩:=EV s;let⟨i,d⟩:=Mz (Qi s) 0 c;refine⟨⟨L7 _,λt a=>nomatch a⟩,by show(Qo (Qi s) 0).length<=4001;omega,λx e=>?_⟩;let⟨⟨j,b⟩,f⟩:=d x e;exact⟨⟨x3,λt a=>⟨(b t a).1,L6 (b t a).2 x3⟩⟩,f⟩
theorem Ni(c:UInt8)(r:List UInt8):Qi (c::r)=bif c==10 then[]::Qi r else match Qi r with | []=>[[c]] | l::m=>(c::l)::m:=rfl
def OZ:∀ {s:List UInt8} {i:Nat},(∀j:Nat,j<i->s[j]?≠some 10)->s[i]?=some 10->Qi s=s.take i::Qi (s.drop (i+1))
 |[],i,_,h=>by cases i<;>cases h
 |c::r,0,_,h=>by
  have e:c=10:=o7 h;subst e;rfl
 |c::r,i+1,a,h=>by
  have b:(c==10)=false:=Lp.2 λe=>a 0 (Sw _) (by rw[e];rfl)
  have d:=OZ (s:=r) (i:=i) (λj f=>a (j+1) (Uy f)) h;rw[Ni,b,d];rfl
theorem Nk:∀ {s:List UInt8},(∀j:Nat,s[j]?≠some 10)->Qi s=[s]
 |[],_=>rfl
 |c::r,h=>by
  have a:(c==10)=false:=Lp.2 λe=>h 0 (by rw[e];rfl)
  have b:=Nk (s:=r) λj=>h (j+1)
  grind[Ni]
def gd:∀(s:List UInt8) (c:UInt8),(Lib.indexByte s c=-1/\∀j:Nat,s[j]?≠some c)\/∃i:Nat,Lib.indexByte s c=(i:Int)/\(∀j,j<i->s[j]?≠some c)/\s[i]?=some c
 |[],_=>.inl ⟨rfl,λj h=>by cases j<;>cases h⟩
 |b::l,c=>by
  unfold Lib.indexByte;by_cases e:(b==c)=true
  ·rw[if_pos e];exact .inr ⟨0,rfl,λj f=>absurd f (R4 _),by rw[Tr e];rfl⟩
  ·rw[if_neg e];have g:b≠c:=λh=>e (by rw[h];exact beq_self_eq_true c)
   rcases gd l c with⟨a,d⟩|⟨i,a,d,k⟩
   ·rw[a];refine .inl ⟨rfl,λj h=>?_⟩;cases j with
    |zero=>exact g (o7 h)
    |succ j=>exact d j h
   ·rw[a,if_neg (by rw[Sk];omega)];refine .inr ⟨i+1,x3,λj f h=>?_,k⟩;cases j with
    |zero=>exact g (o7 h)
    |succ j=>exact d j x3 h
def IG(t:m1):Prop:=t.data.toList≠[]/\∀c,c∈t.data.toList->ZP c=false/\c≠10
def zj(l:List m1):List (List UInt8):=l.map (·.data.toList)
def Hw(l:List m1):List UInt8:=Lib.join (zj l) [32]
def PZ(t u:m1)(r:List m1):Hw (t::u::r)=t.data.toList++32::Hw (u::r):=by
 rfl
theorem ry{a t b:List UInt8}{d:List Tk}(i:s=a++(t++b))(f:Qd s z a.length=(d,none))(j:∀c,c∈t->ZP c=false):∀k,k<t.length->Qd s z (a.length+(k+1))=(d,some a.length):=by
 have e:∀k,k<t.length->ZP (s.getD (a.length+k) 0)=false:=λk h=>by
  grind
 intro k;induction k with
 |zero =>
  intro h;show ZT s z (a.length+0) (Qd s z (a.length+0))=_;unfold ZT;rw[e 0 h,T9,f];rfl
 |succ k g =>
  intro h;show ZT s z (a.length+(k+1)) (Qd s z (a.length+(k+1)))=_;unfold ZT;rw[e (k+1) h,g x3];rfl
theorem yS(a t b:List UInt8):sub (a++(t++b)) a.length (a.length+t.length)=⟨t.toArray⟩:=by
 unfold sub
 grind
theorem rx(s:List UInt8)(z:Int):∀(l:List m1) (a:List UInt8) (b:List Tk),s=a++Hw l->Qd s z a.length=(b,none)->(∀t,t∈l->IG t)->(YI s z).map (·.s)=b.map (·.s)++l
 |[],a,b,d,j,_=>by
  grind[Hw,zj,Lib.join_nil,YI,D3]
 |[t],a,b,d,j,h=>by
  have e:s=a++(t.data.toList++[]):=by rw[d];simp[Hw,zj,Lib.join_one]
  have f:=h t x6;have n:0<t.data.toList.length:=Ta.2 f.1;have g:=ry e j (λc k=>(f.2 c k).1) (t.data.toList.length-1) x3;rw[show a.length+(t.data.toList.length-1+1)=s.length by rw[e,Rq,La];omega]at g;unfold YI D3;rw[g];have i:=yS a t.data.toList [];rw[<- e,show a.length+t.data.toList.length=s.length by rw[e,Rq,La]]at i;simp[i]
 |t::u::r,a,b,d,j,h=>by
  rw[PZ]at d;have f:=h t x6;have n:0<t.data.toList.length:=Ta.2 f.1;have g:=ry d j (λc k=>(f.2 c k).1) (t.data.toList.length-1) x3;rw[show a.length+(t.data.toList.length-1+1)=a.length+t.data.toList.length by omega]at g;have i:=yS a t.data.toList (32::Hw (u::r));rw[<- d]at i;have o:Qd s z (a++t.data.toList++[32]).length=(b++[⟨t,z+(a.length:Int)⟩],none):=by
   rw[La,La];show ZT s z (a.length+t.data.toList.length) (Qd s z (a.length+t.data.toList.length))=_;have p:s.getD (a.length+t.data.toList.length) 0=32:=by
    rw[List.getD,d,<- Rl,<- La,sT (L4 _),Tp];rfl
   unfold ZT;rw[p,g];show D3 s z (a.length+t.data.toList.length) (b,some a.length)=_;show(b++[⟨sub s a.length (a.length+t.data.toList.length),z+(a.length:Int)⟩],none)=_;rw[show sub s a.length (a.length+t.data.toList.length)=t from i]
  have q:=rx s z (u::r) (a++t.data.toList++[32]) _ (by rw[d];simp) o λx m=>h x (by simp at m ⊢;exact .inr m)
  rw[q];simp
theorem iP{l:List m1}(h:∀t,t∈l->IG t)(z:Int):(YI (Hw l) z).map (·.s)=l:=by
 have:=rx (Hw l) z l [] [] rfl rfl h
 grind
def ZJ(l:List m1):List UInt8:=Hw l++[10]
def nI:∀ {l:List m1},(∀t,t∈l->IG t)->∀c,c∈Hw l->c≠10
 |[],_,c,a=>by simp[Hw,zj,Lib.join_nil]at a
 |[t],h,c,a=>(((h t x6).2 c (by simpa [Hw,zj,Lib.join_one]using a))).2
 |t::u::r,h,c,a=>by
  rw[PZ]at a;rcases Lo.1 a with b|b
  ·exact((h t x6).2 c b).2
  ·rcases Lb.1 b with rfl|b
   ·decide
   ·exact nI (l:=u::r) (λx d=>h x (by simp at d ⊢;exact .inr d)) c b
def O1:∀ {L:List (List m1)},(∀l,l∈L->∀t,t∈l->IG t)->Qi (L.flatMap ZJ)=L.map Hw++[[]]
 |[],_=>rfl
 |l::L,h=>by
  have e:(l::L).flatMap ZJ=Hw l++10::L.flatMap ZJ:=by simp[ZJ]
  rw[e,OY,O2 (nI (h l x6)),O1 λx a=>h x (by simp[a])];rfl
def xH(l:List m1):Prop:=(∀t,t∈l->IG t)/\∃t r,l=t::r/\bt t 0≠35
theorem um{l:List m1}(h:xH l)(z:Int):VE (YI (Hw l) z)=true:=by
 obtain⟨b,t,r,rfl,c⟩:=h;have a:=iP b z;cases e:YI (Hw (t::r)) z with
 |nil=>rw[e]at a;cases a
 |cons x y =>
  grind[VE,Qg]
def Wm:∀ {L:List (List m1)} (z:Int),(∀l,l∈L->xH l)->(Qo (L.map Hw++[[]]) z).map (λn=>n.l.map (·.s))=L
 |[],z,_=>rfl
 |l::L,z,h=>by
  show(Qo (Hw l::(L.map Hw++[[]])) z).map _=_;unfold Qo;rw[um (h l x6) z];show List.map (·.s) (YI (Hw l) z)::_=_;rw[iP (h l x6).1 z,Wm _ λx a=>h x (by simp[a])]
def Rds(f:FD)(c:List m1)(L:List (List m1)):Prop:=f.l.map (·.s)=c/\f.ls.map (λn=>n.l.map (·.s))=L
variable{L:List (List m1)}
def UX(h:∀l,l∈L->xH l):Rds (J2 (L.flatMap ZJ)) [] L:=by
 refine⟨rfl,?_⟩;show(Qo (Qi (L.flatMap ZJ)) 0).map _=L;rw[O1 λl a=>(h l a).1,Wm 0 h]
def Cn(p:Pz α)(c:List m1)(L:List (List m1))(a:α)(c2:List m1)(L2:List (List m1)):Prop:=∀f,Rds f c L->∃b,p f=.ok (a,b)/\Rds b c2 L2
section
variable{α β:Type}{c c2 c3:List m1}{L L2 L3:List (List m1)}{a:α}
theorem Zl{p:Pz α}{q:α->Pz β}{b:β}(h:Cn p c L a c2 L2)(g:Cn (q a) c2 L2 b c3 L3):Cn (bnd p q) c L b c3 L3:=λf i=>by
 let⟨j,e,d⟩:=h f i;let⟨l,m,k⟩:=g j d
 grind[QA]
theorem BH:Cn (rtn a) c L a c L:=λf b=>⟨f,rfl,b⟩
def ni(h:b=true):Cn (OJ b z) c L () c L:=λf a=>⟨f,by subst h;rfl,a⟩
def Qaf{q:Tk->Pz β}{b:β}{t:m1}(h:∀k:Tk,k.s=t->Cn (q k) c L b c3 L3):Cn (bnd X5 q) (t::c) L b c3 L3:=λf g=>by
 let⟨a,i⟩:=g;cases e:f.l with
 |nil=>rw[e]at a;cases a
 |cons k l =>
  rw[e]at a;injection a with j m
  let⟨n,o,d⟩:=h k j { f with l:=l } ⟨m,i⟩;exact⟨n,(QA (show X5 f=.ok (k,{ f with l:=l })by unfold X5;rw[e])).trans o,d⟩
end
theorem Vs{ws:List m1}{w:m1}{c:List m1}{i:Int}(g:Lib.idxOfS ws w=i)(o:0<=i)(p:w≠⟨#[]⟩):Cn (Qv ws) [] ((w::c)::L) i c L:=by
 refine Zl (a:=()) (c2:=[]) (L2:=(w::c)::L) (λf b=>⟨f,?_,b⟩) (Zl (a:=()) (c2:=w::c) (L2:=L) (λf b=>?_) (Qaf λk h=>?_))
 ·have e:f.l=[]:=List.map_eq_nil_iff.1 b.1
  grind[XF]
 ·let⟨_,d⟩:=b;cases e:f.ls with
  |nil=>rw[e]at d;cases d
  |cons n r =>
   rw[e]at d;injection d with j m
   exact⟨⟨r,n.l,n.e,f.en⟩,by unfold Hi;rw[e],j,m⟩
 ·subst h;subst g;refine Zl (a:=()) (ni ?_) BH
  grind
theorem TZ{a b:m1}:(a.toList==b.toList)=true↔a=b:=by
 rw[Sk,S5,S5];exact⟨λh=>ByteArray.ext (l3 h),λh=>by rw[h]⟩
theorem nmE_iff{x y:Nm}:CC x y=true↔x=y:=by
 let⟨a,s,e⟩:=x;let⟨b,t,f⟩:=y
 grind[CC,TZ]
theorem xa{x y:Tm}:eA x y=true↔x=y:=by
 let⟨m,c⟩:=x;let⟨n,d⟩:=y
 grind[eA,TZ,nmE_iff]
theorem wI{x y:Nm×Nm}:ep x y=true↔x=y:=by
 grind[ep,nmE_iff]
theorem AI(d:α){E:α->α->Bool}(b:∀x y,E x y=true↔x=y){l a:List α}:NG l.length a.length (λj=>E (l.getD j d) (a.getD j d))=true↔l=a:=by
 grind[NG,List.ext_getElem,ZG,Kf]
def xh{l a:List Tm}:tsE l a=true↔l=a:=AI Bp λ_ _=>xa
def wa{l a:List Nm}:ky l a=true↔l=a:=AI nm0 λ_ _=>nmE_iff
theorem sX{l a:List (Nm×Nm)}:lm l a=true↔l=a:=AI (nm0,nm0) λ_ _=>wI
def ig{x y:Py}:TA x y=true↔x=y:=by
 let⟨v,t⟩:=x;let⟨u,s⟩:=y;simp[TA,xh]
def uN{x y:Nd}:bc x y=true↔x=y:=by
 let⟨v,t,p⟩:=x;let⟨u,s,q⟩:=y;simp[bc,nmE_iff,ig,and_assoc]
theorem vY{l a:List Py}:vX l a=true↔l=a:=AI NU λ_ _=>ig
theorem pH{l a:List (List Nm)}:NT l a=true↔l=a:=AI ([]) λ_ _=>wa
variable{a:List Nd}
theorem oK{l:List Nd}:kk l a=true↔l=a:=AI Eh λ_ _=>uN
theorem sameB_iff{x y:PV}:ZS x y=true↔x=y:=by
 let⟨c,d,e,f,g,h,i,j,k,a⟩:=x;let⟨b1,b2,b3,l,m,n,o,p,q,b⟩:=y
 grind[ZS,nmE_iff,sX,pH,vY,oK]
theorem qi(x y:PV):ZS x y=decide (x=y):=by
 by_cases h:x=y;all_goals grind[sameB_iff]
theorem zb{l:List UInt8}(h:l≠[])(a:∀c,c∈l->45<=c.toNat):IG ⟨l.toArray⟩:=by
 refine⟨l3 h,λc b=>?_⟩;have f:=a c (l3 b);have key:∀d:UInt8,d.toNat<45->c≠d:=λd g e=>by subst e;omega
 simp_all[ZP]
theorem Ik(z:Int):itoa z≠[]/\∀c,c∈itoa z->45<=c.toNat:=by
 have key:∀v c,c∈decDigits v->45<=c.toNat:=λv c a=>by
  have:=isDig_iff.1 (D1 v c a);omega
 unfold itoa;split
 ·refine⟨List.cons_ne_nil _ _,λc a=>?_⟩;rcases Lb.1 a with rfl|a
  all_goals grind
 ·exact⟨bM _,key _⟩
theorem ja(z:Int):IG (Qz z):=zb (Ik z).1 (Ik z).2
theorem gJ(x:Dyadic):IG (Dg x):=by
 unfold Dg yt;split
 ·exact ja _
 ·refine zb (λe=>absurd (Uk.1 e).2 (List.cons_ne_nil _ _)) λc a=>?_
  rcases Lo.1 a with h|h
  ·exact(Ik _).2 c h
  ·rcases Lb.1 h with rfl|h
   all_goals grind[Ik]
theorem yg{x:Nm}(h:Ks x=true):km (nv x)=x:=nmE_iff.1 (show CC (km (nv x)) x=true from h)
theorem Qc6{x:Nm}(h:Ks x=true):de (nv x)=x.e:=by
 grind[Ks]
section
variable{c:List m1}{L:List (List m1)}
theorem Ml{x:Nm}(h:Ks x=true)(b:-32768<=x.e/\x.e<=32768):Cn XV (Dg (nv x)::c) L x c L:=Qaf λk d=>by
 have e:Zz k.s.data.toList=(nv x,0,0):=by
  rw[d];exact uB (nv x) (by rw[Qc6 h];exact b)
 rw[e];refine Zl (a:=()) (ni rfl) ?_
 grind[yg,BH]
def fX{l:List Nm}:∀ {r:List Nm},(∀x,x∈l->Ks x=true/\-32768<=x.e/\x.e<=32768)->Cn (XW l.length r) (l.map (λx=>Dg (nv x))++c) L (r++l) c L:=by
 induction l with
 |nil=>intro r _;rw[Rq];exact BH
 |cons x l d =>
  intro r h;have a:=h x x6;have b:=d (r:=r++[x]) λy f=>h y (by simp[f])
  rw[Rl]at b;exact Zl (Ml a.1 a.2) b
def tu(v:Nat):(decDigits v).foldl (λ(n:Int) c=>n*10+((c.toNat:Int)-48)) 0=(v:Int):=by
 have h:∀l:List UInt8,(∀c,c∈l->DH c=true)->∀n:Nat,l.foldl (λ(n:Int) c=>n*10+((c.toNat:Int)-48)) (n:Int)=((l.foldl (λv c=>10*v+(c.toNat-48)) n:Nat):Int):=by
  intro l;induction l with
  |nil=>intro _ n;rfl
  |cons c l a =>
   intro h n;have f:=isDig_iff.1 (h c x6);rw[V1,V1,<- a (λd b=>h d (by simp[b]))];congr 1;omega
 have e:=h (decDigits v) (D1 v) 0;rw[show(0:Int)=((0:Nat):Int)from rfl,e];exact Lu Int.ofNat (I7 v)
theorem Qcj(h:0<=z)(i:z<=999999999):IW (Qz z)=true/\Xs (Qz z)=z:=by
 have e:(Qz z).data.toList=decDigits z.toNat:=by
  grind[Nz,itoa]
 have d:(Qz z).size=nDigits z.toNat:=by
  rw[<- Ji,<- e];rfl
 refine⟨?_,?_⟩
 ·unfold IW;rw[e,d,Lx,Lx];refine⟨⟨Lg.2 λc f=>?_,Lk (by have:=Jy (v:=z.toNat) (k:=9) x3 x4;omega)⟩,?_⟩
  ·have:=isDig_iff.1 (D1 _ c f);simp;omega
  ·by_cases a:z.toNat=0
   ·rw[a,<- Ji,KB x4];exact Bool.or_true _
   ·have b:=IZ _ a;rw[<- e]at b;rw[Ui];left;rw[bne_iff_ne];intro j;apply b;have g:((Qz z).data.toList.getD 0 0).toNat=48:=by
     grind[bt]
    exact UInt8.toNat_inj.1 g
 ·unfold Xs;rw[e,tu];omega
def cI{b:Int}(d:0<=z)(e:z<=999999999)(f:z<=b):Cn (QQ b) (Qz z::c) L z c L:=Qaf λk g=>by
 let⟨h,i⟩:=Qcj d e;rw[g,i];exact Zl (a:=()) (ni h) (Zl (a:=()) (ni (Lk f)) BH)
theorem ua{l:List UInt8}:∀ {r:List UInt8},(∀b,b∈l->b.toNat<=127)->Cn (Jt 127 l.length r) (l.map (λb=>Qz (b.toNat:Int))++c) L (r++l) c L:=by
 induction l with
 |nil=>intro r _;rw[Rq];exact BH
 |cons b l a =>
  intro r h;have f:=h b x6;have d:=a (r:=r++[b]) λy e=>h y (by simp[e])
  rw[Rl]at d;refine Zl (cI (z:=(b.toNat:Int)) x3 x3 x3) ?_
  simp_all
end
theorem My:∀ {a b c:List UInt8},Op.bytesLess a b=true->Op.bytesLess b c=true->Op.bytesLess a c=true
 |a,b,[],_,h=>by cases b<;>exact nomatch h
 |a,[],_::_,h,_=>by cases a<;>exact nomatch h
 |[],_::_,_::_,_,_=>rfl
 |x::a,y::b,z::c,e,d=>by
  simp only[Op.bytesLess,Ui,Lx,decide_eq_true_eq,Sk]at e d ⊢;rcases e with e|⟨rfl,e⟩
  ·rcases d with d|⟨rfl,d⟩
   all_goals grind
  ·rcases d with d|⟨rfl,d⟩
   ·exact .inl d
   ·exact .inr ⟨rfl,My e d⟩
def upL(l:List Tm):Prop:=l.Pairwise λx y=>By x.m y.m=true
def ou:∀(n:Nat) {a b:List Tm},(∀x,x∈a->∀y,y∈b->By x.m y.m=true)->VS n a b=a++b
 |0,a,b,_=>by cases a<;>rfl
 |n+1,[],b,_=>by cases b<;>rfl
 |n+1,x::a,[],_=>(Rq _).symm
 |n+1,x::a,y::b,h=>by
  unfold VS;rw[h x x6 y x6,cond_true,ou n λc d e f=>h c (by simp[d]) e f];rfl
def SD:∀(f:Nat) {l:List Tm},upL l->Zo f l=l
 |0,_,_=>rfl
 |f+1,l,h=>by
  unfold Zo;split
  ·rfl
  ·have e:l.take (l.length / 2)++l.drop (l.length / 2)=l:=Uq _ _;have a:=h;unfold upL at a;rw[<- e,List.pairwise_append]at a;rw[SD f a.1,SD f a.2.1,ou _ a.2.2,e]
structure PyG (v:Nat) (p:Py):Prop where
 e:p.vars=(v:Int)
 n:v<=12
 l:p.ts.length<=4096
 m:∀t,t∈p.ts->ZN t.m (v:Int)=true
 z:∀t,t∈p.ts->(sg t.c==0)=false
 f:∀t,t∈p.ts->Ks t.c=true
 u:upL p.ts
variable{p:Py}
theorem QcS(h:K9 p=0)(l:p.vars=(v:Int)):PyG v p:=by
 unfold K9 at h;split at h
 ·rename_i s;split at h
  ·cases h
  ·rename_i u;split at h
   ·cases h
   ·rename_i n;have o:∀k,k<p.ts.length->CI p.vars p.ts k=false:=λk q=>by
     cases e:CI p.vars p.ts k with
     |false=>rfl
     |true=>exact absurd (anyB_iff.2 ⟨k,q,e⟩) n
    have f:∀t,t∈p.ts->(ZN t.m p.vars=true/\(sg t.c==0)=false)/\Ks t.c=true:=λt a=>by
     grind[Th,CI,Qb]
    have r:∀j i,i<j->j<p.ts.length->By (Qb p.ts i).m (Qb p.ts j).m=true:=by
     intro j;induction j with
     |zero=>intro i b;exact absurd b (R4 _)
     |succ j w =>
      intro i b d;have x:=(Rf.1 (show(_||_)=false from o (j+1) d)).2
      grind[By,My]
    refine⟨l,x3,x3,λt a=>l▸(f t a).1.1,λt a=>(f t a).1.2,λt a=>(f t a).2,?_⟩;unfold upL;rw[List.pairwise_iff_getElem];intro i j b d g;have:=r j i g d;rwa [show Qb p.ts i=p.ts[i]from Yi b,show Qb p.ts j=p.ts[j]from Yi d]at this
 ·cases h
theorem QaA(h:PyG v p):Xe (v:Int) p.ts=(p,0):=by
 have d:(p.ts.any λt=>!ZN t.m (v:Int))=false:=by
  rw[List.any_eq_false];intro t c;rw[h.m t c];decide
 have i:Xj p.ts=p.ts:=by
  unfold Xj;rw[SD _ h.u,List.filter_eq_self];intro t c;rw[h.z t c];rfl
 have j:p.ts.map X4=p.ts:=by
  rw[List.map_congr_left (g:=id) λt c=>by
   unfold X4;rw[yg (h.f t c)];rfl,List.map_id]
 have k:=h.l;have o:=h.n;unfold Xe;rw[d,i,j,Lk x3,Lk x3,Lc x3,Lc x3];let⟨a,b⟩:=p;rw[show((v:Int))=a from h.e.symm];rfl
def eC(t:Tm):List m1:=Dg (nv t.c)::t.m.data.toList.map λb=>Qz (b.toNat:Int)
def EM(p:Py):List m1:=p.ts.flatMap eC
theorem om{m:m1}(h:ZN m (v:Int)=true):m.data.toList.length=v/\∀b,b∈m.data.toList->b.toNat<=127:=by
 unfold ZN at h;cases e:XQ m.size (λj=>decide ((bt m j:Int)>127))with
 |true=>rw[e]at h;cases h
 |false =>
  rw[e]at h;have d:=Tr (show((m.size:Int)==(v:Int))=true from h);have f:m.data.toList.length=m.size:=rfl;refine⟨x3,λb a=>?_⟩;obtain⟨k,g,rfl⟩:=Th a;have i:decide ((bt m k:Int)>127)=false:=by
   cases c:decide ((bt m k:Int)>127)with
   |false=>rfl
   |true=>rw[anyB_iff.2 ⟨k,x3,c⟩]at e;cases e
  grind[bt]
theorem nm{v:Nat}{L:List (List m1)}:∀ {l:List Tm} {f:Nat} {r:List Tm},l.length<f->(∀t,t∈l->ZN t.m (v:Int)=true/\Ks t.c=true/\-32768<=t.c.e/\t.c.e<=32768)->Cn (JY v f r) (l.flatMap eC) L (r++l) [] L
 |[],f+1,r,_,_=>λs b=>by
  have e:s.l=[]:=List.map_eq_nil_iff.1 b.1
  grind[JY]
 |t::l,f+1,r,j,h=>λs b=>by
  let⟨k,n,o⟩:=h t x6;let⟨p,q⟩:=om k;have e:decide ((s.l.length:Int)>0)=true:=by
   have:=Lu List.length b.1;rw[Rg]at this;rw[this];simp[eC];omega
  have g:=nm (v:=v) (L:=L) (l:=l) (f:=f) (r:=r++[t]) (l3 j) λx u=>h x (by simp[u])
  rw[Rl]at g;have i:=ua (c:=l.flatMap eC) (L:=L) (l:=t.m.data.toList) (r:=[]) q;rw[p]at i;have w:Cn (bnd XV λa=>bnd (Jt 127 v []) λm=>JY v f (r++[⟨⟨m.toArray⟩,a⟩])) ((t::l).flatMap eC) L (r++t::l) [] L:=by
   refine Zl (Ml n o) (Zl i ?_);rw[show(⟨⟨(([]:List UInt8)++t.m.data.toList).toArray⟩,t.c⟩:Tm)=t by simp];exact g
  let⟨y,z,d⟩:=w s b;refine⟨y,?_,d⟩;unfold JY;rw[e];exact z
theorem PW(h:PyG v p)(b:∀t,t∈p.ts-> -32768<=t.c.e/\t.c.e<=32768):Cn (QC (v:Int)) (EM p) L (p,false) [] L:=by
 have d:=nm (v:=v) (L:=L) (l:=p.ts) (f:=70000) (r:=[]) (hA h.l) λt a=>⟨h.m t a,h.f t a,b t a⟩
 refine Zl d ?_
 grind[QaA,BH]
def dG(x:Nm):Prop:=Ks x=true/\-32768<=x.e/\x.e<=32768
def Yc(x:Nm):m1:=Dg (nv x)
def lk(v:Nat)(p:Py):Prop:=PyG v p/\∀t,t∈p.ts-> -32768<=t.c.e/\t.c.e<=32768
def BE(bx:List (Nm×Nm))(κ:List (List Nm)):List m1:=(bif bx.length==0 then Q6 else Jh)::(bx.flatMap (λs=>[Yc s.1,Yc s.2])++κ.flatMap λp=>p.map Yc)
def OL(n:Nd):List m1:=bif n.split==0 then Zq::Yc n.ο::EM n.sum else[Xo]
def Gy(δ:Int)(ν ε:Nm)(ζ:Int):List (List m1):=bif δ==6 then[]else[Zh,Yc ν]::((bif δ==4 then[[Xh,Yc ε]]else[])++[[Qy,Qz ζ]])
def Dt(x:PV):List (List m1):=[wKinds.getD x.δ.toNat ⟨#[]⟩,Qz x.vars]::BE x.box x.κ::(x.ps.map (λp=>ZC::EM p)++(x.θ.map (λp=>Xu::EM p)++(x.ι.map OL++Gy x.δ x.ν x.ε x.ζ)))
variable{δ:Int}{ν ε:Nm}
section
variable{L:List (List m1)}
def nh{c:List m1}:∀ {l r:List (Nm×Nm)},(∀s,s∈l->dG s.1/\dG s.2)->Cn (BC l.length r) (l.flatMap (λs=>[Yc s.1,Yc s.2])++c) L (r++l) c L
 |[],r,_=>by rw[Rq];exact BH
 |s::l,r,h=>by
  let⟨d,e⟩:=h s x6;have b:=nh (c:=c) (l:=l) (r:=r++[s]) λx a=>h x (by simp[a])
  rw[Rl]at b;have f:=fX (c:=l.flatMap (λs=>[Yc s.1,Yc s.2])++c) (L:=L) (l:=[s.1,s.2]) (r:=[]) λx a=>by
   rcases Lb.1 a with rfl|a
   ·exact d
   ·rw[Ly.1 a];exact e
  exact Zl f b
def nk{n:Nat}{c:List m1}:∀ {l r:List (List Nm)},(∀p,p∈l->p.length=n/\∀x,x∈p->dG x)->Cn (G3 n l.length r) (l.flatMap (λp=>p.map Yc)++c) L (r++l) c L
 |[],r,_=>by rw[Rq];exact BH
 |p::l,r,h=>by
  let⟨d,e⟩:=h p x6;have a:=nk (c:=c) (l:=l) (r:=r++[p]) λx f=>h x (by simp[f])
  rw[Rl]at a;have b:=fX (c:=l.flatMap (λp=>p.map Yc)++c) (L:=L) (l:=p) (r:=[]) e;rw[d]at b;rw[Sn,Rl];exact Zl b a
def DmG(δ:Int)(v:Nat)(bx:List (Nm×Nm))(κ:List (List Nm)):Prop:=1<=v/\((bx.length=v/\κ=[]/\∀s,s∈bx->dG s.1/\dG s.2)\/(bx=[]/\κ.length=v+1/\((δ==2)||(δ==5))=false/\∀p,p∈κ->p.length=v/\∀x,x∈p->dG x))
theorem Qae{bx:List (Nm×Nm)}{κ:List (List Nm)}(h:DmG δ v bx κ):Cn (Ko δ (v:Int)) [] (BE bx κ::L) (bx,κ) [] L:=by
 obtain⟨g,⟨d,rfl,b⟩|⟨rfl,d,b,e⟩⟩:=h
 ·refine Zl (a:=(0:Int)) (c2:=bx.flatMap (λs=>[Yc s.1,Yc s.2])++[]) (L2:=L) ?_ ?_
  ·unfold BE;rw[show(bx.length==0)=false from Lp.2 x3];refine Vs ?_ (Sd _) x4;unfold GO;cases (δ==2)||(δ==5)<;>decide
  ·have e:=nh (c:=[]) (L:=L) (l:=bx) (r:=[]) b
   grind[Zl,BH]
 ·refine Zl (a:=(1:Int)) (c2:=κ.flatMap (λp=>p.map Yc)++[]) (L2:=L) ?_ ?_
  ·unfold BE GO;rw[b,Rq];exact Vs x4 x4 x4
  ·have f:=nk (c:=[]) (L:=L) (l:=κ) (r:=[]) e;rw[d]at f;exact Zl f BH
theorem fY{v:Nat}{m:Bool}:∀ {l r:List Py},(∀p,p∈l->lk v p)->Cn (KX (v:Int) l.length r m) [] (l.map (λp=>ZC::EM p)++L) (r++l,m) [] L
 |[],r,_=>by rw[Rq];exact BH
 |p::l,r,h=>by
  let⟨a,b⟩:=h p x6;have c:=fY (m:=m) (l:=l) (r:=r++[p]) λx d=>h x (by simp[d])
  rw[Rl]at c;refine Zl (Vs x4 (Sd _) x4) (Zl (PW a b) ?_);simp_all
theorem xU{s:FD}{w u:m1}{c0 c:List m1}(h:Rds s c0 ((w::c)::L)):BP u s=decide (w=u):=by
 have a:=h.2;unfold BP;cases e:s.ls with
 |nil=>rw[e]at a;cases a
 |cons n r =>
  rw[e]at a;injection a with b _
  have b:n.l.map (·.s)=w::c:=b;cases d:n.l with
  |nil=>rw[d]at b;cases b
  |cons k l =>
   grind[Qg,Xv]
theorem nl{v:Nat}{w:m1}{c:List m1}{L:List (List m1)}(d:w≠Xu):∀ {l r:List Py} {f:Nat},l.length<f->(∀p,p∈l->lk v p)->Cn (ZA 4 (v:Int) f r false) [] (l.map (λp=>Xu::EM p)++(w::c)::L) (r++l,false) [] ((w::c)::L)
 |[],r,f+1,_,_=>λs a=>by
  refine⟨s,?_,a⟩;show(bif BP Xu s then _ else rtn (r,false) s)=_;rw[xU a,Lc d,Rq];rfl
 |p::l,r,f+1,j,h=>λs a=>by
  let⟨k,m⟩:=h p x6;have g:=nl (L:=L) (c:=c) d (l:=l) (r:=r++[p]) (f:=f) (l3 j) λx n=>h x (by simp[n])
  rw[Rl]at g;let⟨o,e,b⟩:=Zl (q:=λ_=>bnd (QC (v:Int)) λp=>ZA 4 (v:Int) f (r++[p.1]) (false||p.2)) (Vs (ws:=[Xu]) (w:=Xu) (i:=0) x4 (Sd _) x4) (Zl (q:=λp=>ZA 4 (v:Int) f (r++[p.1]) (false||p.2)) (PW k m) g) s a;refine⟨o,?_,b⟩;show(bif BP Xu s then _ else rtn (r,false) s)=_
  grind[xU]
def Qag{ζ:Int}(i:(δ==6)=false)(f:dG ν)(g:dG ε)(j:(δ==4)=false->ε=nm0)(c:0<=ζ/\ζ<=999999999):Cn (K8 δ) [] (Gy δ ν ε ζ++L) (ν,ε,ζ) [] L:=by
 unfold Gy;rw[i];refine Zl (Vs x4 (Sd _) x4) (Zl (Ml f.1 f.2) ?_);have h:∀d:Nm,Cn (bnd (Qv [Qy]) λ_=>bnd (QQ 999999999) λb=>rtn (ν,d,b)) [] ([[Qy,Qz ζ]]++L) (ν,d,ζ) [] L:=λd=>Zl (Vs x4 (Sd _) x4) (Zl (cI c.1 c.2 c.2) BH)
 cases e:δ==4 with
 |true =>
  have k:Cn (bnd (Qv [Xh]) λ_=>XV) [] ([Xh,Yc ε]::([[Qy,Qz ζ]]++L)) ε [] ([[Qy,Qz ζ]]++L):=Zl (Vs x4 (Sd _) x4) (Ml g.1 g.2);exact Zl k (h ε)
 |false =>
  rw[j e];exact Zl (a:=nm0) BH (h nm0)
theorem nj{v:Nat}{a:List Nd}(g:∀k,k<a.length->0<(YM a k).length)(p:(YM a a.length).length=0)(h:∀n,n∈a->((n.split==0)=false->n=⟨1,nm0,NU⟩)/\((n.split==0)=true->n.split=0/\dG n.ο/\lk v n.sum)):∀(j k f:Nat),k+j=a.length->j<f->Cn (XJ (v:Int) f ((YM a k).length:Int) (a.take k) false) [] ((a.drop k).map OL++L) (a,false) [] L
 |0,k,f+1,q,_=>by
  grind[XJ,BH]
 |j+1,k,f+1,q,y=>by
  have b:k<a.length:=x3;have z:=g k b;have c:=nj (v:=v) g p h j (k+1) f x3 x3;have l:a.take (k+1)=a.take k++[a[k]]:=by rw[List.take_add_one,p6 b];rfl
  have r:a.drop k=a[k]::a.drop (k+1):=Tb b;have m:Qn a k=a[k]:=Yi b;let⟨s,t⟩:=h a[k] (List.getElem_mem b);rw[r,Tf,List.cons_append];unfold XJ OL;rw[Lk x3,cond_true];cases e:a[k].split==0 with
  |false =>
   have d:((YM a (k+1)).length:Int)=((YM a k).length:Int)+1:=by
    rw[iB (by rw[m];exact e),La,Ll];simp;omega
   rw[l,d,s e]at c;exact Zl (Vs x4 (Sd _) x4) c
  |true =>
   let⟨u,o,w,x⟩:=t e;have d:((YM a (k+1)).length:Int)=((YM a k).length:Int)-1:=by
    rw[iC (by rw[m];exact e),Ll];omega
   rw[l,d,show a[k]=⟨0,a[k].ο,a[k].sum⟩by rw[<- u]]at c;exact Zl (Vs (i:=1) x4 x4 x4) (Zl (Ml o.1 o.2) (Zl (PW w x) c))
def fW:Cn Ew [] [] () [] []:=Zl (a:=()) (c2:=[]) (L2:=[]) (λf b=>⟨f,by
 have e:f.l=[]:=List.map_eq_nil_iff.1 b.1;unfold XF;rw[e],b⟩) λf b=>⟨f,by
 have e:f.ls=[]:=List.map_eq_nil_iff.1 b.2;rw[e],b⟩
end
def JP(x:PV):Bool:=Cq x.vars x.θ.length x.ι.length x.ζ&&((Qk x.ν x.ε x.box x.κ x.ι).all (λx=>!J1 x)&&(KK x).all ZQ)
structure okX (x:PV):Prop where
 o:okO x.δ x.vars x.ν x.ε x.box x.κ x.ps x.θ x.ι
theorem VH{bx:List (Nm×Nm)}{s:Nm×Nm}(h:s∈bx):s.1∈Qk ν ε bx κ a/\s.2∈Qk ν ε bx κ a:=by
 grind[Qk]
def ze{x:PV}(h:okX x)(p:Py)(a:p∈KK x):okP p:=by
 unfold KK at a;simp only[Lo,Lv]at a;rcases a with(a|a)|⟨n,a,b⟩
 ·exact h.o.okp _ a
 ·exact h.o.okr _ a
 ·rw[<- b];exact h.o.okc _ a
theorem tf{t:Int}(x:PV){z u A B C:y9}(h:okX x)(w:m0)(D:QV w)(F:Five v w x z u A B C)(E:∀W,Below w.heap.size w W->Bh x=true->JP x=true->x.box.length=0->RetAt prog W 27 #[u] (.int .i64 t)):RetAt prog w 10 #[yA x z u A B C] (.int .i64 (Hs (Bh x) (JP x) x.box.length t (V8 x.box))):=by
 let⟨d⟩:=h;obtain⟨N,As,G,H,O,I,cs,J,K,L,P,Up,e,l,Q,up,f,m,rfl,rfl,rfl,rfl,rfl,a⟩:=Fo F;have g:=TG (x:=x) (Up:=Up) (Ur:=e) (Uc:=l) (up:=up) (ur:=f) (uc:=m);have j:∀y,y∈YL (BJ x.ps Up up) (BJ x.θ e f) x.ι l m->okP y.1:=λy n=>ze ⟨d⟩ _ (by rw[MU]at n;rw[<- g];exact Lv.2 ⟨y,n,rfl⟩)
 have M:Ve x.vars (BJ x.θ e f).length x.ι.length x.ζ (Qk x.ν x.ε x.box x.κ x.ι) (YL (BJ x.ps Up up) (BJ x.θ e f) x.ι l m)=JP x:=by
  grind[Ve,JP,MU,JM]
 refine tg (Bh x) (JP x) t x (L6 d.l0.hb x4) (λs k=>⟨d.nums _ (VH k).1,d.nums _ (VH k).2⟩) w D a.b ?_ ?_ ?_
 ·intro W p;have a:=a.below p;exact vk d W (Ql D p) a.b a.s a.sp a.c a.cn a.q a.qs a.r a.rs
 ·intro W p _;have a:=a.below p;have R:=sj v I cs L l m x.ν x.ε x.δ x.vars x.ζ G H J K (BJ x.ps Up up) (BJ x.θ e f) ⟨d.l0,by rw[JM];exact d.np,by rw[JM];exact d.nr,j⟩ W a.b a.s a.sp a.c a.q1 a.r1 (λy n=>a.X y (by rw[<- MU];exact n))
  grind[JM]
 grind
noncomputable def chkN(x:PV):Int:=Hs (Bh x) (JP x) x.box.length (eE x.κ x.vars.toNat) (V8 x.box)
theorem It{bx:List (Nm×Nm)}{p:List Nm}{x:Nm}(h:p∈κ)(b:x∈p):x∈Qk ν ε bx κ a:=by
 grind[Qk]
theorem dO{x:PV}(h:Bh x=true)(g:x.box.length=0):∃N:Nat,x.vars=(N:Int)/\1<=N/\x.κ.length=N+1/\∀j,j<N+1->(Qu x.κ j).length=N:=by
 unfold Bh at h;have b:=(L5.1 h).1;unfold K6 at b;have a:GR x.box.length x.κ x.vars (nX x.δ)=true:=by
  cases e:GR x.box.length x.κ x.vars (nX x.δ)with
  |true=>rfl
  |false =>
   grind
 have l:1<=x.vars:=by
  cases e:QY x.δ x.vars==0 with
  |true=>rw[e]at b;exact absurd b x6
  |false =>
   unfold QY at e;by_cases i:x.δ<1\/7<=x.δ\/x.vars<1
   ·rw[if_pos i]at e;cases e
   ·omega
 unfold GR at a;rw[g]at a;cases e:nX x.δ with
 |true =>
  rw[e]at a;simp at a;omega
 |false =>
  rw[e]at a;simp only[Bool.or_false,show decide ((((0:Nat):Nat):Int)>0)=false from rfl,cond_false,Lx,Sk,U2]at a;refine⟨x.vars.toNat,x3,x3,x3,λj m=>?_⟩;have c:Xb x.vars (Qu x.κ j)=false:=by
   cases k:Xb x.vars (Qu x.κ j)with
   |false=>rfl
   |true =>
    have d:=(anyB_iff (f:=λj=>Xb x.vars (Qu x.κ j))).2 ⟨j,(by omega:j<x.κ.length),k⟩;rw[a.2]at d;cases d
  unfold Xb at c;simp at c;omega
def lj{x:PV}(h:JP x=true):x.vars<=4:=by
 unfold JP at h;have a:=(L5.1 h).1;unfold Cq at a;cases e:decide (x.vars>4)with
 |true=>simp only[e]at a;cases a
 |false=>have:=L1 e;omega
def eT{x:PV}(h:JP x=true){q:Nm}(b:q∈Qk x.ν x.ε x.box x.κ x.ι):okS q:=by
 unfold JP at h;have c:=Lg.1 (L5.1 (L5.1 h).2).1 q b;have a:J1 q=false:=l3 c;unfold J1 at a;simp only[Rf,decide_eq_false_iff_not]at a;exact⟨x3,x3,x3⟩
theorem Ea{a:Nat}(x:PV){d e f g i:y9}(h:okX x)(w:m0)(j:QV w)(k:Five a w x d e f g i):RetAt prog w 10 #[yA x d e f g i] (.int .i64 (chkN x)):=by
 refine tf (t:=eE x.κ x.vars.toNat) x h w j k λW l n m o=>?_
 let⟨N,v,b,c,hpl⟩:=dO n o;have y:=lj m;have z:=qZ (lo:=a) c hpl (λp r q u=>eT m (It r u)) b x3 W (Ql j l) (k.s.below (pG a) l)
 grind
def gI(x:Nm):Prop:=Ks x=true/\x.s.size<=8/\-64<=x.e/\x.e<=64
structure PbG (x:PV) (v V:Nat):Prop where
 q:x.vars=(v:Int)
 v4:1<=v/\v<=4
 k:1<=x.δ/\x.δ<=6
 n:(x.ps.length:Int)=QY x.δ x.vars
 d:DmG x.δ v x.box x.κ
 p:∀p,p∈x.ps->lk v p
 r:∀p,p∈x.θ->lk v p
 rn:x.θ.length<=4
 r4:(x.δ==4)=false->x.θ=[]
 e:dG x.ν
 dl:dG x.ε
 d4:(x.δ==4)=false->x.ε=nm0
 nv:MK x.box x.κ=(V:Int)
 cn:x.ι.length<=64
 c:(x.δ==6)=true->x.ν=nm0/\x.ζ=0/\(∀k,k<x.ι.length->0<(YM x.ι k).length)/\(YM x.ι x.ι.length).length=0/\∀n,n∈x.ι->((n.split==0)=false->n=⟨1,nm0,NU⟩)/\((n.split==0)=true->n.split=0/\dG n.ο/\lk V n.sum)
 c6:(x.δ==6)=false->x.ι=[]
 b:0<=x.ζ/\x.ζ<=512
 a:∀y,y∈Qk x.ν x.ε x.box x.κ x.ι->gI y
 g:∀p,p∈KK x->ZQ p=true
theorem Jq{c:Bool}(h:(bif b then false else c)=true):b=false/\c=true:=by
 grind
def zl{x:PV}(h:chkN x=0):Bh x=true/\JP x=true:=by
 unfold chkN Hs at h;cases e:Bh x with
 |false=>rw[e]at h;cases h
 |true =>
  cases a:JP x with
  |false=>rw[e,a]at h;cases h
  |true=>exact⟨rfl,rfl⟩
theorem yc{a:Nm}(h:J1 a=false):a.s.size<=8/\-64<=a.e/\a.e<=64:=by
 grind[J1]
theorem bq{n:Nat}{f:Nat->Bool}(h:XQ n f=false)(k:Nat)(a:k<n):f k=false:=by
 cases e:f k with
 |false=>rfl
 |true=>rw[anyB_iff.2 ⟨k,a,e⟩]at h;cases h
theorem TH{l:List α}{d:α}(f:α->Bool)(h:XQ l.length (λj=>f (l.getD j d))=false)(a:α)(b:a∈l):f a=false:=by
 grind[Th,bq]
def oy{x:Nm}(h:lr x=true):x=nm0:=nmE_iff.1 (show CC x nm0=true from h)
theorem Fs(h:ZQ p=true):p.ts.length<=40/\∀t,t∈p.ts->(t.c.s.size<=8/\-64<=t.c.e/\t.c.e<=64)/\∀b,b∈t.m.data.toList->b.toNat<=6:=by
 unfold ZQ at h;let⟨a,d⟩:=Jq h;have a:=L1 a;rw[U2]at d;refine⟨x3,λt g=>?_⟩;have j:=TH (λt:Tm=>J1 t.c||XQ t.m.size λi=>decide (((bt t.m i:Nat):Int)>6)) d t g;let⟨l,n⟩:=Rf.1 j;refine⟨yc l,λb o=>?_⟩;obtain⟨k,q,rfl⟩:=Th o;have r:=L1 (bq n k q)
 grind[bt]
theorem SZ(h:Yo (v:Int) p=false)(c:ZQ p=true):lk v p:=by
 unfold Yo at h;let⟨a,b⟩:=Rf.1 h;rw[bne_eq_false_iff_eq]at a b;refine⟨QcS a b,λt d=>?_⟩
 grind[Fs]
theorem Pu{x:PV}(h:chkN x=0):∃v V,PbG x v V:=by
 let⟨g,j⟩:=zl h;unfold Bh at g;unfold JP at j;rw[Lx]at g j;let⟨g,J⟩:=g;let⟨j,R⟩:=j;rw[Lx]at R;let⟨z,q⟩:=R;have S:∀a,a∈Qk x.ν x.ε x.box x.κ x.ι->gI a:=λa t=>by
  have K:=Lg.1 z a t;rw[U2]at K;exact⟨Lg.1 J a t,yc K⟩
 have u:∀a,a∈Qk x.ν x.ε x.box x.κ x.ι->dG a:=λa t=>by
  let⟨h1,K⟩:=S a t;exact⟨h1,x3⟩
 have E:∀p,p∈KK x->ZQ p=true:=λp l=>Lg.1 q p l
 unfold Cq at j;let⟨T,j⟩:=Jq j;let⟨U,j⟩:=Jq j;let⟨W,j⟩:=Jq j;let⟨X,j⟩:=Jq j;have T:=L1 T;have U:=L1 U;have W:=L1 W;have X:=L1 X;unfold K6 at g;let⟨o1,g⟩:=Jq g;let⟨Y,g⟩:=Jq g;let⟨w,g⟩:=Jq g;let⟨i,g⟩:=Jq g;let⟨o5,g⟩:=Jq g;let⟨o6,g⟩:=Jq g;let⟨r,_⟩:=Jq g;rw[bne_eq_false_iff_eq]at Y;rw[Bool.not_eq_false']at w i r;have F:1<=x.δ/\x.δ<=6/\1<=x.vars:=by
  grind[QY]
 obtain⟨v,L⟩:∃v:Nat,x.vars=(v:Int):=⟨x.vars.toNat,x3⟩
 have A:DmG x.δ v x.box x.κ:=by
  unfold GR at w;refine⟨x3,?_⟩;cases e:decide ((x.box.length:Int)>0)||nX x.δ with
  |true =>
   rw[e]at w;let⟨m,o⟩:=L5.1 (show(_&&_)=true from w);have m:=Tr m;have o:=Tr o;exact .inl ⟨x3,So.1 x3,λs Z=>⟨u _ (VH Z).1,u _ (VH Z).2⟩⟩
  |false =>
   rw[e]at w;let⟨m,o⟩:=L5.1 (show(_&&_)=true from w);let⟨b1,b2⟩:=Rf.1 e;have b1:=L1 b1;have m:=Tr m;rw[U2]at o;refine .inr ⟨So.1 x3,x3,b2,λp l=>⟨?_,λa t=>u a (It l t)⟩⟩;have a3:=TH (Xb x.vars) o p l;unfold Xb at a3;rw[bne_eq_false_iff_eq]at a3;omega
 have hV:MK x.box x.κ=Kt x.box.length x.κ.length:=by
  unfold MK Kt;by_cases e:x.box.length=0
  ·rw[e];rfl
  ·rw[Lp.2 x3,Lk x3];rfl
 have B:Kt x.box.length x.κ.length=((Kt x.box.length x.κ.length).toNat:Int):=by
  unfold Kt;cases decide ((x.box.length:Int)>0)
  ·show(x.κ.length:Int)=(((x.κ.length:Int)).toNat:Int);omega
  ·show 2*(x.box.length:Int)=((2*(x.box.length:Int)).toNat:Int);omega
 have l:∀p,p∈x.ps->lk v p:=λp l=>SZ (L▸TH (Yo x.vars) o5 p l) (E p (by unfold KK;simp[l]))
 have hr:∀p,p∈x.θ->lk v p:=λp l=>SZ (L▸TH (Yo x.vars) o6 p l) (E p (by unfold KK;simp[l]))
 have he:dG x.ν:=u _ (by unfold Qk;simp);have hd:dG x.ε:=u _ (by unfold Qk;simp);unfold Zd at i;let⟨C,i⟩:=Jq i;let⟨G,i⟩:=Jq i;let⟨H,i⟩:=Jq i;let⟨_,C⟩:=Rf.1 C;let⟨_,G⟩:=Rf.1 G;let⟨H,M⟩:=Rf.1 H;have i:=Tr i;have h4:(x.δ==4)=false->x.ε=nm0/\x.θ=[]:=λe=>by
  rw[show nR x.δ=false from e,Bool.not_false,Bool.true_and]at G;let⟨m,o⟩:=Rf.1 G;rw[Bool.not_eq_false']at m;have o:=L1 o;exact⟨oy m,So.1 x3⟩
 have h6:(x.δ==6)=false->x.ι=[]/\1<=x.ζ:=λe=>by
  rw[show nC x.δ=false from e]at i;rw[show nS x.δ=true by unfold nS bne;rw[e];rfl,Bool.true_and]at H;have m:=L1 i.symm;have o:=L1 H;exact⟨So.1 x3,x3⟩
 have hc:(x.δ==6)=true->x.ν=nm0/\x.ζ=0/\0<x.ι.length:=λe=>by
  rw[show nC x.δ=true from e]at i;rw[show nS x.δ=false by unfold nS bne;rw[e];rfl,Bool.not_false,Bool.true_and]at C M;rw[Bool.not_eq_false']at C;rw[bne_eq_false_iff_eq]at M;have m:=L0 i.symm;exact⟨oy C,M,x3⟩
 refine⟨v,_,L,x3,⟨F.1,F.2.1⟩,Y,A,l,hr,x3,λe=>(h4 e).2,he,hd,λe=>(h4 e).1,hV.trans B,x3,λe=>?_,λe=>(h6 e).1,?_,S,E⟩
 ·let⟨c1,c2,c3⟩:=hc e;unfold Gs at r;rw[Lp.2 x3,cond_false]at r;cases y:NB x.ι with
  |false=>rw[y]at r;cases r
  |true =>
   rw[y,cond_true,U2]at r;unfold NB at y;let⟨_,y⟩:=Jq y;let⟨s1,s2⟩:=Jq y;have s2:=Tr s2;refine⟨c1,c2,λk F=>?_,x3,λn N=>?_⟩
   ·have:=bq s1 k F;rw[Lp]at this;omega
   ·have D:=TH (Zm (Kt x.box.length x.κ.length)) r n N;unfold Zm at D;constructor
    ·intro I;rw[if_pos (by unfold bne;rw[I];rfl),Rf,Rf,Rf]at D;let⟨⟨⟨O,P⟩,Q⟩,m4⟩:=D;rw[bne_eq_false_iff_eq]at O Q;rw[Bool.not_eq_false']at P;have m4:=L1 m4;have m5:n.sum.ts=[]:=So.1 x3;let⟨a,b,⟨c,d⟩⟩:=n;dsimp only at O P Q m5;rw[O,oy P,Q,m5];rfl
    ·intro I;rw[if_neg (by unfold bne;rw[I];decide)]at D;refine⟨Tr I,u _ (by unfold Qk;simp only[Lo,Sa];right;exact⟨n,N,x6⟩),SZ (p:=n.sum) ?_ (E _ (by unfold KK;simp only[Lo,Lv];right;exact⟨n,N,rfl⟩))⟩;rw[<- B];exact D
 ·cases e:x.δ==6 with
  |false=>have:=(h6 e).2;omega
  |true=>have:=(hc e).2.1;omega
theorem Qad{p q:Pz α}{c c2:List m1}{L2:List (List m1)}{a:α}(h:b=true->Cn p c L a c2 L2)(d:b=false->Cn q c L a c2 L2):Cn (bif b then p else q) c L a c2 L2:=by
 grind
section
variable{x:PV}{v V:Nat}(h:PbG x v V)
include h
theorem ud(i:L=[]):Cn (DN x.δ { x with ν:=nm0,ε:=nm0,ζ:=0,ι:=[] } false) [] (x.ι.map OL++(Gy x.δ x.ν x.ε x.ζ++L)) (x,false) [] L:=by
 subst i;refine Qad (λe=>?_) λe=>?_
 ·let⟨n,c2,c3,j,l⟩:=h.c e;have g:=nj (v:=V) (L:=[]) c3 j l x.ι.length 0 70000 x3 (hA h.cn);have f:x.ε=nm0:=h.d4 (by rw[Sk]at e;rw[e];rfl);rw[show Gy x.δ x.ν x.ε x.ζ=[]by unfold Gy;rw[e];rfl];rw[show MK _ _=(V:Int)from h.nv];refine Zl (a:=(x.ι,false)) g (Zl fW ?_);let⟨k,vars,bx,κ,m,d,ν,ε,ζ,ι⟩:=x
  grind[BH]
 ·have g:=Qag (L:=[]) e h.e h.dl h.d4 (⟨h.b.1,hA h.b⟩:0<=x.ζ/\x.ζ<=999999999);have f:=h.c6 e;rw[f];refine Zl g (Zl fW ?_);let⟨k,vars,bx,κ,m,d,ν,ε,ζ,ι⟩:=x;dsimp only at f ⊢;rw[f];exact BH
theorem Qan:Lib.idxOfS wKinds (wKinds.getD x.δ.toNat ⟨#[]⟩)=x.δ/\wKinds.getD x.δ.toNat ⟨#[]⟩≠⟨#[]⟩:=by
 have a:=h.k;have key:∀n:Fin 7,1<=n.val->Lib.idxOfS wKinds (wKinds.getD n.val ⟨#[]⟩)=(n.val:Int)/\wKinds.getD n.val ⟨#[]⟩≠⟨#[]⟩:=x4;have b:=key ⟨x.δ.toNat,x3⟩ (by show 1<=x.δ.toNat;omega)
 grind
theorem ub:Cn XD [] (Dt x) (x,false) [] []:=by
 let⟨k1,o⟩:=Qan h;have b:=h.q;have s:=h.v4;refine Zl (Vs k1 (hA h.k) o) ?_
 refine Zl (a:=x.vars) (c2:=[]) (L2:=BE x.box x.κ::(x.ps.map (λp=>ZC::EM p)++(x.θ.map (λp=>Xu::EM p)++(x.ι.map OL++Gy x.δ x.ν x.ε x.ζ)))) (λf t=>?_) ?_
 ·refine Zl (q:=λvars=>bnd (OJ (decide (vars>0)) (Qg f.l 0).a) λ_=>rtn vars) (cI x3 x3 x3) (Zl (a:=()) (ni (Lk x3)) BH) f t
 ·have c:=Qae (L:=x.ps.map (λp=>ZC::EM p)++(x.θ.map (λp=>Xu::EM p)++(x.ι.map OL++Gy x.δ x.ν x.ε x.ζ))) h.d;rw[<- b]at c;refine Zl c ?_
  have g:=fY (m:=false) (L:=x.θ.map (λp=>Xu::EM p)++(x.ι.map OL++Gy x.δ x.ν x.ε x.ζ)) (l:=x.ps) (r:=[]) h.p;rw[<- b,show x.ps.length=(QY x.δ x.vars).toNat by have:=h.n;omega]at g;refine Zl g ?_
  have u:Cn (ZA x.δ x.vars 70000 [] false) [] (x.θ.map (λp=>Xu::EM p)++(x.ι.map OL++Gy x.δ x.ν x.ε x.ζ)) (x.θ,false) [] (x.ι.map OL++Gy x.δ x.ν x.ε x.ζ):=by
   cases e:x.δ==4 with
   |true =>
    have i:=Tr e;rw[h.c6 (by rw[i];rfl),i,b];exact nl (w:=Zh) x4 (l:=x.θ) (r:=[]) (f:=70000) (hA h.rn) h.r
   |false =>
    rw[h.r4 e];show Cn (bif x.δ==4 then _ else rtn ([],false)) _ _ _ _ _
    grind[BH]
  refine Zl u ?_
  have j:=ud h (L:=[]) rfl;rw[Rq]at j;exact j
theorem eK:∀l,l∈Dt x->xH l:=by
 have f:∀p:Py,∀t,t∈EM p->IG t:=λp t b=>by
  grind[EM,eC,gJ,ja]
 have m:∀ {w:m1} {r:List m1},IG w->bt w 0≠35->(∀t,t∈r->IG t)->xH (w::r):=λd o q=>⟨λt b=>by
  rcases Lb.1 b with rfl|b
  ·exact d
  ·exact q t b,_,_,rfl,o⟩
 have d:∀ {w:m1} {r:List m1},(IG w/\bt w 0≠35)->(∀t,t∈r->IG t)->xH (w::r):=λg s=>m g.1 g.2 s
 have i:∀(a:Nm) t,t∈[Yc a]->IG t:=λa t b=>Ly.1 b▸gJ _
 intro l c;unfold Dt at c;simp only[Lb,Lo,Lv]at c;rcases c with rfl|rfl|⟨p,_,rfl⟩|⟨p,_,rfl⟩|⟨n,_,rfl⟩|c
 ·refine d ?_ λt b=>Ly.1 b▸ja _
  have key:∀n:Fin 7,1<=n.val->IG (wKinds.getD n.val ⟨#[]⟩)/\bt (wKinds.getD n.val ⟨#[]⟩) 0≠35:=by
   unfold IG;decide
  have:=h.k;exact key ⟨x.δ.toNat,x3⟩ (by show 1<=x.δ.toNat;omega)
 ·unfold BE;refine d (by unfold IG;cases x.box.length==0<;>decide) λt b=>?_
  grind
 ·exact d (by unfold IG;decide) (f p)
 ·exact d (by unfold IG;decide) (f p)
 ·unfold OL;cases n.split==0
  ·exact d (by unfold IG;decide) λt b=>nomatch b
  ·refine d (by unfold IG;decide) λt b=>?_
   rcases Lb.1 b with rfl|b
   ·exact gJ _
   ·exact f _ t b
 ·unfold Gy at c;cases e:x.δ==6 with
  |true=>rw[e]at c;cases c
  |false =>
   rw[e]at c;have u:xH [Qy,Qz x.ζ]:=d (by unfold IG;decide) λt b=>Ly.1 b▸ja _
   have v:xH [Zh,Yc x.ν]:=d (by unfold IG;decide) (i _);have y:xH [Xh,Yc x.ε]:=d (by unfold IG;decide) (i _);cases j:x.δ==4 with
   |true =>
    rw[j]at c;simp at c;rcases c with rfl|rfl|rfl<;>assumption
   |false =>
    rw[j]at c;simp at c;rcases c with rfl|rfl<;>assumption
end
def VP(x:PV):List UInt8:=(Dt x).flatMap ZJ
theorem pB{x:PV}(h:chkN x=0):∃f,XD (J2 (VP x))=.ok ((x,false),f):=by
 let⟨v,V,h⟩:=Pu h;let⟨f,e,_⟩:=ub h _ (UX (eK h));exact⟨f,e⟩
def pr(P:Int->Prop)(l:List Tk):Prop:=∀t,t∈l->P t.a
def pq(P:Int->Prop)(l:List Ln):Prop:=∀n,n∈l->pr P n.l/\P n.e
structure Plc (P:Int->Prop) (s:FD):Prop where
 ls:pq P s.ls
 l:pr P s.l
 ne:P s.ne
 en:P s.en
def Qe2(P:Int->Prop):Except Int (α×FD)->Prop
 |.error z=>P z
 |.ok p=>Plc P p.2
def Bi{P:Int->Prop}{t:Tk}{l:List Tk}(h:pr P (t::l)):P t.a/\pr P l:=⟨h t x6,λu b=>h u (by simp[b])⟩
def gZ{P:Int->Prop}{n:Ln}{l:List Ln}(h:pq P (n::l)):(pr P n.l/\P n.e)/\pq P l:=⟨h n x6,λu a=>h u (by simp[a])⟩
def OpP(P:Int->Prop)(ls:List Ln):Except Int (α×FD)->Prop
 |.error z=>P z
 |.ok p=>Plc P p.2/\ls≠[]
def n5{P:Int->Prop}(a:List m1){ls:List Ln}{ne b:Int}(h:pq P ls)(c:P b):OpP P ls (Qv a ⟨ls,[],ne,b⟩):=by
 cases ls with
 |nil=>exact c
 |cons n r =>
  let⟨l,e⟩:=n;let⟨⟨f,d⟩,g⟩:=gZ h;cases l with
  |nil=>exact d
  |cons t l =>
   let⟨i,j⟩:=Bi f;simp only[Qv,bnd,XF,Hi,X5,OJ,rtn];cases decide (Lib.idxOfS a t.s>=0)&&!decide (t.s=⟨#[]⟩)
   ·exact i
   ·exact⟨⟨g,j,d,c⟩,x6⟩
theorem Qbb{P:Int->Prop}{x:Pz α}(h:Pg b α x):∀s,Plc P s->Qe2 P (x s):=by
 induction h with
 |rtn a=>exact λs h=>h
 |@bnd b α β x f _ _ g i =>
  intro s c;have:=g s c;unfold bnd;cases e:x s with
  |error z=>rw[e]at this;exact this
  |ok p=>rw[e]at this;exact i p.1 p.2 this
 |line o =>
  intro s c;let⟨ls,l,ne,k⟩:=s;cases l with
  |cons t l=>exact(Bi c.l).1
  |nil =>
   have:=n5 o (ne:=ne) c.ls c.en;cases e:Qv o ⟨ls,[],ne,k⟩with
   |error z=>rw[e]at this;exact this
   |ok p=>rw[e]at this;exact this.1
 |cnt m =>
  intro s c;let⟨ls,l,ne,k⟩:=s;cases l with
  |nil=>exact c.ne
  |cons t l =>
   let⟨d,j⟩:=Bi c.l;simp only[QQ,bnd,X5,OJ,rtn];cases IW t.s
   ·exact d
   ·cases decide (Xs t.s<=m)
    ·exact d
    ·exact⟨c.ls,j,c.ne,c.en⟩
 |num =>
  intro s c;let⟨ls,l,ne,k⟩:=s;cases l with
  |nil=>exact c.ne
  |cons t l =>
   let⟨d,j⟩:=Bi c.l;simp only[XV,bnd,X5,OJ,rtn];cases (Zz t.s.data.toList).2.2==0
   ·exact d
   ·exact⟨c.ls,j,c.ne,c.en⟩
 |vars =>
  intro s c;let⟨ls,l,ne,k⟩:=s;cases l with
  |nil=>exact c.ne
  |cons t l =>
   let⟨d,j⟩:=Bi c.l;simp only[i6,QQ,bnd,X5,OJ,rtn,Qg,List.getD_cons_zero];cases IW t.s
   ·exact d
   ·cases decide (Xs t.s<=99)
    ·exact d
    ·simp only[cond_true];cases decide (Xs t.s>0)
     ·exact d
     ·exact⟨c.ls,j,c.ne,c.en⟩
 |last =>
  intro s c;let⟨ls,l,ne,k⟩:=s;cases l with
  |cons t l=>exact(Bi c.l).1
  |nil =>
   cases ls with
   |nil=>exact c
   |cons n r =>
    let⟨l,e⟩:=n;let⟨⟨d,j⟩,_⟩:=gZ c.ls;cases l with
    |nil=>exact j
    |cons t l=>exact(Bi d).1
 |more _ _ g i =>
  grind
 |beg w _ _ g i =>
  intro s c;dsimp only;cases BP w s
  ·exact i s c
  ·exact g s c
theorem rj(s:List UInt8)(a:Int):∀k,k<=s.length->(∀t,t∈(Qd s a k).1->a<=t.a/\t.a<=a+s.length)/\∀i,(Qd s a k).2=some i->i<k
 |0,_=>⟨λ_ h=>(nomatch h),λ_ h=>(nomatch h)⟩
 |k+1,d=>by
  let⟨b,c⟩:=rj s a k x3;show(∀t,t∈(ZT s a k (Qd s a k)).1->_)/\∀i,(ZT s a k (Qd s a k)).2=some i->_;unfold ZT;cases ZP (s.getD k 0)with
  |true =>
   rw[cond_true];unfold D3;cases e:(Qd s a k).2 with
   |none=>exact⟨b,λi h=>by rw[show(Qd s a k).2=some i from h]at e;cases e⟩
   |some i =>
    grind
  |false =>
   rw[cond_false];cases e:(Qd s a k).2 with
   |none=>exact⟨b,λi h=>by injection h with h;omega⟩
   |some i=>exact⟨b,λj h=>by have:=c j (show(Qd s a k).2=some j from h);omega⟩
theorem Qeq{a:Int}:∀t,t∈YI s a->a<=t.a/\t.a<=a+s.length:=by
 let⟨b,c⟩:=rj s a s.length (L4 _);unfold YI D3;cases e:(Qd s a s.length).2 with
 |none=>exact b
 |some i =>
  grind
def P4:List (List UInt8)->Nat
 |[]=>0
 |l::r=>l.length+1+P4 r
theorem FC:∀s:List UInt8,P4 (Qi s)=s.length+1
 |[]=>rfl
 |c::r=>by
  have a:=FC r;unfold Qi;cases c==10 with
  |true=>show 0+1+P4 (Qi r)=r.length+1+1;omega
  |false =>
   rw[cond_false];cases e:Qi r with
   |nil=>exact absurd e (Nj r)
   |cons l m =>
    grind[P4]
theorem Wl{n:Int}:∀(ls:List (List UInt8)) (a:Int),0<=a->a+P4 ls<=n+1->pq (λz=>0<=z/\z<=n) (Qo ls a)
 |[],_,_,_=>λ_ h=>nomatch h
 |l::r,a,e,h=>by
  have f:a+((l.length+1+P4 r:Nat):Int)<=n+1:=h;have c:=Wl (n:=n) r (a+(l.length:Int)+1) x3 x3;unfold Qo;cases VE (YI l a)with
  |false=>exact c
  |true =>
   intro x b;rcases Lb.1 b with rfl|b
   ·refine⟨λt d=>?_,?_⟩
    ·have:=Qeq t d;omega
    grind
   ·exact c x b
def vW(h:XD (J2 s)=.error z):0<=z/\z<=s.length:=by
 have a:=FC s;have:=Qbb (P:=λz=>0<=z/\z<=(s.length:Int)) gW (J2 s) ⟨Wl _ _ (Sd _) x3,(λ_ h=>nomatch h),⟨Sd _,Int.natCast_nonneg _⟩,by show 0<=(s.length:Int)/\(s.length:Int)<=(s.length:Int);omega⟩;rw[h]at this;exact this
def tw(f:FD):Nat:=f.l.length+(f.ls.map λn=>n.l.length).sum
def Az(p:Pz α)(b:Nat)(w:α->Nat):Prop:=∀f a c,p f=.ok (a,c)->w a+tw c<=b+tw f
variable{a:List m1}
section
variable{α β:Type}{b:Nat}
def XP{p:Pz α}{q:α->Pz β}{w1:α->Nat}{g:β->Nat}(h:Az p b w1)(j:∀a,Az (q a) (w1 a) g):Az (bnd p q) b g:=λf c k e=>by
 unfold bnd at e;cases d:p f with
 |error z=>rw[d]at e;cases e
 |ok r =>
  let⟨a,i⟩:=r;rw[d]at e;exact L6 (j a i c k e) (h f a i d)
def Qb8{p:Pz α}{w:α->Nat}(h:Az p b w){f c:FD}{a:α}(e:p f=.ok (a,c)):w a+tw c<=b+tw f:=h f a c e
theorem JD{a:α}{w:α->Nat}(h:w a<=b):Az (rtn a) b w:=λf c d e=>by
 injection e with e
 grind
theorem aP{c:Bool}:Az (OJ c z) b λ_=>b:=λf a d e=>by
 cases c
 ·cases e
 ·injection e with e
  grind
theorem sa:Az X5 b λ_=>b+1:=λf a d e=>by
 unfold X5 at e;cases c:f.l with
 |nil=>rw[c]at e;cases e
 |cons t l =>
  grind[tw]
theorem iW{c:Bool}{x y:Pz α}{w:α->Nat}(a:Az x b w)(d:Az y b w):Az (bif c then x else y) b w:=by grind
def za{c:FD->Bool}{x y:Pz α}{w:α->Nat}(g:Az x b w)(i:Az y b w):Az (λs=>bif c s then x s else y s) b w:=λf a d e=>by
 dsimp only at e;cases h:c f with
 |true=>rw[h]at e;exact g f a d e
 |false=>rw[h]at e;exact i f a d e
theorem VQ{p:Pz α}{c:Nat}{w d:α->Nat}(h:Az p b w)(i:b<=c)(j:∀a,d a<=w a):Az p c d:=λf a g e=>by
 have:=h f a g e
 grind
def Pb:Az XF b λ_=>b:=λf a g e=>by
 unfold XF at e;cases c:f.l with
 |nil=>rw[c]at e;injection e with e;injection e with _ d;subst d;exact L4 _
 |cons t l=>rw[c]at e;cases e
theorem rY:Az Hi b λ_=>b:=λf a d e=>by
 unfold Hi at e;cases c:f.ls with
 |nil=>rw[c]at e;cases e
 |cons n r =>
  rw[c]at e
  grind[tw]
def K3:Az (Qv a) b λ_=>b+1:=XP Pb λ_=>XP rY λ_=>XP sa λ_=>XP aP λ_=>JD (L4 _)
def IF{m:Int}:Az (QQ m) b λ_=>b+1:=XP sa λ_=>XP aP λ_=>XP aP λ_=>JD (L4 _)
def E3:Az XV b λ_=>b+1:=XP sa λ_=>XP aP λ_=>JD (L4 _)
def Nv:∀ {n:Nat} {l:List Nm} {b:Nat},Az (XW n l) b λ_=>b+n
 |0,_,_=>JD (L4 _)
 |n+1,l,b=>XP E3 λa=>VQ (Nv (n:=n) (b:=b+1)) (L4 _) λ_=>by show b+(n+1)<=b+1+n;omega
def aN{m:Int}{b:Nat}:∀ {n:Nat} {l:List UInt8},Az (Jt m n l) (b+l.length) λr=>b+r.length
 |0,_=>JD (L4 _)
 |n+1,l=>XP IF λa=>VQ (aN (m:=m) (b:=b) (n:=n) (l:=l++[UInt8.ofNat a.toNat])) (by rw[La,Ro];exact L4 _) λ_=>L4 _
end
def BM(l:List Tm):Nat:=(l.map λt=>1+t.m.size).sum
def MS(l:List Py):Nat:=(l.map λp=>1+BM p.ts).sum
def kh(l:List Nd):Nat:=(l.map λn=>bif n.split==0 then 2+BM n.sum.ts else 1).sum
def ST(a b:List Tm):BM (a++b)=BM a+BM b:=by simp[BM]
def uI:∀(n:Nat) (a b:List Tm),BM (VS n a b)<=BM a+BM b
 |0,a,b=>by rw[<- ST];cases a<;>exact L4 _
 |n+1,[],b=>by cases b<;>simp[VS,BM]
 |n+1,x::a,[]=>by simp[VS,BM]
 |n+1,x::a,y::b=>by
  have d:=uI n a (y::b);have e:=uI n (x::a) b;have f:=uI n a b;have c:∀(t:Tm) l,BM (t::l)=1+t.m.size+BM l:=λ_ _=>rfl
  unfold VS;cases By x.m y.m with
  |true=>rw[cond_true,c,c];omega
  |false =>
   cases By y.m x.m with
   |true=>rw[cond_false,cond_true,c,c y];omega
   |false=>rw[cond_false,cond_false,c,c,c];dsimp only;omega
def em:∀(f:Nat) (l:List Tm),BM (Zo f l)<=BM l
 |0,_=>L4 _
 |f+1,l=>by
  unfold Zo;split
  ·exact L4 _
  ·have b:=uI l.length (Zo f (l.take (l.length / 2))) (Zo f (l.drop (l.length / 2)));have c:=em f (l.take (l.length / 2));have d:=em f (l.drop (l.length / 2));have a:=ST (l.take (l.length / 2)) (l.drop (l.length / 2));rw[Uq]at a;omega
theorem yf(p:Tm->Bool):∀l:List Tm,BM (l.filter p)<=BM l
 |[]=>L4 _
 |t::l=>by
  have h:=yf p l
  grind[BM]
def Qay(v:Int)(l:List Tm):BM (Xe v l).1.ts<=BM l:=by
 have h:BM ((Xj l).map X4)<=BM l:=by
  have a:BM ((Xj l).map X4)=BM (Xj l):=by unfold BM;rw[List.map_map];rfl
  exact a▸L6 (yf _ _) (em _ _)
 unfold Xe;generalize (!(decide (0<=v)&&decide (v<=12))||l.any λt=>!ZN t.m v)=b;generalize (decide ((l.length:Int)>65536)||decide (((Xj l).length:Int)>4096))=c2;cases b
 ·cases c2
  ·exact h
  ·exact L7 _
 ·exact L7 _
variable{v:Int}
section
variable{b:Nat}
theorem iZ{v:Nat}:∀ {f:Nat} {l:List Tm},Az (JY v f l) (b+BM l) λr=>b+BM r
 |0,_=>JD (L4 _)
 |f+1,l=>za (c:=λs=>decide ((s.l.length:Int)>0)) (XP E3 λa=>XP (VQ (aN (m:=127) (b:=b+BM l+1) (n:=v) (l:=[])) (L4 _) λ_=>L4 _) λm=>VQ (iZ (v:=v) (f:=f) (l:=l++[⟨⟨m.toArray⟩,a⟩])) (by
   rw[ST];show b+(BM l+(1+m.toArray.size+0))<=_;rw[Rs];omega) λ_=>L4 _) (λs a d e=>by
  grind)
def F6:Az (QC v) b λr=>b+BM r.1.ts:=XP (VQ (iZ (b:=b) (l:=[])) (L4 _) λ_=>L4 _) λl=>JD (Nat.add_le_add_left (Qay v l) b)
def iX{n:Nat}:∀ {f:Nat} {l:List (List Nm)},Az (G3 n f l) (b+n*l.length) λr=>b+n*r.length
 |0,_=>JD (L4 _)
 |f+1,l=>XP Nv λp=>VQ (iX (n:=n) (f:=f) (l:=l++[p])) (by rw[La,Ro,Rp];omega) λ_=>L4 _
def iU:∀ {f:Nat} {l:List (Nm×Nm)},Az (BC f l) (b+2*l.length) λr=>b+2*r.length
 |0,_=>JD (L4 _)
 |f+1,l=>XP Nv λp=>VQ (iU (f:=f) (l:=l++[(Xm p 0,Xm p 1)])) (by rw[La,Ro,Rp];omega) λ_=>L4 _
def xt{k:Int}:Az (Ko k v) b λr=>b+(1+(2*r.1.length+v.toNat*r.2.length)):=XP K3 λi=>iW (XP (VQ (iX (b:=b+1) (l:=[])) (L4 _) λ_=>L4 _) λl=>JD (by show b+(1+(2*0+v.toNat*l.length))<=_;omega)) (XP (VQ (iU (b:=b+1) (l:=[])) (L4 _) λ_=>L4 _) λl=>JD (by show b+(1+(2*l.length+v.toNat*0))<=_;omega))
def gX(a b:List Py):MS (a++b)=MS a+MS b:=by simp[MS]
def gB(a b:List Nd):kh (a++b)=kh a+kh b:=by simp[kh]
def aQ{v:Int}:∀ {f:Nat} {l:List Py} {m:Bool},Az (KX v f l m) (b+MS l) λr=>b+MS r.1
 |0,_,_=>JD (L4 _)
 |f+1,l,m=>XP K3 λ_=>XP F6 λp=>VQ (aQ (f:=f) (l:=l++[p.1])) (by
  rw[gX];show b+(MS l+(1+BM p.1.ts+0))<=_;omega) λ_=>L4 _
def iY{k v:Int}:∀ {f:Nat} {l:List Py} {m:Bool},Az (ZA k v f l m) (b+MS l) λr=>b+MS r.1
 |0,_,_=>JD (L4 _)
 |f+1,l,m=>iW (za (XP K3 λ_=>XP F6 λp=>VQ (iY (k:=k) (f:=f) (l:=l++[p.1])) (by
  rw[gX];show b+(MS l+(1+BM p.1.ts+0))<=_;omega) λ_=>L4 _) (JD (L4 _))) (JD (L4 _))
def SW{v:Int}:∀ {f:Nat} {o:Int} {l:List Nd} {m:Bool},Az (XJ v f o l m) (b+kh l) λr=>b+kh r.1
 |0,_,_,_=>JD (L4 _)
 |f+1,o,l,m=>iW (XP K3 λi=>iW (VQ (SW (f:=f) (l:=l++[⟨1,nm0,NU⟩])) (by
  rw[gB];show b+(kh l+(1+0))<=_;omega) λ_=>L4 _) (XP E3 λa=>XP F6 λp=>VQ (SW (f:=f) (l:=l++[⟨0,a,p.1⟩])) (by
  rw[gB];show b+(kh l+(2+BM p.1.ts+0))<=_;omega) λ_=>L4 _)) (JD (L4 _))
def FZ(k:Int):Nat:=bif k==6 then 0 else bif k==4 then 6 else 4
def xu{k:Int}(h:(k==6)=false):Az (K8 k) b λ_=>b+FZ k:=XP K3 λ_=>XP E3 λe=>by
 unfold FZ;rw[h];cases a:k==4 with
 |true=>exact XP (XP K3 λ_=>E3) λd=>XP K3 λ_=>XP IF λ_=>JD (L4 _)
 |false=>exact XP (w1:=λ_=>b+1+1) (JD (L4 _)) λd=>XP K3 λ_=>XP IF λ_=>JD (L4 _)
theorem aO:Az Ew b λ_=>b:=XP Pb λ_ f a c e=>by
 grind
def sD(x:PV):Nat:=2+(1+(2*x.box.length+x.vars.toNat*x.κ.length))+MS x.ps+MS x.θ+kh x.ι+FZ x.δ
def r8{k:Int}{x:PV}{m:Bool}(d:x.δ=k)(a:x.ι=[]):Az (DN k x m) (sD x-FZ k) λr=>sD r.1:=by
 subst d;have e:sD x=2+(1+(2*x.box.length+x.vars.toNat*x.κ.length))+MS x.ps+MS x.θ+0+FZ x.δ:=by unfold sD;rw[a];rfl
 unfold DN;cases h:x.δ==6 with
 |true =>
  have f:FZ x.δ=0:=by unfold FZ;rw[h];rfl
  refine XP (VQ (SW (b:=sD x) (l:=[])) (by rw[f];exact L4 _) λ_=>L4 _) λc=>XP aO λ_=>JD ?_
  show 2+(1+(2*x.box.length+x.vars.toNat*x.κ.length))+MS x.ps+MS x.θ+kh c.1+FZ x.δ<=_;omega
 |false =>
  refine XP (xu h) λt=>XP aO λ_=>JD ?_
  show 2+(1+(2*x.box.length+x.vars.toNat*x.κ.length))+MS x.ps+MS x.θ+kh x.ι+FZ x.δ<=_;rw[e,a];show _+0+_<=_;omega
def rZ:Az XD 0 λr=>sD r.1:=XP K3 λk=>XP (w1:=λ_=>2) (λf a c e=>(XP (q:=λvars=>bnd (OJ (decide (vars>0)) (Qg f.l 0).a) λ_=>rtn vars) (IF (m:=99) (b:=1)) λ_=>XP aP λ_=>JD (w:=λ_=>2) (L4 _)) f a c e) λv=>XP xt λd=>XP (VQ (aQ (b:=2+(1+(2*d.1.length+v.toNat*d.2.length))) (l:=[])) (L4 _) λ_=>L4 _) λp=>XP (VQ (iY (b:=2+(1+(2*d.1.length+v.toNat*d.2.length))+MS p.1) (l:=[])) (L4 _) λ_=>L4 _) λr=>VQ (r8 rfl rfl) (by
 show 2+(1+(2*d.1.length+v.toNat*d.2.length))+MS p.1+MS r.1+0+FZ k-FZ k<=_;omega) λ_=>L4 _
end
def d10:m1:=⟨#[48,49,50,51,52,53,54,55,56,57]⟩
def CF(s:m1):m1:=⟨(Lib.trimS s.data.toList d10.data.toList).toArray⟩
def Qb4{s:m1}(c:s.size<=4000)(W:m0):RetAt prog W 110 #[.string s,.string d10] (.string (CF s)):=⟨λa w=>call110 a w,λb _ =>
 (Any.strings_Trim_laid Tryz.lays160 x5 s d10 b x3 x4 (ascii_of_all x4)).mono λ_ _ h=>h⟩
theorem fA(c:UInt8):d10.data.toList.contains c=(decide (c.toNat>=48)&&decide (c.toNat<=57)):=by
 have h:∀n:Fin 256,d10.data.toList.contains (UInt8.ofNat n.val)=(decide ((UInt8.ofNat n.val).toNat>=48)&&decide ((UInt8.ofNat n.val).toNat<=57)):=by decide +kernel
 have:=h ⟨c.toNat,c.toNat_lt⟩;simp_all
theorem drop_all{p:UInt8->Bool}:∀ {l:List UInt8},(l.dropWhile p=[])↔l.all p=true
 |[]=>x6
 |c::l=>by
  rw[List.dropWhile_cons,List.all_cons];cases p c
  ·simp
  ·simpa using drop_all (l:=l)
theorem aG(l cs:List UInt8):(Lib.trimS l cs=[])↔l.all (cs.contains ·)=true:=by
 unfold Lib.trimS Lib.trimLeftS Lib.trimRightS;rw[drop_all];constructor
 ·intro h;have f:∀c,c∈(l.reverse.dropWhile (cs.contains ·))->cs.contains c=true:=λc b=>Lg.1 h c (l3 b)
  have d:l.reverse.dropWhile (cs.contains ·)=[]:=by
   cases e:l.reverse.dropWhile (cs.contains ·)with
   |nil=>rfl
   |cons c r =>
    have a:=List.head_dropWhile_not (p:=λc=>cs.contains c) (l:=l.reverse) (by rw[e];simp)
    grind
  have a:=drop_all.1 d;rwa [List.all_reverse]at a
 grind[drop_all]
theorem CL(s:m1):IW s=((decide (CF s=⟨#[]⟩)&&decide ((s.size:Int)<=9))&&(((bt s 0:Int) != 48)||((s.size:Int)==1))):=by
 unfold IW
 grind[CF,fA,aG]
theorem IY:∀(l:List UInt8) (n:Nat),l.all (λc=>decide (c.toNat>=48)&&decide (c.toNat<=57))=true->∃m:Nat,Lib.decFrom n l=some m/\l.foldl (λ(n:Int) c=>n*10+((c.toNat:Int)-48)) (n:Int)=(m:Int)
 |[],n,_=>⟨n,rfl,rfl⟩
 |c::l,n,h=>by
  rw[List.all_cons,Lx]at h;let⟨a,b⟩:=h;rw[Lx,decide_eq_true_iff,decide_eq_true_iff]at a;have d:Lib.digitVal c=some (c.toNat-48):=by
   grind[Lib.digitVal]
  let⟨m,e,f⟩:=IY l (n*10+(c.toNat-48)) b;refine⟨m,by simp only[Lib.decFrom,d];exact e,?_⟩;rw[V1,<- f];congr 1;omega
theorem lE{s:m1}(o:0<s.size)(p:CF s=⟨#[]⟩)(q:(s.size:Int)<=9)(W:m0):RetAt prog W 111 #[.string s] (.tuple #[.int .i64 (Xs s),.nilIface]):=⟨λa w=>call111 a w,λh _=>by
 have b:s.data.toList.all (λc=>decide (c.toNat>=48)&&decide (c.toNat<=57))=true:=by
  have d:Lib.trimS s.data.toList d10.data.toList=[]:=by
   grind[CF]
  grind[aG,fA]
 let⟨m,d,i⟩:=IY s.data.toList 0 b;have f:Lib.atoi s.data.toList=some (Xs s):=by
  unfold Xs;rw[show(0:Int)=((0:Nat):Int)from rfl,i];have g:s.data.toList≠[]:=λe=>by
   have:s.data.toList.length=s.size:=x6;rw[e]at this;simp at this;omega
  cases e:s.data.toList with
  |nil=>exact absurd e g
  |cons c l =>
   rw[e]at b d;rw[List.all_cons,Lx,Lx,decide_eq_true_iff,decide_eq_true_iff]at b;have j:(c==45)=false:=Lp.2 λe=>by rw[e]at b;exact absurd b.1.1 x4
   have k:(c==43)=false:=Lp.2 λe=>by rw[e]at b;exact absurd b.1.1 x4
   unfold Lib.atoi;simp only[j,k,Tv,if_false];unfold Lib.decNat;simp[d]
 refine(Tryz.strconv_Atoi s (Xs s) x3 f h).mono λe r n=>?_
 obtain⟨rfl,t,rfl⟩:=n;exact⟨rfl,Lib.bytesWorld_below _ _ _⟩⟩
abbrev Hzz(s:χ):y9:=.int .i64 ((Qg s.l 0).a)
abbrev HzA(b:Int)(s:χ):=(QQ b) s.fd=.ok (Xs (Qg s.l 0).s,s.nx.fd)
abbrev HzB(s:χ):=X5 s.fd=.ok ((Qg s.l 0),s.nx.fd)
abbrev HzC(s:χ):=Xs (Qg s.l 0).s
def HzD(s:χ):List Dir:=[x03 1 1 (.iface 103 (Hzz s))]
def Ia(g:Nat)(M:Res)(s:χ)(xs:o3)(k:s.In M)(b:Int)(W:m0):jg W g xs M s 72 #[x02 g,Θ b] (QQ b) (Xs (Qg s.l 0).s) s.nx (Θ (Xs (Qg s.l 0).s)) :=
 VC Qm QU (λa w=>call72 a w) func72 ntmps72 results72 _ rfl _ _ _ _ [x07 1 1 0 (Xy X5 s) (λ(c:PLift (HzB s))=>(.agg #[Ψ ((Qg s.l 0).s),Θ ((Qg s.l 0).a)],Qh g 69 (χ.cs s.nx xs) M,[x04 2 2 (sV (CF (Qg s.l 0).s)),x03 2 3 (Ξ (decide ((CF (Qg s.l 0).s)=⟨#[]⟩))),.gb 2 5 [.gb 2 11 [x03 2 13 (.int .u8 (bt (Qg s.l 0).s 0:Int)),.gb 2 16 [.inl 3 3 f73,.both (HzD s) [x04 4 2 (.tup [iV (HzC s),.val (.nilIface)]),.inl 5 5 f73,.both (HzD s) []]] [.inl 3 3 f73,x04 4 2 (.tup [iV (HzC s),.val (.nilIface)]),.inl 5 5 f73,.both (HzD s) []]] [.inl 3 3 f73,x03 1 1 (.iface 103 (Hzz s))]] [.inl 3 3 f73,x03 1 1 (.iface 103 (Hzz s))]]))] (λF=>ai (dF g M s xs k W)<|ai (λ(c:PLift (HzB s))=>X0 (Qb4 (s:=(Qg s.l 0).s) (yV k.f.l c.down) W) (IC W (.tmp 13) (.const (x00)) (CF (Qg s.l 0).s) ⟨#[]⟩)<|ZD (decide ((CF (Qg s.l 0).s)=⟨#[]⟩)) true (λd=>ZD (decide ((((Qg s.l 0).s).size:Int)<=9)) true (λe=>ai (bz W (Qg s.l 0).s 0 (ez k.f.l c.down))<|have Z:=lE (s:=(Qg s.l 0).s) (ez k.f.l c.down) (L0 d) (L0 e) W;ZD ((bt (Qg s.l 0).s 0:Int) != 48) false (λj=>X0 func73 (λa w=>call73 a w)<|Xi (!((((Qg s.l 0).s).size:Int)==1)) (λm=>ai (KT W (Hzz s))<|(KP F (.iface 103 (Hzz s)) (Xy (QQ b) s) (show Xy (QQ b) s (.iface 103 (Θ ((Qg s.l 0).a)))from⟨_,(QA c.down).trans (Xc (EA (by rw[CL,d,e,j,nt m];rfl))),rfl⟩))) λm=>Ja Z func73 (λa w=>call73 a w)<|Xi (!(decide ((Xs (Qg s.l 0).s)<=b))) (λi=>ai (KT W (Hzz s))<|(KP F (.iface 103 (Hzz s)) (Xy (QQ b) s) (show Xy (QQ b) s (.iface 103 (Θ ((Qg s.l 0).a)))from⟨_,(QA c.down).trans ((QA (EB (by rw[CL,d,e,j,nf m];rfl))).trans (Xc (EA (nt i)))),rfl⟩))) λi=>(YP F (Θ (HzC s)) (λ_:PLift (HzA b s)=>Θ (HzC s)) (Qh g 69 (χ.cs s.nx xs) M) (λ_:PLift (HzA b s)=>Qh g 69 (χ.cs s.nx xs) M) ⟨(QA c.down).trans ((QA (EB (by rw[CL,d,e,j,nf m];rfl))).trans (QA (EB (nf i))))⟩ rfl λ_ _ _ h=>h)) λj=>KJ func73 (λa w=>call73 a w) Z func73 (λa w=>call73 a w)<|Xi (!(decide ((Xs (Qg s.l 0).s)<=b))) (λi=>ai (KT W (Hzz s))<|(KP F (.iface 103 (Hzz s)) (Xy (QQ b) s) (show Xy (QQ b) s (.iface 103 (Θ ((Qg s.l 0).a)))from⟨_,(QA c.down).trans ((QA (EB (by rw[CL,d,e,j];rfl))).trans (Xc (EA (nt i)))),rfl⟩))) λi=>(YP F (Θ (HzC s)) (λ_:PLift (HzA b s)=>Θ (HzC s)) (Qh g 69 (χ.cs s.nx xs) M) (λ_:PLift (HzA b s)=>Qh g 69 (χ.cs s.nx xs) M) ⟨(QA c.down).trans ((QA (EB (by rw[CL,d,e,j];rfl))).trans (QA (EB (nf i))))⟩ rfl λ_ _ _ h=>h)) λe=>Ja func73 (λa w=>call73 a w) (KT W (Hzz s))<|(KP F (.iface 103 (Hzz s)) (Xy (QQ b) s) (show Xy (QQ b) s (.iface 103 (Θ ((Qg s.l 0).a)))from⟨_,(QA c.down).trans (Xc (EA (by rw[CL,d,e];rfl))),rfl⟩))) λd=>Ja func73 (λa w=>call73 a w) (KT W (Hzz s))<|(KP F (.iface 103 (Hzz s)) (Xy (QQ b) s) (show Xy (QQ b) s (.iface 103 (Θ ((Qg s.l 0).a)))from⟨_,(QA c.down).trans (Xc (EA (by rw[CL,d];rfl))),rfl⟩))) (Yf F (Xy X5 s) (Xy (QQ b) s) λ_ h=>h.imp λ_ h=>⟨Xc h.1,h.2⟩)) λF=>x5
def Xn(s:χ)(k:Nat):List Nm:=(List.range k).map λj=>Q0 (χ.nxs j s)
def GF(s:χ)(k:Nat):(Xn s k).length=k:=by simp[Xn]
def MO(s:χ)(k:Nat):Xn s k++[Q0 (χ.nxs k s)]=Xn s (k+1):=by simp[Xn,S7]
variable{R:Except Int (List Nm×FD)}
def QaW{n:Nat}{l:List Nm}{a:Nm}{t b:FD}(h:k<n)(e:R=XW (n-k) l t)(c:XV t=.ok (a,b)):R=XW (n-(k+1)) (l++[a]) b:=by
 rw[show n-k=(n-(k+1))+1 by omega]at e;exact e.trans (QA c)
def QaU{n:Nat}{l:List Nm}{t:FD}(h:k<n)(e:R=XW (n-k) l t)(a:XV t=.error z):R=.error z:=by
 rw[show n-k=(n-(k+1))+1 by omega]at e;exact e.trans (Xc a)
theorem QR{n:Nat}(h:decide ((k:Int)<(n:Int))=true):k<n:=by grind
theorem VZ{n:Nat}(h:decide ((k:Int)<(n:Int))=false):n<=k:=by grind
abbrev HzE(q1:Nat×Hp)(s:χ):=XV (χ.nxs q1.1 s).fd=.ok ((Q0 (χ.nxs q1.1 s)),(χ.nxs (q1.1+1) s).fd)
abbrev HzF:Nat×Hp:=(0,(none,0))
def FL(g:Nat)(M:Res)(s:χ)(xs:o3)(p:s.In M)(n:Nat)(r:n<=1000)(W:m0)(q:QV W):FxF prog W (Qh g 69 (χ.cs s xs) M) 112 #[x02 g,Θ (n:Int)] (λy:{y:Hp // (XW n []) s.fd=.ok (Xn s n,(χ.nxs n s).fd)}=>Ω y.1.1 (Xn s n).length y.1.2) (λy:{y:Hp // (XW n []) s.fd=.ok (Xn s n,(χ.nxs n s).fd)}=>Qh g 69 (χ.cs (χ.nxs n s) xs) (Qj M (Qc 32 3 Xk (Xn s n) y.1.1 y.1.2))) (Xy (XW n []) s) :=
 VC Qm QU (λa w=>call112 a w) func112 ntmps112 results112 _ rfl _ _ _ _ [.nil 2 0 32 3 Xk,x0a (HzF:Nat×Hp) (λ(q1:Nat×Hp) (u:List Hp)=>(q1.1+1,u.headD (none,0))) (λ(q1:Nat×Hp)=>((⟨16,[(0,.val (x02 g)),(5,lV q1.2.1 (Xn s q1.1).length q1.2.2),(6,iV (n:Int)),(7,iV (q1.1:Int))],[],[some (Qh g 69 (χ.cs (χ.nxs q1.1 s) xs) M),none,some (Qc 32 3 Xk (Xn s q1.1) q1.2.1 q1.2.2)]⟩:St),(q1.1<=n/\XW n [] s.fd=XW (n-q1.1) (Xn s q1.1) (χ.nxs q1.1 s).fd),(n-q1.1),[.both [x07 4 2 0 (Xy XV (χ.nxs q1.1 s)) (λ(j:PLift (HzE q1 s))=>(nA (Q0 (χ.nxs q1.1 s)),Qh g 69 (χ.cs (χ.nxs (q1.1+1) s) xs) M,[x08 4 4 2 (λ(d:Hp)=>(Ω d.1 (Xn s (q1.1+1)).length d.2,Qc 32 3 Xk (Xn s (q1.1+1)) d.1 d.2,[x05 5 0 (iV ((q1.1+1:Nat):Int)),.nxt [d]]))]))] [.join 6 0 0 2]]))] (λF=>GL (qV (x02 g)) (qV (Ω HzF.2.1 (Xn s HzF.1).length HzF.2.2)) (qI (n:Int)) (qI ((HzF.1:Nat):Int)) (Yq (Qh g 69 (χ.cs s xs) M) (Qh g 69 (χ.cs (χ.nxs HzF.1 s) xs) M) λ_ _ _ h=>h) (XR F) (Yq (Qc 32 3 Xk ([]:List Nm) none 0) (Qc 32 3 Xk (Xn s HzF.1) (HzF.2.1) (HzF.2.2)) λ_ _ _ h=>h)<|ai (show 0<=n/\XW n [] s.fd=XW (n-0) (Xn s 0) (χ.nxs 0 s).fd from⟨L7 _,rfl⟩) λ(q1:Nat×Hp) (i:(q1.1<=n/\XW n [] s.fd=XW (n-q1.1) (Xn s q1.1) (χ.nxs q1.1 s).fd))=>Xi (decide ((q1.1:Int)<(n:Int))) (λf=>ai (Af g M (χ.nxs q1.1 s) xs (p.nxs q1.1) W q)<|ai (λ(j:PLift (HzE q1 s))=>ai (YJ W 48 32 1 1 Xk (Xn s q1.1) ([Q0 (χ.nxs q1.1 s)]) (Xn s (q1.1+1)) q1.2.1 q1.2.2 ([Ξ ((Q0 (χ.nxs q1.1 s)).b),Ψ ((Q0 (χ.nxs q1.1 s)).s),Θ ((Q0 (χ.nxs q1.1 s)).e)]) ZY Xx Gn (MO s q1.1) (show(Xn s (q1.1+1)).length*32<=140737488355328 from by rw[GF];have:=QR f;omega) rfl rfl) λ(d:Hp)=>Yx (QD q1.1 (hA (QR f))) (qV (x02 g)) (qV (Ω d.1 (Xn s (q1.1+1)).length d.2)) (qI (n:Int)) (qI (((q1.1+1):Nat):Int)) (Yq (Qh g 69 (χ.cs (χ.nxs (q1.1+1) s) xs) M) (Qh g 69 (χ.cs (χ.nxs (q1.1+1) s) xs) M) λ_ _ _ h=>h) (XR F) (Yq (Qc 32 3 Xk (Xn s (q1.1+1)) d.1 d.2) (Qc 32 3 Xk (Xn s (q1.1+1)) d.1 d.2) λ_ _ _ h=>h)<|ai (show(q1.1+1<=n/\XW n [] s.fd=XW (n-(q1.1+1)) (Xn s (q1.1+1)) (χ.nxs (q1.1+1) s).fd)from⟨QR f,by have h:=QaW (QR f) i.2 j.down;rwa [MO]at h⟩) (show n-(q1.1+1)<n-q1.1 from hA (QR f))) (Yf F (Xy XV (χ.nxs q1.1 s)) (Xy (XW n []) s) λ_ h=>h.imp λ_ h=>⟨QaU (QR f) i.2 h.1,h.2⟩)) λf=>(YP F (Ω q1.2.1 (Xn s q1.1).length q1.2.2) (λy:{y:Hp // (XW n []) s.fd=.ok (Xn s n,(χ.nxs n s).fd)}=>Ω y.1.1 (Xn s n).length y.1.2) (Qj (Qh g 69 (χ.cs (χ.nxs q1.1 s) xs) M) (Qc 32 3 Xk (Xn s q1.1) q1.2.1 q1.2.2)) (λy:{y:Hp // (XW n []) s.fd=.ok (Xn s n,(χ.nxs n s).fd)}=>Qh g 69 (χ.cs (χ.nxs n s) xs) (Qj M (Qc 32 3 Xk (Xn s n) y.1.1 y.1.2))) ⟨q1.2,by have h:=i.2;rw[(show q1.1=n from Ra i.1 (VZ f)),Tp]at h;exact h⟩ (Lu (λk=>Ω q1.2.1 (Xn s k).length q1.2.2) (show q1.1=n from Ra i.1 (VZ f))) λ_ _ _ h=>by have h:=Vw Ca h;rw[(show q1.1=n from Ra i.1 (VZ f))]at h;exact h)) λF=>x5
theorem oR(y:Dyadic):nv (km y)=y:=by
 show dy (Qe (neg (dm y)) (Qa (QJ (dm y)))) (de y)=y;rw[Xp,F8]
def fN(k:Nat)(x:Nm):Prop:=∃y:Dyadic,x=km y/\DB 32768 (64768+k) y
def fN.up{x:Nm}(h:fN k x)(c:k<=j):fN j x:=by
 let⟨y,a,b⟩:=h;exact⟨y,a,UJ b (L4 _) x3⟩
theorem fN.db{x:Nm}(h:fN k x):DB 32768 (64768+k) (nv x):=by
 obtain⟨y,rfl,a⟩:=h
 grind[oR]
def fN.ok{x:Nm}(h:fN k x)(b:k<=5000):okN x:=by
 obtain⟨y,rfl,a⟩:=h;let⟨c,d,_⟩:=G8 a;have e:=Ic a;exact⟨by show(QJ (dm y)).size<=16384;omega,by show -70000<=de y;omega,by show de y<=70000;omega⟩
def fN.nd{x:Nm}(h:fN k x)(c:k<=5000):ND x.b x.s x.e (nv x):=by
 obtain⟨y,rfl,a⟩:=h;rw[oR];exact WC a x3
def fN.form{x:Nm}(h:fN k x):km (nv x)=x:=by
 obtain⟨y,rfl,a⟩:=h;rw[oR]
def fN.add{m:Nat}{x y:Nm}(a:fN k x)(b:fN j y)(c:k<m)(d:j<m):fN m (km (nv x+nv y)) :=
 ⟨_,rfl,UJ (zw (UJ (T':=64768+(m-1)) a.db (L4 _) x3) (UJ (T':=64768+(m-1)) b.db (L4 _) x3)) (L4 _) x3⟩
def fT(n k:Nat)(t:Tm):Prop:=t.m.size=n/\fN k t.c
def fT.up{n:Nat}{t:Tm}(h:fT n k t)(a:k<=j):fT n j t:=⟨h.1,h.2.up a⟩
def P6{n k j m:Nat}(l:k<m)(o:j<m):∀(f:Nat) (a b:List Tm),(∀t,t∈a->fT n k t)->(∀t,t∈b->fT n j t)->∀t,t∈VS f a b->fT n m t
 |0,a,b,d,e,t,c=>by
  rcases Lo.1 c with h|h
  ·exact(d t h).up x3
  ·exact(e t h).up x3
 |f+1,[],b,_,e,t,c=>(e t c).up x3
 |f+1,x::a,[],d,_,t,c=>(d t c).up x3
 |f+1,x::a,y::b,d,e,t,c=>by
  have g:∀t,t∈a->fT n k t:=λt h=>d t (by simp[h])
  have i:∀t,t∈b->fT n j t:=λt h=>e t (by simp[h])
  unfold VS at c;cases p:By x.m y.m with
  |true =>
   rw[p]at c;rcases Lb.1 c with rfl|c
   ·exact(d t x6).up x3
   ·exact P6 l o f a (y::b) g e t c
  |false =>
   cases c2:By y.m x.m with
   |true =>
    rw[p,c2]at c;rcases Lb.1 c with rfl|c
    ·exact(e t x6).up x3
    ·exact P6 l o f (x::a) b d i t c
   |false =>
    rw[p,c2]at c;rcases Lb.1 c with rfl|c
    ·exact⟨(d x x6).1,(d x x6).2.add (e y x6).2 l o⟩
    ·exact P6 l o f a b g i t c
theorem P7:∀(f:Nat) (a b:List Tm),(VS f a b).length<=a.length+b.length
 |0,a,b=>by simp[VS]
 |f+1,[],b=>by simp[VS]
 |f+1,x::a,[]=>by simp[VS]
 |f+1,x::a,y::b=>by
  unfold VS;have c:=P7 f a (y::b);have d:=P7 f (x::a) b;have e:=P7 f a b
  grind
variable{f:Nat}
theorem QaE{a b:List Tm}(h:a=[]\/b=[]):VS f a b=a++b:=by
 cases f with
 |zero=>rfl
 |succ f =>
  cases a with
  |nil=>rfl
  |cons x a =>
   cases b with
   |nil=>simp[VS]
   |cons y b=>exact h.elim (λh=>nomatch h) λh=>nomatch h
theorem GY:∀(f:Nat) (l:List Tm),(Zo f l).length<=l.length
 |0,_=>L4 _
 |f+1,l=>by
  unfold Zo;split
  ·exact L4 _
  ·have a:=GY f (l.take (l.length / 2));have b:=GY f (l.drop (l.length / 2))
   grind[P7]
def An{n:Nat}:∀(f:Nat) (l:List Tm),(∀t,t∈l->fT n 0 t)->∀t,t∈Zo f l->fT n l.length t
 |0,_,h,t,a=>(h t a).up (L7 _)
 |f+1,l,h,t,a=>by
  unfold Zo at a;split at a
  ·exact(h t a).up (L7 _)
  ·have b:=An f (l.take (l.length / 2)) λt a=>h t (U5 a)
   have c:=An f (l.drop (l.length / 2)) λt a=>h t (To a)
   rw[Ll]at b;rw[Lf]at c;exact P6 x3 x3 _ _ _ b c t a
theorem Cb:∀(f g:Nat) (l:List Tm),l.length<=f->l.length<=g->Zo f l=Zo g l
 |0,0,_,_,_=>rfl
 |0,g+1,l,h,_=>by
  grind[Zo]
 |f+1,0,l,_,h=>by
  unfold Zo;rw[if_pos x3]
 |f+1,g+1,l,a,b=>by
  unfold Zo;split
  ·rfl
  ·rw[Cb f g _ (by rw[Ll];omega) (by rw[Ll];omega),Cb f g _ (by rw[Lf];omega) (by rw[Lf];omega)]
def YE(l:List Tm):List Tm:=Zo l.length l
theorem wL{l:List Tm}(h:¬ l.length<2):YE l=VS l.length (YE (l.take (l.length / 2))) (YE (l.drop (l.length / 2))):=by
 unfold YE;obtain⟨n,a⟩:∃n,l.length=n+1:=⟨l.length-1,x3⟩
 grind[Zo,Cb]
def EX{l:List Tm}(h:l.length<2):YE l=l:=by
 unfold YE;cases a:l.length with
 |zero=>rfl
 |succ n=>rw[Zo,if_pos h]
def AE{n:Nat}{l:List Tm}(h:∀t,t∈l->fT n 0 t):∀t,t∈Xj l->fT n l.length t:=λt a=>An _ _ h t (Tn.1 a).1
variable{vars:Int}
theorem uH{n:Nat}{l:List Tm}(e:l.length<=4000)(f:n<=1000)(h:∀t,t∈l->fT n 0 t):okP (Xe vars l).1:=by
 unfold Xe;cases !(decide (0<=vars)&&decide (vars<=12))||l.any (λt=>!ZN t.m vars)
 ·cases decide ((l.length:Int)>65536)||decide (((Xj l).length:Int)>4096)
  ·refine⟨?_,λt b=>?_⟩
   ·show((Xj l).map X4).length<=_
    grind[Xj,GY]
   ·obtain⟨u,d,rfl⟩:=Lv.1 (show t∈(Xj l).map X4 from b);have a:=AE h u d;refine⟨by show u.m.size<=_;rw[a.1];omega,?_⟩;show okN (km (nv u.c));rw[a.2.form];exact a.2.ok x3
  ·exact⟨L7 _,λ_ h=>nomatch h⟩
 ·exact⟨L7 _,λ_ h=>nomatch h⟩
def gp:∀a b:List UInt8,(!Op.bytesLess a b&&!a==b)=Op.bytesLess b a
 |[],[]=>rfl
 |[],_::_=>rfl
 |_::_,[]=>rfl
 |x::a,y::b=>by
  have h:=gp a b;unfold Op.bytesLess;by_cases c:x<y
  ·have d:¬ y<x:=UInt8.lt_asymm c;have f:¬ x=y:=λe=>by subst e;exact UInt8.lt_irrefl _ c
   have g:¬ y=x:=λe=>f e.symm
   simp[c,d,g]
  ·by_cases d:y<x
   ·have f:¬ x=y:=λe=>by subst e;exact UInt8.lt_irrefl _ d
    simp[c,d,f]
   ·have f:x=y:=UInt8.le_antisymm (UInt8.not_lt.1 d) (UInt8.not_lt.1 c);subst f;simpa [c]using h
def wN(W:World)(x y:Operand)(a b:ByteArray):Qp prog W (do eqGuard .gtr 9 x y (.string a) (.string b);binOp .gtr 9 (.string a) (.string b)) (.bool (By b a)):=λc _=>by
 simp[go_sem,By,gp]
def Vc(x y:Tm):Int:=bif By x.m y.m then -1 else bif By y.m x.m then 1 else 0
def Yl(x y:Tm):Tm:=⟨x.m,km (nv x.c+nv y.c)⟩
def QbJ(x y:Tm)(w:m0):RetAt prog w 214 #[.agg #[Ψ x.m,Ξ x.c.b,Ψ x.c.s,Θ x.c.e],.agg #[Ψ y.m,Ξ y.c.b,Ψ y.c.s,Θ y.c.e]] (Θ (Vc x y)) :=
 rk [x03 1 4 (Ξ (By x.m y.m)),.both [] [x03 3 4 (Ξ (By y.m x.m)),.both [] []]] λW f g=>ai (wP W (.tmp 7) (.tmp 9) x.m y.m)<|Xi (By x.m y.m) (λa=>(show(Θ (-1):y9)=Θ (Vc x y)from Lu (Value.int .i64) (by unfold Vc;rw[a];rfl))) λa=>ai (wN W (.tmp 13) (.tmp 15) x.m y.m)<|Xi (By y.m x.m) (λd=>(show(Θ 1:y9)=Θ (Vc x y)from Lu (Value.int .i64) (by unfold Vc;rw[a,d];rfl))) λd=>(show(Θ 0:y9)=Θ (Vc x y)from Lu (Value.int .i64) (by unfold Vc;rw[a,d];rfl))
def yT{x y:Tm}(d:k<=5000)(f:fN k x.c)(i:fN k y.c)(w:m0)(a:QV w):RetAt prog w 215 #[.agg #[Ψ x.m,Ξ x.c.b,Ψ x.c.s,Θ x.c.e],.agg #[Ψ y.m,Ξ y.c.b,Ψ y.c.s,Θ y.c.e]] (.agg #[Ψ ((Yl x y).m),Ξ ((Yl x y).c.b),Ψ ((Yl x y).c.s),Θ ((Yl x y).c.e)]) :=
 rk [.reg 9 [],x04 1 7 (.agg [bV (neg (dm (nv x.c+nv y.c))),sV (QJ (dm (nv x.c+nv y.c))),iV (de (nv x.c+nv y.c))])] λW j l=>(λ(a:QV W)=>ai (rg1 a call173 λW g h n=>lA (f.nd d) (i.nd d) f.db x3 h n)<|l) (Ql a j)
variable{g:Nat}
def uG{t:Tm}(i:t.m.size<=1000)(w:m0)(a:Bx w g 3 #[Θ vars]):RetAt prog w 156 #[.agg #[Ψ t.m,Ξ t.c.b,Ψ t.c.s,Θ t.c.e],x02 g] (Ξ (!ZN t.m vars)) :=
 rk [x03 1 2 (Θ vars),x04 1 3 (bV (ZN t.m vars))] λW d f=>have h:=a.later d;X0 (Ze _ 0 h rfl) (yn (m:=t.m) vars x3 W)<|f
abbrev HzG(g:Nat):y9:=.func (.func 156) #[] #[.pointer (some ⟨g,0,none⟩)]
def uW{A:m3}{c:Nat}{l:List Tm}(y:l.length<=4294967296)(r:∀t,t∈l->t.m.size<=1000)(w:m0)(u:Bx w g 3 #[Θ vars])(v:RdK w A l.length 4 (λj=>QK (Qb l j))):RetAt prog w 211 #[Ω A l.length c,.func (.func 156) #[] #[x02 g]] (Θ (ZX l.length λj=>!(ZN (Qb l j).m vars))) :=
 rk [P5 (λ(k:Nat)=>(⟨19,[(0,lV A l.length c),(1,.val (HzG g)),(4,iV 0),(6,lV A l.length c),(7,iV (l.length:Int)),(8,iV (k:Int))],[],[]⟩:St)) l.length (λj=>!(ZN (Qb l j).m vars)) (λ(k:Nat)=>[.both [x03 4 3 (.pointer (some (Q5 A (k*4+0)))),x03 4 4 (.agg #[Ψ ((Qb l k).m),Ξ ((Qb l k).c.b),Ψ ((Qb l k).c.s),Θ ((Qb l k).c.e)]),x04 4 5 (bV (!(ZN (Qb l k).m vars))),.both [] [x05 6 0 (iV ((k+1:Nat):Int)),.next 0]] []])] λW p z=>have x:=u.later p;have q:=v.up p (λ_=>rfl);Vv (qV (Ω A l.length c)) (qV (HzG g)) (qI 0) (qV (Ω A l.length c)) (qI (l.length:Int)) (qI ((0:Nat):Int))<|ai (c0 l.length (λj=>!(ZN (Qb l j).m vars))) λ(k:Nat) (d:cQ l.length (λj=>!(ZN (Qb l j).m vars)) k)=>Xi (decide ((k:Int)<(l.length:Int))) (λa=>Ja (Y0 c q k (Qt a)) (ZE q k 0 (Qt a) x4 rfl rfl) (uG (r _ (Yh (Qt a))) W x)<|Xi (!(ZN (Qb l k).m vars)) (λh=>(show(Θ (k:Int):y9)=(Θ (ZX l.length λj=>!(ZN (Qb l j).m vars)))from Lu (Value.int .i64) (VD (λj=>!(ZN (Qb l j).m vars)) d.2 (Qt a) h).symm)) λh=>GL (QD k (hA (L0 a))) (qV (Ω A l.length c)) (qV (HzG g)) (qI 0) (qV (Ω A l.length c)) (qI (l.length:Int)) (qI (((k+1):Nat):Int))<|ai (cS d (Qt a) h) (Oe (Qt a))) λa=>(show(Θ (-1):y9)=(Θ (ZX l.length λj=>!(ZN (Qb l j).m vars)))from Lu (Value.int .i64) (Gg (λj=>!(ZN (Qb l j).m vars)) λj B=>d.2 j (hA (L1 a))).symm)
def uV(vars:Int)(A:m3)(c:Nat)(l:List Tm)(b:l.length<=4294967296)(d:∀t,t∈l->t.m.size<=1000)(w:m0)(e:Bx w g 3 #[Θ vars])(f:RdK w A l.length 4 (λj=>QK (Qb l j))):RetAt prog w 155 #[Ω A l.length c,.func (.func 156) #[] #[x02 g]] (Ξ (XQ l.length λj=>!(ZN (Qb l j).m vars))) :=
 rk [x04 1 2 (iV (ZX l.length λj=>!(ZN (Qb l j).m vars)))] λW a k=>have h:=e.later a;have i:=f.up a (λ_=>rfl);ai (uW (c:=c) b d W h i)<|(show(Ξ (decide ((ZX l.length λj=>!(ZN (Qb l j).m vars))>=0)):y9)=Ξ (XQ l.length λj=>!(ZN (Qb l j).m vars))from Lu Ξ (DG l.length λj=>!(ZN (Qb l j).m vars)))
def UD(t:Tm)(w:m0):RetAt prog w 216 #[.agg #[Ψ t.m,Ξ t.c.b,Ψ t.c.s,Θ t.c.e]] (Ξ ((sg t.c)==0)) :=
 rk [x04 1 2 (iV (sg t.c))] λW d a=>ai (rc W call58 λW=>GB t.c.s t.c.b t.c.e W)<|a
abbrev HzH:y9:=.func (.func 216) #[] #[]
def oM{A:m3}{c:Nat}{l:List Tm}(r:l.length<=4294967296)(w:m0)(p:RdK w A l.length 4 (λj=>QK (Qb l j))):RetAt prog w 211 #[Ω A l.length c,.func (.func 216) #[] #[]] (Θ (ZX l.length λj=>(sg (Qb l j).c)==0)) :=
 rk [P5 (λ(k:Nat)=>(⟨19,[(0,lV A l.length c),(1,.val HzH),(4,iV 0),(6,lV A l.length c),(7,iV (l.length:Int)),(8,iV (k:Int))],[],[]⟩:St)) l.length (λj=>(sg (Qb l j).c)==0) (λ(k:Nat)=>[.both [x03 4 3 (.pointer (some (Q5 A (k*4+0)))),x03 4 4 (.agg #[Ψ ((Qb l k).m),Ξ ((Qb l k).c.b),Ψ ((Qb l k).c.s),Θ ((Qb l k).c.e)]),x04 4 5 (bV ((sg (Qb l k).c)==0)),.both [] [x05 6 0 (iV ((k+1:Nat):Int)),.next 0]] []])] λW q t=>have h:=p.up q (λ_=>rfl);Vv (qV (Ω A l.length c)) (qV HzH) (qI 0) (qV (Ω A l.length c)) (qI (l.length:Int)) (qI ((0:Nat):Int))<|ai (c0 l.length (λj=>(sg (Qb l j).c)==0)) λ(k:Nat) (d:cQ l.length (λj=>(sg (Qb l j).c)==0) k)=>Xi (decide ((k:Int)<(l.length:Int))) (λa=>Ja (Y0 c h k (Qt a)) (ZE h k 0 (Qt a) x4 rfl rfl) (UD (Qb l k) W)<|Xi ((sg (Qb l k).c)==0) (λg=>(show(Θ (k:Int):y9)=(Θ (ZX l.length λj=>(sg (Qb l j).c)==0))from Lu (Value.int .i64) (VD (λj=>(sg (Qb l j).c)==0) d.2 (Qt a) g).symm)) λg=>GL (QD k (hA (L0 a))) (qV (Ω A l.length c)) (qV HzH) (qI 0) (qV (Ω A l.length c)) (qI (l.length:Int)) (qI (((k+1):Nat):Int))<|ai (cS d (Qt a) g) (Oe (Qt a))) λa=>(show(Θ (-1):y9)=(Θ (ZX l.length λj=>(sg (Qb l j).c)==0))from Lu (Value.int .i64) (Gg (λj=>(sg (Qb l j).c)==0) λj u=>d.2 j (hA (L1 a))).symm)
def Rw(w:m0)(k:Nat)(c:α->o3)(d:α)(l:List α)(A:m3)(a:Nat):Prop:=RdK w A l.length k (λj=>c (l.getD j d))/\(A=none->l.length=0/\a=0)
variable{b:Nat}
def Rw.below{a:m0}{c:α->o3}{d:α}{l:List α}{A:m3}(e:∀x,(c x).length=k)(h:Rw w k c d l A b)(f:Below w.heap.size w a):Rw a k c d l A b:=⟨h.1.below (λ_=>e _) f,h.2⟩
def tN(P:z4){t e:o0}{x y:x0h}{A:m3}{n c:Nat}(h:P.underlying t=some (.slice e))(W:m0):Qp P W (do eqGuard .eql t x y (.slice A n c) (.slice none 0 0);binOp .eql t (.slice A n c) (.slice none 0 0):Sem y9) (.bool (decide (A=none))):=λw _=>by
 have a:(eqGuard .eql t x y (.slice A n c) (.slice none 0 0)).run P w=.ok () w:=by
  unfold eqGuard;cases A<;>rfl
 rw[c7,a,c8];have b:(Op.equal t (.slice A n c) (.slice none 0 0)).run P w=.ok (decide (A=none)) w:=by
  unfold Op.equal;rw[show Op.maxDepth=9999+1 from rfl];unfold Op.equalIn;cases A<;>(rw[c7,Yn h,c8];rfl)
 have d:binOp .eql t (.slice A n c) (.slice none 0 0)=(do pure (.bool (<- Op.equal t (.slice A n c) (.slice none 0 0))):Sem y9):=rfl;simp[d,b]
def UE{A:m3}{l:List Tm}(q:l.length<=1048576)(w:m0)(m:Rw w 4 QK Bp l A f):NewIn prog w [] 158 #[Ω A l.length f] (λ(y:Hp)=>Ω y.1 l.length y.2) (λ(y:Hp)=>Qc 56 4 QK l y.1 y.2) :=
 Bf Hp Qm QU (λa w=>call158 a w) func158 ntmps158 results158 _ rfl 0 _ _ [x03 1 1 (Ξ (decide (A=none))),.both [.nil 2 0 56 4 (QK:Tm->o3)] [.row 3 1 0 [5] 56 4 QK ([]:List Tm) (λ(i:Hp)=>[x08 3 2 0 (λ(b:Hp)=>(Ω b.1 (l).length b.2,Qc 56 4 QK l b.1 b.2,[]))])]] (λW p=>have g:=m.below Q4 p;ai (tN prog (A:=A) (n:=l.length) (c:=f) (t:=50) (e:=56) (x:=(.tmp 3)) (y:=(.const (x01))) x5 W)<|Xi (decide (A=none)) (λj=>(show ∃y:Hp,SV.val (x01)=SV.val ((λ(y:Hp)=>Ω y.1 l.length y.2) y)/\∀(x:y9) (S:Nat->Prop) (w:m0),(Qc 56 4 QK ([]:List Tm) none 0).φ x S w->((λ(y:Hp)=>Qc 56 4 QK l y.1 y.2) y).φ x S w from⟨((none,0):Hp),(by rw[(show l=[]from Ry (g.2 (L0 j)).1)];rfl),λx S w h=>(by rw[(show l=[]from Ry (g.2 (L0 j)).1)];exact h)⟩)) λj=>ai (show([]:o3)=List.flatMap QK ([]:List Tm)from rfl)<|ai (p0 Q4 (show(([]:List Tm)).length<=maxLen from(L7 _))) λ(i:Hp)=>ai (Gf W 50 QK ([]:List Tm) l l i.1 i.2 (Ω A l.length f) XN Q4 K2 (List.nil_append l) (show l.length*48<=140737488355328 from x3) (λr k=>GM Q4 x4 (d:=Bp) (g.below Q4 k).1 g.2)) λ(b:Hp)=>(show ∃y:Hp,SV.val (Ω b.1 (l).length b.2)=SV.val ((λ(y:Hp)=>Ω y.1 l.length y.2) y)/\∀(x:y9) (S:Nat->Prop) (w:m0),(Qc 56 4 QK l b.1 b.2).φ x S w->((λ(y:Hp)=>Qc 56 4 QK l y.1 y.2) y).φ x S w from⟨b,rfl,λx S w h=>h⟩)) λW=>x5
theorem sk{bt:o0}(b:Bx w g bt (a.map Value.string).toArray)(j:Nat)(c:j<a.length):w.cell? ⟨g,0+j,none⟩=some (.string (a.getD j ByteArray.empty)):=by
 rw[Lm,Bx.cel b]
 grind
theorem QfK(W:m0)(F:Res){bt:o0}{b:List m1}(x:m1){n:Nat}(c:Nat)(f:n<=b.length)(j:n<=100)(h:∀(y:y9) (S:Nat->Prop) (w:m0),F.φ y S w->Bx w g bt (b.map Value.string).toArray):
  Cv prog W [F] 109 #[.slice (some ⟨g,0,none⟩) n c,.string x] (.int .i64 (Lib.idxOfS (b.take n) x)):=⟨λa w=>call109 a w,λd _ y S i=>by
 refine(Tryz.slices_Index_string g 0 n c b x d f x3 (sk (h y S d i))).mono λe k l=>?_
 grind[p5]⟩
abbrev HzI(zs:List m1)(n:Nat)(s:χ):=Lib.idxOfS (zs.take n) (Qg s.ln.l 0).s
abbrev HzJ(s:χ):=X5 s.ln.fd=.ok ((Qg s.ln.l 0),s.ln.nx.fd)
abbrev HzK(s:χ):y9:=.int .i64 ((Qg s.ln.l 0).a)
abbrev HzL(s:χ)(xs:o3):o3:=.slice s.A0 s.ls.length s.c0::.slice (s.Al 0) (Xv s.ls 0).l.length (s.cl 0)::.int .i64 ((Xv s.ls 0).e)::.int .i64 s.en::xs
abbrev HzM(s:χ):o3:=[.slice (s.Al 0) (Xv s.ls 0).l.length (s.cl 0),.int .i64 ((Xv s.ls 0).e)]
abbrev HzN(zs:List m1)(n:Nat)(s:χ):=(Qv (zs.take n)) s.fd=.ok ((HzI zs n s),s.ln.nx.fd)
abbrev HzO(s:χ):=XF s.fd=.ok ((),s.fd)
abbrev HzP(s:χ):y9:=.slice s.A0 s.ls.length s.c0
abbrev HzQ(s:χ):o3:=[.slice (CX s.A0 s.c0 2) (s.ls.drop 1).length (s.c0-1)]
def Bb(g:Nat)(M:Res)(s:χ)(xs:o3)(p:s.In M)(bt:o0)(zs:List m1)(n c:Nat)(D:n<=zs.length)(E:n<=100)(W:m0):Xt prog 71/\∀d,Below W.heap.size W d->∀x S,(∀b,S b->W.heap.size<=b/\b<d.heap.size)->(Qh g 69 (s.cs xs) M).φ x S d->∀j,Bx d j bt (zs.map Value.string).toArray->W.heap.size<=j->¬ S j->Calls prog 71 #[x02 g,Ω (some ⟨j,0,none⟩) n c] d (Kk W (λ_:PLift ((Qv (zs.take n)) s.fd=.ok ((Lib.idxOfS (zs.take n) (Qg s.ln.l 0).s),s.ln.nx.fd))=>Θ (Lib.idxOfS (zs.take n) (Qg s.ln.l 0).s)) (λ_:PLift ((Qv (zs.take n)) s.fd=.ok ((Lib.idxOfS (zs.take n) (Qg s.ln.l 0).s),s.ln.nx.fd))=>Qh g 69 (χ.cs s.ln.nx xs) M) (Xy (Qv (zs.take n)) s) x S d) :=
 Qac (β:=PLift (HzN zs n s)) Qm QU (λa w=>call71 a w) func71 ntmps71 results71 (λj=>[x02 g,Ω (some ⟨j,0,none⟩) n c]) (λ_=>rfl) bt _ _ _ _ _ (λj=>[x07 1 1 0 (Xy XF s) (λ(k:PLift (HzO s))=>(.tuple #[],Qh g 69 (χ.cs s xs) M,[.reg 10 [],x06 2 3 [0] (HzP s),x06 2 9 [0] (Θ s.en),.inl 2 10 f73,.both [x03 1 1 (.iface 103 (Θ s.en))] [.reg 15 [1,12],x06 3 5 [0] (HzP s),x06 3 6 [0] (.pointer (some (Q5 s.A0 (0*2+0)))),x06 3 7 [0] (.agg #[Ω (s.Al 0) (Xv s.ls 0).l.length (s.cl 0),Θ ((Xv s.ls 0).e)]),x06 3 11 [0] (HzP s),x03 3 12 (Ω (CX s.A0 s.c0 2) (s.ls.drop 1).length (s.c0-1)),x08 3 15 0 (λ(y:Unit)=>(undef,Qh g 69 (HzL s xs) M,[x08 3 18 0 (λ(z:Unit)=>(undef,Qh g 69 (Ω (CX s.A0 s.c0 2) (s.ls.drop 1).length (s.c0-1)::Ω (s.Al 0) (Xv s.ls 0).l.length (s.cl 0)::Θ ((Xv s.ls 0).e)::Θ s.en::xs) M,[x07 4 1 0 (Xy X5 s.ln) (λ(q:PLift (HzJ s))=>(.agg #[Ψ ((Qg s.ln.l 0).s),Θ ((Qg s.ln.l 0).a)],Qh g 69 (χ.cs s.ln.nx xs) M,[.o 5 3 (.retr [1] (Θ (HzI zs n s))),.gb 6 3 [x03 6 5 (Ξ (!decide (((Qg s.ln.l 0).s)=⟨#[]⟩))),.inl 6 9 f73,.both [x03 1 1 (.iface 103 (HzK s))] []] [.inl 6 9 f73,x03 1 1 (.iface 103 (HzK s))]]))]))]))]]))]) (λj F G=>ai (Pv g M s xs p W)<|ai (λ(k:PLift (HzO s))=>Ky (Q2 (w0:=W) (g:=g) (t:=69) (cs:=(χ.cs s xs)) (M:=M) (λd m=>Ym d 0 m rfl)) (Q2 (w0:=W) (g:=g) (t:=69) (cs:=(χ.cs s xs)) (M:=M) (λd m=>Ze d 3 m rfl)) func73 (λa w=>call73 a w)<|Xi (!(decide ((s.ls.length:Int)>0))) (λf=>ai (KT W (Θ s.en))<|(KP F (.iface 103 (Θ s.en)) (Xy (Qv (zs.take n)) s) (show Xy (Qv (zs.take n)) s (.iface 103 (Θ s.en))from⟨_,(QA k.down).trans (Xc (Qa1 f)),rfl⟩))) λf=>KJ (Q2 (w0:=W) (g:=g) (t:=69) (cs:=(χ.cs s xs)) (M:=M) (λd m=>Ym d 0 m rfl)) (YB W g 69 (χ.cs s xs) M (λd x S A=>have B:=p.ok x S d A;KQ d s.c0 B.r0 0 (Di f))) (YB W g 69 (χ.cs s xs) M (λd x S A=>have B:=p.ok x S d A;NK (w0:=d) (i:=0) (o:=0) B.r0 (Di f) x4 rfl rfl)) (Q2 (w0:=W) (g:=g) (t:=69) (cs:=(χ.cs s xs)) (M:=M) (λd m=>Ym d 0 m rfl)) (Qau (Di f) p.ca (p.na (Di f)))<|ai (YN W prog g 69 (χ.cs s xs) M 65 (HzM s) 1 (.agg #[Ω (s.Al 0) (Xv s.ls 0).l.length (s.cl 0),Θ ((Xv s.ls 0).e)]) (Qm 65 _ rfl) rfl rfl (L8 rfl) (Lg.1 (rfl:((HzM s):o3).all (λu=>u.oneCell')=true))) λ(y:Unit)=>ai (YN W prog g 69 (HzL s xs) M 61 (HzQ s) 0 (Ω (CX s.A0 s.c0 2) (s.ls.drop 1).length (s.c0-1)) (Qm 61 _ rfl) rfl rfl (L8 rfl) (Lg.1 (rfl:((HzQ s):o3).all (λu=>u.oneCell')=true))) λ(z:Unit)=>ai (dF g M s.ln xs (p.ln (Di f)) W)<|ai (λ(q:PLift (HzJ s))=>ai (QfK W F (Qg s.ln.l 0).s c D E G)<|ZD (decide ((Lib.idxOfS (zs.take n) (Qg s.ln.l 0).s)>=0)) true (λr=>Ja (wR W (.tmp 47) (.const (x00)) ((Qg s.ln.l 0).s) ⟨#[]⟩) func73 (λa w=>call73 a w)<|Xi (!(!decide (((Qg s.ln.l 0).s)=⟨#[]⟩))) (λC=>ai (KT W (HzK s))<|(KP F (.iface 103 (HzK s)) (Xy (Qv (zs.take n)) s) (show Xy (Qv (zs.take n)) s (.iface 103 (Θ ((Qg s.ln.l 0).a)))from⟨_,(QA k.down).trans ((QA (RG f)).trans ((QA q.down).trans (Xc (EA (by rw[r,nt C];rfl))))),rfl⟩))) λC=>(YP F (Θ (HzI zs n s)) (λ_:PLift (HzN zs n s)=>Θ (HzI zs n s)) (Qh g 69 (χ.cs s.ln.nx xs) M) (λ_:PLift (HzN zs n s)=>Qh g 69 (χ.cs s.ln.nx xs) M) ⟨(QA k.down).trans ((QA (RG f)).trans ((QA q.down).trans (QA (EB (by rw[r,nf C];rfl)))))⟩ rfl λ_ _ _ h=>h)) λr=>Ja func73 (λa w=>call73 a w) (KT W (HzK s))<|(KP F (.iface 103 (HzK s)) (Xy (Qv (zs.take n)) s) (show Xy (Qv (zs.take n)) s (.iface 103 (Θ ((Qg s.ln.l 0).a)))from⟨_,(QA k.down).trans ((QA (RG f)).trans ((QA q.down).trans (Xc (EA (by rw[r];rfl))))),rfl⟩))) (Yf F (Xy X5 s.ln) (Xy (Qv (zs.take n)) s) λ_ h=>h.imp λ_ h=>⟨(QA k.down).trans ((QA (RG f)).trans (Xc h.1)),h.2⟩)) (Yf F (Xy XF s) (Xy (Qv (zs.take n)) s) λ_ h=>h.imp λ_ h=>⟨Xc h.1,h.2⟩)) λj F=>x5
structure LnY where
 pre:List (List UInt8)
 t:ByteArray
 A:Option Addr
 c:Nat
def LnY.n(y:LnY):Nat:=(Qo y.pre 0).length
def LnY.at(y:LnY):Int:=((y.pre.map λl=>l.length+1).sum:Nat)
def nlB:m1:=⟨#[10]⟩
def Jm(y:LnY):List (Option (o0×List SV)):=[some (61,[lV y.A y.n y.c]),some (3,[iV y.at]),some (9,[sV y.t]),some (9,[sV nlB]),some (3,[iV 0])]
def VF(L:List Ln):LP:=Da 102 2 G5 (λ_=>[]) (λj=>(Xv L j).l) λj=>[.int .i64 (Xv L j).e]
def Jn(L:List Ln)(y:LnY):List (Option Res):=[some (Qx 65 2 y.n (VF L) y.A y.c)]
section
variable{s:List UInt8}{y:LnY}{x:List UInt8}{r:List (List UInt8)}(h:Qi s=y.pre++x::r)
include h
theorem Gk:0<=y.at/\y.at+(x.length:Int)<=s.length:=by
 grind[O0,LnY.at]
theorem uu:Qo (Qi s) 0=Qo y.pre 0++Qo (x::r) y.at:=by
 rw[h,Fz,Int.zero_add];rfl
theorem gq(a:VE (YI x y.at)=true):Xv (Qo (Qi s) 0) y.n=⟨YI x y.at,y.at+(x.length:Int)⟩:=by
 grind[uu,Qo,Xv,LnY.n]
end
theorem OA(y:LnY)(x:List UInt8)(t:m1)(A:m3)(c:Nat):LnY.n ⟨y.pre++[x],t,A,c⟩=bif VE (YI x y.at)then y.n+1 else y.n:=by
 unfold LnY.n;rw[Fz,Int.zero_add,show((((y.pre.map λl=>l.length+1).sum:Nat)):Int)=y.at from rfl]
 grind[Qo]
def dq(y:LnY)(x:List UInt8)(t:m1)(A:m3)(c:Nat):LnY.at ⟨y.pre++[x],t,A,c⟩=y.at+((x.length:Int)+1):=by
 simp[LnY.at]
theorem P0{l:List Tk}(a:decide ((l.length:Int)>0)=true)(b:((bt (Qg l 0).s 0:Int) != 35)=true):VE l=true:=by grind[VE]
theorem nL{l:List Tk}(a:decide ((l.length:Int)>0)=true)(b:((bt (Qg l 0).s 0:Int) != 35)=false):VE l=false:=by grind[VE]
theorem nK{l:List Tk}(a:decide ((l.length:Int)>0)=false):VE l=false:=by grind[VE]
theorem wY{x:List UInt8}{a:Int}(b:decide (((YI x a).length:Int)>0)=true):0<(Qg (YI x a) 0).s.size:=by
 grind[Rr,ri]
def Qdn{x:List UInt8}(y:LnY)(R:Res)(W:m0):XE prog tt (Kj prog tt W) (5,2) W (yB (K7 3 f15)) ((mS Jm (Jn (Qo (Qi s) 0)) 39 [(3,.ptr 0 0),(4,.ptr 1 0)] R y).push (some 9) (sV (⟨x.toArray⟩:m1))) [] (λe σ _=>Jf e (Yb σ (mS Jm (Jn (Qo (Qi s) 0)) 39 [(3,.ptr 0 0),(4,.ptr 1 0),(5,sV (⟨x.toArray⟩:m1))] R y) True)) :=
 XG (Yx (qS (⟨x.toArray⟩:m1)) (qk (some (61,[lV y.A y.n y.c]))) (qk (some (3,[iV y.at]))) (qk (some (9,[sV y.t]))) (qk (some (9,[sV nlB]))) (qk (some (3,[iV 0]))) (XR (Qx 65 2 y.n (VF (Qo (Qi s) 0)) y.A y.c)) (XR R)<|trivial) x5
variable{r:List (List UInt8)}
theorem uv{y:LnY}{x:List UInt8}(h:Qi s=y.pre++x::r):y.n<=s.length:=by
 have b:=(Mz y.pre 0 (n:=s.length) λl a=>(EV s).2 l (by rw[h];simp[a])).1
 grind[EV,LnY.n]
def Qbz:RowT prog 61 61 65 2 32:=⟨x5,⟨65,x5⟩,x5,x4,x4⟩
def Qdo{x:List UInt8}(I:s.length<=65536)(y:LnY)(h:Qi s=y.pre++x::r)(R:Res)(W:m0):XE prog tt (Kj prog tt W) (5,2) W (yC (K7 3 f15)) (mS Jm (Jn (Qo (Qi s) 0)) 39 [(3,.ptr 0 0),(4,.ptr 1 0),(5,sV (⟨x.toArray⟩:m1))] R y) [x09 5 2 [] (λ(d:Hp)=>(Ω d.1 (YI x y.at).length d.2,Qc 102 2 G5 (YI x y.at) d.1 d.2,[.gb 6 4 [x06 6 5 [2] (.pointer (some (Q5 d.1 (0*2+0)))),x06 6 7 [2] (Ψ (((List.getD (YI x y.at) 0 Ub)).s)),x03 6 8 (.int .u8 (bt (Qg (YI x y.at) 0).s 0:Int)),.both [x05 7 5 (iV (y.at+(x.length:Int))),.join 7 8 0 2,x08 7 8 0 (λ(f:Hp)=>(Ω f.1 (y.n+1) f.2,Qx 65 2 (y.n+1) (VF (Qo (Qi s) 0)) f.1 f.2,[x05 8 3 (iV ((x.length:Int)+1)),x05 8 4 (iV (LnY.at (⟨y.pre++[x],y.t,none,0⟩:LnY)))]))] [x05 8 3 (iV ((x.length:Int)+1)),x05 8 4 (iV (LnY.at (⟨y.pre++[x],y.t,none,0⟩:LnY)))]] [x05 8 3 (iV ((x.length:Int)+1)),x05 8 4 (iV (LnY.at (⟨y.pre++[x],y.t,none,0⟩:LnY)))]]))] (λe σ _=>Jf e (∃b,(b.pre=y.pre++[x]/\b.t=y.t)/\Yb σ (mS Jm (Jn (Qo (Qi s) 0)) 39 [(3,.ptr 0 0),(4,.ptr 1 0)] R b) True)) :=
 let C:OB:=some (3,[iV (LnY.at (⟨y.pre++[x],y.t,none,0⟩:LnY))]);let Z1:OB:=some (9,[sV y.t]);let Z2:OB:=some (9,[sV nlB]);let B:OB:=some (3,[iV 0]);let F:OB:=some (61,[lV y.A y.n y.c]);XG (ai (rp (s:=(⟨x.toArray⟩:m1)) (a:=y.at) (show x.length<=65536 by have:=Gk h;omega) (hA (Gk h)) W) λ(d:Hp)=>ZD (decide (((((YI x y.at)).length:Nat):Int)>0)) true (λv=>Ja (Jl W 102 2 G5 (YI x y.at) d.1 d.2 Cj Ub (λD E=>Y4 D d.2 E 0 (show 0<(YI x y.at).length by have:=L0 v;omega))) (Jl W 102 2 G5 (YI x y.at) d.1 d.2 Cj Ub (λD E=>AT D E 0 0 (show 0<(YI x y.at).length by have:=L0 v;omega) x4 rfl)) (bz W (Qg (YI x y.at) 0).s 0 (wY v))<|Xi ((bt (Qg (YI x y.at) 0).s 0:Int) != 35) (λq=>ai (show IntKind.i64.wrap (y.at+(x.length:Int))=y.at+(x.length:Int)from Le _ (hA (Gk h)))<|ai (Wf W 61 65 102 2 y.n (y.n+1) 1 G5 (λ_=>[]) (λj=>(Xv (Qo (Qi s) 0) j).l) (λj=>[Θ (Xv (Qo (Qi s) 0) j).e]) y.A d.1 y.c d.2 ([Ω d.1 ((YI x y.at)).length d.2,Θ (y.at+(x.length:Int))]) (Qc 102 2 G5 (YI x y.at) d.1 d.2) (λx S w G=>(by show(Zx _ 2 G5 (Xv (Qo (Qi s) 0) y.n).l _ _).φ x S w;rw[(gq h (P0 v q))];exact .inl G)) Qbz (λ_ h=>nomatch h) (by intro u H;rw[Ly.1 H];rfl) rfl (hA (uv h)) (by show _=Ω _ (Xv (Qo (Qi s) 0) y.n).l.length _::[Θ (Xv (Qo (Qi s) 0) y.n).e];rw[(gq h (P0 v q))]) rfl) λ(f:Hp)=>X0 (show IntKind.i64.wrap ((x.length:Int)+1)=(x.length:Int)+1 from Le _ (hA (Gk h))) (show IntKind.i64.wrap (y.at+((x.length:Int)+1))=LnY.at (⟨y.pre++[x],y.t,none,0⟩:LnY)from(Le _ (hA (Gk h))).trans (dq ..).symm)<|(show ∃b:LnY,(b.pre=y.pre++[x]/\b.t=y.t)/\((some (61,[lV f.1 (y.n+1) f.2]):OB)=some (61,[lV b.A b.n b.c]))/\((C:OB)=some (3,[iV b.at]))/\((Z1:OB)=some (9,[sV b.t]))/\((Z2:OB)=Z2)/\((B:OB)=B)/\(∀(g:y9) (m:Nat->Prop) (p:m0),(Qx 65 2 (y.n+1) (VF (Qo (Qi s) 0)) f.1 f.2).φ g m p->(Qx 65 2 b.n (VF (Qo (Qi s) 0)) b.A b.c).φ g m p)/\(∀(g:y9) (m:Nat->Prop) (p:m0),R.φ g m p->R.φ g m p)/\True from⟨(⟨y.pre++[x],y.t,f.1,f.2⟩:LnY),⟨rfl,rfl⟩,by rw[(show LnY.n (⟨y.pre++[x],y.t,f.1,f.2⟩:LnY)=y.n+1 from(OA ..).trans (by rw[(P0 v q)]<;>rfl))],rfl,rfl,rfl,rfl,λ_ _ _ z=>by rw[(show LnY.n (⟨y.pre++[x],y.t,f.1,f.2⟩:LnY)=y.n+1 from(OA ..).trans (by rw[(P0 v q)]<;>rfl))];exact z,λ_ _ _ z=>z,trivial⟩)) λq=>X0 (show IntKind.i64.wrap ((x.length:Int)+1)=(x.length:Int)+1 from Le _ (hA (Gk h))) (show IntKind.i64.wrap (y.at+((x.length:Int)+1))=LnY.at (⟨y.pre++[x],y.t,none,0⟩:LnY)from(Le _ (hA (Gk h))).trans (dq ..).symm)<|(show ∃b:LnY,(b.pre=y.pre++[x]/\b.t=y.t)/\((F:OB)=some (61,[lV b.A b.n b.c]))/\((C:OB)=some (3,[iV b.at]))/\((Z1:OB)=some (9,[sV b.t]))/\((Z2:OB)=Z2)/\((B:OB)=B)/\(∀(g:y9) (m:Nat->Prop) (p:m0),(Qx 65 2 y.n (VF (Qo (Qi s) 0)) y.A y.c).φ g m p->(Qx 65 2 b.n (VF (Qo (Qi s) 0)) b.A b.c).φ g m p)/\(∀(g:y9) (m:Nat->Prop) (p:m0),R.φ g m p->R.φ g m p)/\True from⟨(⟨y.pre++[x],y.t,y.A,y.c⟩:LnY),⟨rfl,rfl⟩,by rw[(show LnY.n (⟨y.pre++[x],y.t,y.A,y.c⟩:LnY)=y.n from(OA ..).trans (by rw[(nL v q)]<;>rfl))],rfl,rfl,rfl,rfl,λ_ _ _ z=>by rw[(show LnY.n (⟨y.pre++[x],y.t,y.A,y.c⟩:LnY)=y.n from(OA ..).trans (by rw[(nL v q)]<;>rfl))];exact z,λ_ _ _ z=>z,trivial⟩)) λv=>X0 (show IntKind.i64.wrap ((x.length:Int)+1)=(x.length:Int)+1 from Le _ (hA (Gk h))) (show IntKind.i64.wrap (y.at+((x.length:Int)+1))=LnY.at (⟨y.pre++[x],y.t,none,0⟩:LnY)from(Le _ (hA (Gk h))).trans (dq ..).symm)<|(show ∃b:LnY,(b.pre=y.pre++[x]/\b.t=y.t)/\((F:OB)=some (61,[lV b.A b.n b.c]))/\((C:OB)=some (3,[iV b.at]))/\((Z1:OB)=some (9,[sV b.t]))/\((Z2:OB)=Z2)/\((B:OB)=B)/\(∀(g:y9) (m:Nat->Prop) (p:m0),(Qx 65 2 y.n (VF (Qo (Qi s) 0)) y.A y.c).φ g m p->(Qx 65 2 b.n (VF (Qo (Qi s) 0)) b.A b.c).φ g m p)/\(∀(g:y9) (m:Nat->Prop) (p:m0),R.φ g m p->R.φ g m p)/\True from⟨(⟨y.pre++[x],y.t,y.A,y.c⟩:LnY),⟨rfl,rfl⟩,by rw[(show LnY.n (⟨y.pre++[x],y.t,y.A,y.c⟩:LnY)=y.n from(OA ..).trans (by rw[(nK v)]<;>rfl))],rfl,rfl,rfl,rfl,λ_ _ _ z=>by rw[(show LnY.n (⟨y.pre++[x],y.t,y.A,y.c⟩:LnY)=y.n from(OA ..).trans (by rw[(nK v)]<;>rfl))];exact z,λ_ _ _ z=>z,trivial⟩)) x5
def Qfk{l:Nat}(y:LnY)(R:Res)(W:m0):XE prog tt (Kj prog tt W) (5,2) W (Zs (QX f105)) (mS Jm (Jn (Qo (Qi s) 0)) 52 [(0,.val (.func (.yield l) #[] #[])),(1,.ptr 3 0),(2,.ptr 2 0),(3,.ptr 4 0)] R y) [.br false] (λe σ _=>Jf e (Yb σ (mS Jm (Jn (Qo (Qi s) 0)) 52 [(0,.val (.func (.yield l) #[] #[])),(1,.ptr 3 0),(2,.ptr 2 0),(3,.ptr 4 0)] R y) True)) :=
 XG (Yx (show((nlB.size:Int)==0)=false from rfl) (qV (.func (.yield l) #[] #[])) (qk (some (61,[lV y.A y.n y.c]))) (qk (some (3,[iV y.at]))) (qk (some (9,[sV y.t]))) (qk (some (9,[sV nlB]))) (qk (some (3,[iV 0]))) (XR (Qx 65 2 y.n (VF (Qo (Qi s) 0)) y.A y.c))<|ai (XR R)<|trivial) x5
def Qfn{t:m1}(a:Lib.indexByte t.data.toList 10=v)(W:m0):RetAt prog W 107 #[.string t,.string nlB] (.int .i64 v):=Cr W λW=>(Tryz.strings_Index_one t 10 W).mono λ_ _ h=>⟨a▸h.1,h.2▸p5 _ _⟩
def Qdb{l:Nat}(y:LnY)(R:Res)(a:Lib.indexByte y.t.data.toList 10=v)(W:m0):XE prog tt (Kj prog tt W) (5,2) W (Zs (CJ (bb (CJ (Zs (QE (QX f105))))))) (mS Jm (Jn (Qo (Qi s) 0)) 52 [(0,.val (.func (.yield l) #[] #[])),(1,.ptr 3 0),(2,.ptr 2 0),(3,.ptr 4 0)] R y) [x04 5 2 (iV v)] (λe σ _=>Jf e (Yb σ (mS Jm (Jn (Qo (Qi s) 0)) 52 [(0,.val (.func (.yield l) #[] #[])),(1,.ptr 3 0),(2,.ptr 2 0),(3,.ptr 4 0),(7,iV v)] R y) True)) :=
 XG (Yx (Qfn a W) (qV (.func (.yield l) #[] #[])) (qI v) (qk (some (61,[lV y.A y.n y.c]))) (qk (some (3,[iV y.at]))) (qk (some (9,[sV y.t]))) (qk (some (9,[sV nlB]))) (qk (some (3,[iV 0])))<|X0 (XR (Qx 65 2 y.n (VF (Qo (Qi s) 0)) y.A y.c)) (XR R)<|trivial) x5
def Qdd{l:Nat}(y:LnY)(R:Res)(W:m0):XE prog tt (Kj prog tt W) (5,2) W (Zs (QE (CJ (bb (CJ (Zs (QE (QX f105)))))))) (mS Jm (Jn (Qo (Qi s) 0)) 52 [(0,.val (.func (.yield l) #[] #[])),(1,.ptr 3 0),(2,.ptr 2 0),(3,.ptr 4 0),(7,iV (i:Int))] R y) [.br false] (λe σ _=>Jf e (Yb σ (mS Jm (Jn (Qo (Qi s) 0)) 52 [(0,.val (.func (.yield l) #[] #[])),(1,.ptr 3 0),(2,.ptr 2 0),(3,.ptr 4 0),(7,iV (i:Int))] R y) True)) :=
 XG (Yx (show decide ((i:Int)<0)=false from Lc x3) (qV (.func (.yield l) #[] #[])) (qI (i:Int)) (qk (some (61,[lV y.A y.n y.c]))) (qk (some (3,[iV y.at]))) (qk (some (9,[sV y.t]))) (qk (some (9,[sV nlB]))) (qk (some (3,[iV 0])))<|X0 (XR (Qx 65 2 y.n (VF (Qo (Qi s) 0)) y.A y.c)) (XR R)<|trivial) x5
def Qdc{l:Nat}(y:LnY)(R:Res)(W:m0):XE prog tt (Kj prog tt W) (5,2) W (Zs (QE (CJ (bb (CJ (Zs (QE (QX f105)))))))) (mS Jm (Jn (Qo (Qi s) 0)) 52 [(0,.val (.func (.yield l) #[] #[])),(1,.ptr 3 0),(2,.ptr 2 0),(3,.ptr 4 0),(7,iV (-1))] R y) [] (λe σ _=>match e with | .exit k=>k=2/\Yb σ (mS Jm (Jn (Qo (Qi s) 0)) 52 [(0,.val (.func (.yield l) #[] #[])),(1,.ptr 3 0),(2,.ptr 2 0),(3,.ptr 4 0)] R y) True|_=>False) :=
 XG (Yx (show((2:Nat)=2)from rfl) (qV (.func (.yield l) #[] #[])) (qk (some (61,[lV y.A y.n y.c]))) (qk (some (3,[iV y.at]))) (qk (some (9,[sV y.t]))) (qk (some (9,[sV nlB]))) (qk (some (3,[iV 0]))) (XR (Qx 65 2 y.n (VF (Qo (Qi s) 0)) y.A y.c))<|ai (XR R)<|trivial) x5
def Qfl{l:Nat}(y:LnY)(R:Res)(a:i<=y.t.size)(b:y.t.size<=65536)(W:m0):XE prog tt (Kj prog tt W) (5,2) W (Zs (QE (QE (CJ (bb (CJ (Zs (QE (QX f105))))))))) (mS Jm (Jn (Qo (Qi s) 0)) 52 [(0,.val (.func (.yield l) #[] #[])),(1,.ptr 3 0),(2,.ptr 2 0),(3,.ptr 4 0),(7,iV (i:Int))] R y) [x05 7 3 (iV (i:Int)),x03 7 4 (Ψ (⟨(y.t.data.toList.take i).toArray⟩:m1))] (λe σ _=>Jf e (Yb σ (mS Jm (Jn (Qo (Qi s) 0)) 52 [(0,.val (.func (.yield l) #[] #[])),(1,.ptr 3 0),(2,.ptr 2 0),(3,.ptr 4 0),(7,iV (i:Int)),(8,sV (⟨(y.t.data.toList.take i).toArray⟩:m1))] R y) True)) :=
 XG (Yx (show IntKind.i64.wrap ((i:Int)+0)=(i:Int)from(by rw[Int.add_zero];exact Le _ x3)) (aw W y.t i a) (qV (.func (.yield l) #[] #[])) (qI (i:Int)) (qS (⟨(y.t.data.toList.take i).toArray⟩:m1)) (qk (some (61,[lV y.A y.n y.c]))) (qk (some (3,[iV y.at]))) (qk (some (9,[sV y.t])))<|Ky (qk (some (9,[sV nlB]))) (qk (some (3,[iV 0]))) (XR (Qx 65 2 y.n (VF (Qo (Qi s) 0)) y.A y.c)) (XR R)<|trivial) x5
def Qaj{l:Nat}(y:LnY)(R:Res)(W:m0):KC prog tt (Kj prog tt W) W (ed (Zs (Zs (QE (QE (QE (CJ (bb (CJ (Zs (QE (QX f105)))))))))))) (V9 (Zs (Zs (QE (QE (QE (CJ (bb (CJ (Zs (QE (QX f105)))))))))))) ((V9 (Zs (Zs (QE (QE (QE (CJ (bb (CJ (Zs (QE (QX f105)))))))))))).toList.take 2) 0 (mS Jm (Jn (Qo (Qi s) 0)) 52 [(0,.val (.func (.yield l) #[] #[])),(1,.ptr 3 0),(2,.ptr 2 0),(3,.ptr 4 0),(7,iV (i:Int)),(8,sV (⟨(y.t.data.toList.take i).toArray⟩:m1))] R y) [] (λσ _=>v1 σ (.tmp 39) λa=>vL σ [.tmp 40] λb=>a=.func (.yield l) #[] #[]/\b=[Ψ (⟨(y.t.data.toList.take i).toArray⟩:m1)]/\Yb σ (mS Jm (Jn (Qo (Qi s) 0)) 52 [(0,.val (.func (.yield l) #[] #[])),(1,.ptr 3 0),(2,.ptr 2 0),(3,.ptr 4 0),(7,iV (i:Int))] R y) True) :=
 XG (Yx (qV (.func (.yield l) #[] #[])) (show(([Ψ (⟨(y.t.data.toList.take i).toArray⟩:m1)]:o3)=[Ψ (⟨(y.t.data.toList.take i).toArray⟩:m1)])from rfl) (qV (.func (.yield l) #[] #[])) (qI (i:Int)) (qk (some (61,[lV y.A y.n y.c]))) (qk (some (3,[iV y.at]))) (qk (some (9,[sV y.t]))) (qk (some (9,[sV nlB])))<|Ja (qk (some (3,[iV 0]))) (XR (Qx 65 2 y.n (VF (Qo (Qi s) 0)) y.A y.c)) (XR R)<|trivial) x5
def Qde{l:Nat}(y:LnY)(R:Res)(W:m0):KC prog tt (Kj prog tt W) W (ed (Zs (Zs (QE (QE (QE (CJ (bb (CJ (Zs (QE (QX f105)))))))))))) (V9 (Zs (Zs (QE (QE (QE (CJ (bb (CJ (Zs (QE (QX f105)))))))))))) ((V9 (Zs (Zs (QE (QE (QE (CJ (bb (CJ (Zs (QE (QX f105)))))))))))).toList.drop 3) 3 ((mS Jm (Jn (Qo (Qi s) 0)) 52 [(0,.val (.func (.yield l) #[] #[])),(1,.ptr 3 0),(2,.ptr 2 0),(3,.ptr 4 0),(7,iV (i:Int))] R y).push (some 41) (bV true)) [] (λσ _=>Yb σ (mS Jm (Jn (Qo (Qi s) 0)) 52 [(0,.val (.func (.yield l) #[] #[])),(1,.ptr 3 0),(2,.ptr 2 0),(3,.ptr 4 0),(7,iV (i:Int)),(42,bV false)] R y) True) :=
 XG (Yx (qV (.func (.yield l) #[] #[])) (qI (i:Int)) (qB false) (qk (some (61,[lV y.A y.n y.c]))) (qk (some (3,[iV y.at]))) (qk (some (9,[sV y.t]))) (qk (some (9,[sV nlB]))) (qk (some (3,[iV 0])))<|X0 (XR (Qx 65 2 y.n (VF (Qo (Qi s) 0)) y.A y.c)) (XR R)<|trivial) x5
def Qfm{l:Nat}(y:LnY)(R:Res)(a:i+1<=y.t.size)(d:y.t.size<=65536)(W:m0):XE prog tt (Kj prog tt W) (5,2) W (QE (QE (QE (QE (CJ (bb (CJ (Zs (QE (QX f105)))))))))) (mS Jm (Jn (Qo (Qi s) 0)) 52 [(0,.val (.func (.yield l) #[] #[])),(1,.ptr 3 0),(2,.ptr 2 0),(3,.ptr 4 0),(7,iV (i:Int)),(42,bV false)] R y) [x05 9 4 (iV ((i+1:Nat):Int)),x03 9 5 (Ψ (⟨(y.t.data.toList.drop (i+1)).toArray⟩:m1))] (λe σ _=>Jf e (Yb σ (mS Jm (Jn (Qo (Qi s) 0)) 52 [(0,.val (.func (.yield l) #[] #[])),(1,.ptr 3 0),(2,.ptr 2 0),(3,.ptr 4 0)] R ⟨y.pre,(⟨(y.t.data.toList.drop (i+1)).toArray⟩:m1),y.A,y.c⟩) True)) :=
 XG (Yx (show IntKind.i64.wrap ((i:Int)+(nlB.size:Int))=((i+1:Nat):Int)from(by have b:(nlB.size:Int)=1:=rfl;rw[b];exact(Le _ x3).trans x3)) (ax W y.t (i+1) a) (qV (.func (.yield l) #[] #[])) (qk (some (61,[lV y.A y.n y.c]))) (qk (some (3,[iV y.at]))) (qk (some (9,[sV (⟨(y.t.data.toList.drop (i+1)).toArray⟩:m1)]))) (qk (some (9,[sV nlB]))) (qk (some (3,[iV 0])))<|X0 (XR (Qx 65 2 y.n (VF (Qo (Qi s) 0)) y.A y.c)) (XR R)<|trivial) x5
def Qal{l:Nat}(y:LnY)(R:Res)(W:m0):KC prog tt (Kj prog tt W) W (ed (QE (QE (QX f105)))) (V9 (QE (QE (QX f105)))) ((V9 (QE (QE (QX f105)))).toList.take 2) 0 (mS Jm (Jn (Qo (Qi s) 0)) 52 [(0,.val (.func (.yield l) #[] #[])),(1,.ptr 3 0),(2,.ptr 2 0),(3,.ptr 4 0)] R y) [] (λσ _=>v1 σ (.tmp 49) λa=>vL σ [.tmp 50] λb=>a=.func (.yield l) #[] #[]/\b=[Ψ y.t]/\Yb σ (mS Jm (Jn (Qo (Qi s) 0)) 52 [(0,.val (.func (.yield l) #[] #[])),(1,.ptr 3 0),(2,.ptr 2 0),(3,.ptr 4 0)] R y) True) :=
 XG (Yx (qV (.func (.yield l) #[] #[])) (show(([Ψ y.t]:o3)=[Ψ y.t])from rfl) (qV (.func (.yield l) #[] #[])) (qk (some (61,[lV y.A y.n y.c]))) (qk (some (3,[iV y.at]))) (qk (some (9,[sV y.t]))) (qk (some (9,[sV nlB]))) (qk (some (3,[iV 0])))<|X0 (XR (Qx 65 2 y.n (VF (Qo (Qi s) 0)) y.A y.c)) (XR R)<|trivial) x5
def Qam{l:Nat}(y:LnY)(R:Res)(W:m0):KC prog tt (Kj prog tt W) W (ed (QE (QE (QX f105)))) (V9 (QE (QE (QX f105)))) ((V9 (QE (QE (QX f105)))).toList.drop 3) 3 ((mS Jm (Jn (Qo (Qi s) 0)) 52 [(0,.val (.func (.yield l) #[] #[])),(1,.ptr 3 0),(2,.ptr 2 0),(3,.ptr 4 0)] R y).push (some 51) (bV true)) [] (λσ _=>Yb σ (mS Jm (Jn (Qo (Qi s) 0)) 52 [(0,.val (.func (.yield l) #[] #[])),(1,.ptr 3 0),(2,.ptr 2 0),(3,.ptr 4 0)] R y) True) :=
 XG (Yx (qV (.func (.yield l) #[] #[])) (qk (some (61,[lV y.A y.n y.c]))) (qk (some (3,[iV y.at]))) (qk (some (9,[sV y.t]))) (qk (some (9,[sV nlB]))) (qk (some (3,[iV 0]))) (XR (Qx 65 2 y.n (VF (Qo (Qi s) 0)) y.A y.c)) (XR R)<|trivial) x5
def Kl(L:List Ln)(y:LnY):(Jm y).length=5/\(Jn L y).length=1:=⟨rfl,rfl⟩
def nH(t:m1):(Lib.indexByte t.data.toList 10=-1/\Qi t.data.toList=[t.data.toList])\/∃i:Nat,Lib.indexByte t.data.toList 10=(i:Int)/\i+1<=t.size/\Qi t.data.toList=t.data.toList.take i::Qi (t.data.toList.drop (i+1)):=by
 rcases gd t.data.toList 10 with⟨a,b⟩|⟨i,a,b,c⟩
 ·exact .inl ⟨a,Nk b⟩
 ·exact .inr ⟨i,a,(c9.1 c).1,OZ b c⟩
noncomputable def spB:Code:=QX f105
noncomputable def spG:Code:=CJ (bb (CJ (Zs (QE spB))))
abbrev QdH(c:Code)(i:Nat):Oper:=((V9 c).toList.drop i).headD default
def QfN:spB=.seq (Zs spB) (.seq (.block 2 (.loop (.block 3 spG))) (.region (ed (QE (QE spB))) (V9 (QE (QE spB))) false)):=x5
def QfO:spG=.seq (Zs spG) (.seq (Zs (QE spG)) (.seq (Zs (QE (QE spG))) (.seq (.seq (.region (ed (Zs (Zs (QE (QE (QE spG)))))) (V9 (Zs (Zs (QE (QE (QE spG)))))) false) (.cond (.tmp 42) .ret .skip)) (QE (QE (QE (QE spG))))))):=x5
abbrev ut(s:List UInt8)(a:m0)(R:Res)(r1:Env)(y:LnY)(W:m0):Prop:=MemJ a Jm (Jn (Qo (Qi s) 0)) (5,2) R r1 y W
variable{W:m0}
theorem qH(hs:s.length<=65536){g:m0}{l:Nat}{R:Res}{r1:Env}{K:m1}(ht:K.data.toList=s)(h0:Cu g (mS Jm (Jn (Qo (Qi s) 0)) 0 [] R ⟨[],K,none,0⟩) r1 W)(hY:∀(y:LnY) (x:List UInt8) (U:m0),ut s g R r1 y U->(∃r,Qi s=y.pre++x::r)->YieldAt Fence.wide 7 prog l #[.string ⟨x.toArray⟩] U λe M=>e=.returned (.bool true)/\∃b:LnY,(b.pre=y.pre++[x]/\b.t=y.t)/\ut s g R r1 b M):
  CallsIn Fence.wide 8 prog 105 (QO r1 [.val (.func (.yield l) #[] #[]),.ptr 3 0,.ptr 2 0,.ptr 4 0]).toArray W λe M=>(∃v,e=.returned v)/\∃y:LnY,y.pre=Qi s/\ut s g R r1 y M:=by
 refine callsIn_of_wp (fn:=f105) (c:=spB) x5 x5 trivial ?_
 have L:Sat g (mS Jm (Jn (Qo (Qi s) 0)) 52 [(0,.val (.func (.yield l) #[] #[])),(1,.ptr 3 0),(2,.ptr 2 0),(3,.ptr 4 0)] R ⟨[],K,none,0⟩) r1 _ W:=eh (mS Jm (Jn (Qo (Qi s) 0)) 0 [] R ⟨[],K,none,0⟩) 52 ([.val (.func (.yield l) #[] #[]),.ptr 3 0,.ptr 2 0,.ptr 4 0]) (show 4<=52 by decide) rfl h0;rw[show(f105).ntmps=52 from x5];revert L;generalize ({ tmps:=(QO r1 [.val (.func (.yield l) #[] #[]),.ptr 3 0,.ptr 2 0,.ptr 4 0]).toArray++Array.replicate (52-(QO r1 [.val (.func (.yield l) #[] #[]),.ptr 3 0,.ptr 2 0,.ptr 4 0]).toArray.size) undef,defers:=[] }:Act)=a0;intro L;have j:DV (bodyPost prog f105 λe M=>(∃v,e=.returned v)/\∃y:LnY,y.pre=Qi s/\ut s g R r1 y M):=λ_ _ _ _ _ hq=>⟨hq.1,hq.2⟩
 revert j;generalize hQ:bodyPost prog f105 _=Q;intro j;rw[QfN];refine wpIn_seq (wpIn_wide.2 (JA (Kb QU) Qm QU (p:=λe σ=>Jf e _) (Qfk _ R g) (Bw (Kl _)) L (λd v c a w h=>j d v c a w h) λe σ1 r2 a1 U V Y Z=>?_));cases e with
 |exit i=>exact False.elim V
 |ret=>exact False.elim V
 |normal =>
  have ad:=(Q3 g (show Yb σ1 _ True from V)).2 _ _ _ Y;show(Code.seq _ _).wpIn _ _ _ _ _ _;refine wpIn_seq (wpIn_block (Du (λ(y:LnY) a w=>(∃r,Sat g (mS Jm (Jn (Qo (Qi s) 0)) 52 [(0,.val (.func (.yield l) #[] #[])),(1,.ptr 3 0),(2,.ptr 2 0),(3,.ptr 4 0)] R y) r a w/\AgN (5,2) r1 r)/\Qi s=y.pre++Qi y.t.data.toList/\y.t.size<=65536) (λy=>y.t.size) (λy a w O=>?_) ⟨[],K,none,0⟩ ⟨⟨r2,ad,Z⟩,by rw[ht];rfl,by show K.size<=65536;have:=Lu List.length ht;simp at this;omega⟩));let⟨⟨r,L,hg⟩,B,P⟩:=O;refine wpIn_block ?_
  rw[QfO];rcases nH y.t with⟨h1,S⟩|⟨i,h1,S,h3⟩
  ·refine wpIn_seq (wpIn_wide.2 (JA (Kb QU) Qm QU (p:=λe σ=>Jf e _) (Qdb y R h1 g) (Bw (Kl _)) L (λd v c a w h=>j d v c a w h) λe σ3 r3 a3 W3 m C D=>?_));cases e with
   |exit i=>exact False.elim m
   |ret=>exact False.elim m
   |normal =>
    have E:=(Q3 g (show Yb σ3 _ True from m)).2 _ _ _ C;refine wpIn_seq (wpIn_wide.2 (JA (Kb QU) Qm QU (p:=λe σ=>match e with | .exit k=>k=2/\Yb σ _ True|_=>False) (Qdc y R g) (Bw (Kl _)) E (λd v c a w h=>j d v c a w h) λe σ5 r5 a5 W5 q F G=>?_));cases e with
    |normal=>exact False.elim q
    |ret=>exact False.elim q
    |exit k =>
     obtain⟨rfl,ae⟩:=(show k=2/\Yb σ5 _ True from q)
     have H:=(Q3 g ae).2 _ _ _ F;show(Code.region _ _ false).wpIn Fence.wide 8 prog Q a5 W5;refine sv Qm QU (Kl _) (ci:=2) (dst:=51) (o:=QdH (QE (QE spB)) 2) (f:=.tmp 49) (args:=[.tmp 50]) (l:=l) (n:=52) x5 x5 x5 rfl x5 (x:=.string ⟨y.t.data.toList.toArray⟩) (N:=λb=>b.pre=y.pre++[y.t.data.toList]/\b.t=y.t) (X:=λb σ=>Yb σ _ True) (Qal y R g) (λb _=>⟨[],Qam b R g⟩) H (Bw (Kl _)) (hg.trans (D.trans G)) (λW6 O=>hY y y.t.data.toList W6 O ⟨[],by rw[B,S]⟩) λb σ r a w hN u z I=>?_
     rw[<- hQ];exact⟨z.defers,_,results_none x5 _ _ _,⟨_,rfl⟩,b,by rw[hN.1,B,S],r,((Q3 g u).2 _ _ _ z).mem,I⟩
  ·refine wpIn_seq (wpIn_wide.2 (JA (Kb QU) Qm QU (p:=λe σ=>Jf e _) (Qdb y R h1 g) (Bw (Kl _)) L (λd v c a w h=>j d v c a w h) λe σ3 r3 a3 W3 m C D=>?_));cases e with
   |exit i=>exact False.elim m
   |ret=>exact False.elim m
   |normal =>
    have E:=(Q3 g (show Yb σ3 _ True from m)).2 _ _ _ C;refine wpIn_seq (wpIn_wide.2 (JA (Kb QU) Qm QU (p:=λe σ=>Jf e _) (Qdd y R g) (Bw (Kl _)) E (λd v c a w h=>j d v c a w h) λe σ5 r5 a5 W5 q F G=>?_));cases e with
    |exit i=>exact False.elim q
    |ret=>exact False.elim q
    |normal =>
     have H:=(Q3 g (show Yb σ5 _ True from q)).2 _ _ _ F;refine wpIn_seq (wpIn_wide.2 (JA (Kb QU) Qm QU (p:=λe σ=>Jf e _) (Qfl y R (Nat.le_of_succ_le S) P g) (Bw (Kl _)) H (λd v c a w h=>j d v c a w h) λe σ7 r7 a7 W7 u z I=>?_));cases e with
     |exit i=>exact False.elim u
     |ret=>exact False.elim u
     |normal =>
      have ag:=(Q3 g (show Yb σ7 _ True from u)).2 _ _ _ z;refine wpIn_seq (wpIn_seq (sv Qm QU (Kl _) (ci:=2) (dst:=41) (o:=QdH (Zs (Zs (QE (QE (QE spG))))) 2) (f:=.tmp 39) (args:=[.tmp 40]) (l:=l) (n:=52) x5 x5 x5 rfl x5 (x:=.string ⟨(y.t.data.toList.take i).toArray⟩) (N:=λb=>b.pre=y.pre++[y.t.data.toList.take i]/\b.t=y.t) (X:=λb σ=>Yb σ _ True) (Qaj y R g) (λb _=>⟨[],Qde b R g⟩) ag (Bw (Kl _)) (hg.trans (D.trans (G.trans I))) (λW8 O=>hY y _ W8 O ⟨_,by rw[B,h3]⟩) λb σ9 r9 a9 W9 hN al ao bd=>?_));have T:=(Q3 g al).2 _ _ _ ao;refine wpIn_cond_false (T.see.ts 42 _ rfl).1 (wpIn_skip ?_);show(QE (QE (QE (QE spG)))).wpIn Fence.wide 8 prog _ a9 W9;have e9:(b.t.size=y.t.size):=by rw[hN.2]
      refine wpIn_wide.2 (JA (Kb QU) Qm QU (p:=λe σ=>Jf e _) (Qfm b R (i:=i) (by rw[e9];exact S) (by rw[e9];exact P) g) (Bw (Kl _)) T (λd v c a w h=>j d v c a w h) λe σB rB aB WB J bi bk=>?_);cases e with
      |exit i=>exact False.elim J
      |ret=>exact False.elim J
      |normal =>
       refine⟨⟨b.pre,⟨(b.t.data.toList.drop (i+1)).toArray⟩,b.A,b.c⟩,⟨⟨rB,(Q3 g (show Yb σB _ True from J)).2 _ _ _ bi,bd.trans bk⟩,?_,?_⟩,?_⟩
       ·show Qi s=b.pre++Qi (b.t.data.toList.drop (i+1))
        grind
       ·show(b.t.data.toList.drop (i+1)).toArray.size<=65536;rw[Rs,Lf];simp;omega
       ·show(b.t.data.toList.drop (i+1)).toArray.size<y.t.size;rw[Rs,Lf];simp;omega
def Qdp(a:m1)(W:m0):BQ prog tt W f15 (mP (V4 3 f15) (⟨39,[(0,sV a),(3,.ptr 0 0),(4,.ptr 1 0)],[some (61,[lV none 0 0]),some (3,[iV 0])],[]⟩:St) True) (SH 39 [Ψ a]) [.esc 3] (λ_ _ _=>False) :=
 XG (KJ (show V4 3 f15=some (K7 3 f15)from x5) trivial (qS a) (qk (some (61,[lV none 0 0]))) (qk (some (3,[iV 0])))<|trivial) x5
def Qdx(_:Unit):o3:=[.slice none 0 0,.int .i64 0]
def Qdr(b:m1)(W:m0):XE prog tt (Kj prog tt W) (0,0) W (Ys (K7 3 f15)) (⟨39,[(0,sV b),(3,.ptr 0 0),(4,.ptr 1 0)],[some (61,[lV none 0 0]),some (3,[iV 0])],[]⟩:St) [.nil 3 0 65 2 Qdx,.inl 3 1 f37,.inl 1 2 f69] (λe σ _=>Jf e (Yb σ (⟨39,[(3,.ptr 0 0),(4,.ptr 1 0),(8,.clo (.func 105) [] [.ptr 3 0,.ptr 2 0,.ptr 4 0])],Jm (⟨[],b,none,0⟩:LnY),Jn (Qo (Qi b.data.toList) 0) (⟨[],b,none,0⟩:LnY)⟩:St) True)) :=
 XG (Yx func37 (λa w=>call37 a w) func69 (λa w=>call69 a w) (Rx (.func 105:Fn)) (qk (some (61,[lV none (LnY.n (⟨[],b,none,0⟩:LnY)) 0]))) (qk (some (3,[iV (LnY.at (⟨[],b,none,0⟩:LnY))]))) (qk (some (9,[sV b])))<|X0 (qk (some (9,[sV nlB]))) (qk (some (3,[iV 0])))<|(show(∀(c:y9) (d:Nat->Prop) (f:m0),(Qc 65 2 Qdx ([]:List Unit) none 0).φ c d f->(Qx 65 2 (LnY.n (⟨[],b,none,0⟩:LnY)) (VF (Qo (Qi b.data.toList) 0)) none 0).φ c d f)/\True from⟨λ_ _ _ h=>AP _ _ _ _ _ _ _ _ h,trivial⟩)) x5
def Qds(y:LnY)(D:Nat)(W:m0):XE prog tt (Kj prog tt W) (0,0) W (aa (K7 3 f15)) (mS Jm (Jn (Qo (Qi s) 0)) 39 [(3,.ptr 0 0),(4,.ptr 1 0)] (Hg D) y) [] (λe σ _=>match e with | .ret=>Yb σ (⟨39,[(2,lV y.A y.n y.c)],[],[some (Qx 65 2 y.n (VF (Qo (Qi s) 0)) y.A y.c),some (Hg D)]⟩:St) True|_=>False) :=
 XG (Ja (qV (Ω y.A y.n y.c)) (XR (Qx 65 2 y.n (VF (Qo (Qi s) 0)) y.A y.c)) (XR (Hg D))<|trivial) x5
def Qdq(a:m1):Yb (⟨39,[(3,.ptr 0 0),(4,.ptr 1 0),(8,.clo (.func 105) [] [.ptr 3 0,.ptr 2 0,.ptr 4 0])],Jm (⟨[],a,none,0⟩:LnY),Jn (Qo (Qi a.data.toList) 0) (⟨[],a,none,0⟩:LnY)⟩:St) ⟨39,[(3,.ptr 0 0),(4,.ptr 1 0)],Jm (⟨[],a,none,0⟩:LnY),Jn (Qo (Qi a.data.toList) 0) (⟨[],a,none,0⟩:LnY)⟩ True:=XG (qk (some (61,[lV none (LnY.n (⟨[],a,none,0⟩:LnY)) 0])) |> ai<|qk (some (3,[iV (LnY.at (⟨[],a,none,0⟩:LnY))])) |> ai<|qk (some (9,[sV a])) |> ai<|qk (some (9,[sV nlB])) |> ai<|qk (some (3,[iV 0])) |> ai<|XR (Qx 65 2 (LnY.n (⟨[],a,none,0⟩:LnY)) (VF (Qo (Qi a.data.toList) 0)) none 0) |> ai<|trivial) x5
variable{a:Act}
def n0(y:LnY){D:Nat}{r:Env}(h:Sat W (mS Jm (Jn (Qo (Qi s) 0)) 39 [(3,.ptr 0 0),(4,.ptr 1 0)] (Hg D) y) r a w){g:Ending->m0->Prop}(k:∀x S f,(Qx 65 2 y.n (VF (Qo (Qi s) 0)) y.A y.c).φ x S f->(∀b,S b->W.heap.size<=b/\b<f.heap.size)->Below W.heap.size W f->g (.returned (.slice y.A y.n y.c)) f):
  (aa (K7 3 f15)).wp prog (Aa (bodyPostM Fence.wide 9 prog f15 g)) (YA [{ target:=.collected D,args:=#[] }] a) w:=by
 refine wp_mono (JA (FR QU (ds:=[{ target:=.collected D,args:=#[] }])) Qm QU (p:=λe σ=>match e with | .ret=>Yb σ _ True|_=>False) (Q:=λe a w=>Aa (bodyPostM Fence.wide 9 prog f15 g) e (YA [{ target:=.collected D,args:=#[] }] a) w) (Qds y D W) ⟨L7 _,L7 _⟩ h (λ_ _ _ _ _ h=>h) λe l t m o d j _=>?_) λe m o q=>?_
 ·cases e with
  |normal=>exact False.elim d
  |exit i=>exact False.elim d
  |ret=>exact dj ((Q3 W (show Yb l _ True from d)).2 _ _ _ j) x5 k
 ·obtain⟨b,rfl,h⟩:=q;exact h
def ux{d:m1}(B:d.size<=65536)(w:m0):NewIn prog w [] 15 #[.string d] (λy:Hp=>Value.slice y.1 (Qo (Qi d.data.toList) 0).length y.2) (λy:Hp=>Qx 65 2 (Qo (Qi d.data.toList) 0).length (VF (Qo (Qi d.data.toList) 0)) y.1 y.2):=by
 have f:d.data.toList.length<=65536:=l3 B;refine⟨λa w=>call15 a w,λW _=>bB (args:=[.string d]) Qm QU func15 x5 (Qdp d W) λb σ r a V F G=>?_⟩;let⟨H,_,m⟩:=AL F G;rw[<- Ns H,(qd (c:=(K7 3 f15)) x5).1];refine wp_seq (wp_seq (JA (Kb QU) Qm QU (p:=λe σ=>Jf e _) (Qdr d W) ⟨L7 _,L7 _⟩ m (λ_ _ _ _ _ h=>h) λe I k g u o q _=>?_));cases e with
 |exit i=>exact False.elim o
 |ret=>exact False.elim o
 |normal =>
  have j:=(Q3 W (show Yb I _ True from o)).2 _ _ _ q;have J:g.eval (.tmp 8)=_:=(j.see.ts 8 _ rfl).1;have s:Sat W ⟨39,[(3,.ptr 0 0),(4,.ptr 1 0)],Jm ⟨[],d,none,0⟩,Jn (Qo (Qi d.data.toList) 0) ⟨[],d,none,0⟩⟩ k g u:=(Q3 W (Qdq d)).2 _ _ _ j;show(Hu (K7 3 f15)).wp prog _ g u;rw[show Hu (K7 3 f15)=.block 0 (.rangeFunc (.tmp 8) #[9] (yB (K7 3 f15)) (yC (K7 3 f15)))from x5,show g=YA [] g by simp[YA]];refine wp_block (mem_range Qm QU (Kl (Qo (Qi d.data.toList) 0)) (enc:=λx=>.string ⟨x.toArray⟩) (C:=λy x=>∃r,Qi d.data.toList=y.pre++x::r) (N:=λy x v=>v.pre=y.pre++[x]/\v.t=y.t) (E:=λy=>y.pre=Qi d.data.toList) (ts1:=λy x=>[(3,.ptr 0 0),(4,.ptr 1 0),(5,sV ⟨x.toArray⟩)]) rfl x5 x5 (λy x R _=>⟨_,Qdn y R W⟩) (λy x R ⟨r,h⟩=>⟨_,Qdo f y h R W⟩) s J (λa w=>call105 a w) (λl R r1 X K L M=>?_) λD Y Z y z O=>?_)
  ·have:=qH f (l:=l) (R:=R) rfl K M;rw[show(QO r1 [.val (.func (.yield l) #[] #[]),.ptr 3 0,.ptr 2 0,.ptr 4 0]).toArray=#[Value.func (.yield l) #[] #[]]++#[.pointer (some ⟨k.b 3,0,none⟩),.pointer (some ⟨k.b 2,0,none⟩),.pointer (some ⟨k.b 4,0,none⟩)]from by simp[QO,SV.den,L.1]]at this;exact this
  ·refine n0 y O λx S P Q T U=>⟨(y.A,y.c),x,S,?_,?_,T,U⟩
   ·show _=Ending.returned (.slice y.A (Qo (Qi d.data.toList) 0).length y.c);rw[<- z];rfl
   ·show(Qx _ _ (Qo (Qi d.data.toList) 0).length _ y.A y.c).φ x S P;rw[show(Qo (Qi d.data.toList) 0).length=y.n from by rw[<- z];rfl];exact Q
open Go.Shelf
abbrev BdT(T:o0):Prop:=liesAt prog prog.depth T (2 / prog.cellsOf T) 0 85 1=true/\T≠5
def KR:liesAt prog prog.depth 87 (2 / prog.cellsOf 87) 0 85 1=true:=x5
def vQ{T:TypeId}(i:BdT T){p v:Value}{w:World}(l:p=.pointer none\/p=.pointer (some ⟨b,0,none⟩))(h:w.heap[b]?=some (.cells #[p,v] T (0,0))):Calls prog 101 #[.pointer (some ⟨b,0,none⟩)] w λe c=>e=.returned (.tuple #[])/\c.heap[b]?=some (.cells #[.pointer (some ⟨b,0,none⟩),v] T (0,0))/\Below 0 w c/\∀k,k≠b->c.heap[k]?=w.heap[k]?:=by
 let⟨j,d,g⟩:=Option.map_eq_some_iff.1 extraW.toX72.sizeBuilder;have o:w.cell? ⟨b,0,none⟩=some p:=by simp[World.cell?,h]
 rcases l with rfl|rfl
 ·have a:w.shape? b=some (T,2):=by simp[World.shape?,h]
  have m:w.frozen? ⟨b,0,none⟩=false:=by simp[World.frozen?,h]
  go_enter func101,ntmps101
  go_wp2
  rw[show(Go.convert 83 203 (.pointer (some ⟨b,0,none⟩))).run prog w=_ from Lib.run_to_unsafe w ⟨b,0,none⟩ laysW.t70 laysW.t164 d (by rw[g];decide) a (Nat.zero_lt_succ 1)];simp only[Result.andThen];rw[Oper.upon_value];go_wp2
  rw[run_callFunc_extern (f:=132) laysW.f276 x5 x5 x5 (e:=Extern.AbiNoEscape.same) x5];rw[Lib.run_noEscape];simp only[Result.andThen];rw[Oper.upon_value];go_wp2
  rw[show(Go.convert 203 83 (.pointer (some ⟨b,0,none⟩))).run prog w=_ from Lib.run_from_unsafe w ⟨b,0,none⟩ laysW.t164 laysW.t70 d a i.1];simp only[Result.andThen];rw[Oper.upon_value];go_wp2
  go_end0
  exact⟨rfl,by simp[World.setCell,Array.getElem?_modify,h],(p5 0 w).setCell (p:=⟨b,0,none⟩) (L7 _) _,λk n=>Sr w ⟨b,0,none⟩ _ k n⟩
 ·go_enter func101,ntmps101
  go_wp2
  rw[show(binOp .neq 83 (.pointer (some ⟨b,0,none⟩)) (.pointer (some ⟨b,0,none⟩))).run prog w=_ from Lib.run_neq_ptr_same w _ laysW.t70 d];go_wp2
  go_end0
  exact⟨rfl,h,p5 0 _,λ_ _=>rfl⟩
section
variable{P:z4}
theorem kQ{t u ty e:o0}{i:TypeInfo}(o:P.underlying t=some (.slice e))(p:P.underlying u=some .string)(q:P.info? e=some i)(r:i.zero=some (.int .u8 0))(c:i.size=1)(f:i.bytes=1){v:y9}{n:Nat}{h:o3}(d:w.ownsRow 0 e 1 v n h)(s:m1)(A:n+s.size<=140737488355328):
  ∃j l,(Builtin.append_ #[t,u] ty #[v,.string s]).run P w=.ok j l/\l.ownsRow 0 e 1 j (n+s.size) (h++Lib.strCells s)/\w.grownBy l v.ownBlock/\∀k,j.ownBlock=some k->v.ownBlock=some k\/w.heap.size<=k:=by
 have m:n+s.size<=maxLen:=by simp only[maxLen];omega
 let⟨j,l,x,C,D,_⟩:=Lib.run_append_own_string (P:=P) w 0 t u ty e i o p q r c f v n h d s m A (L7 _);refine⟨j,l,x,C,D,λk B=>?_⟩;rcases d.2 with⟨rfl,rfl⟩|⟨g,cap,y,rfl,E,F,G,H,I,z⟩
 ·let⟨L,M,k1,J,_⟩:=Lib.run_append_own_string (P:=P) w w.heap.size t u ty e i o p q r c f (.slice none 0 0) 0 h ⟨d.1,.inl ⟨rfl,rfl⟩⟩ s m A (L4 _);rw[x]at k1;injection k1 with a b
  subst a b;exact .inr (J.lt k B).1
 ·by_cases K:n+s.size<=cap
  ·have k1:=Lib.run_append_room_string (P:=P) w t u ty e i o p q c g n cap y F s K x3;rw[x]at k1;injection k1 with a b
   subst a;exact .inl B
  ·have k1:=Lib.run_append_grow_string (P:=P) w t u ty e i (.int .u8 0) o p q r ⟨g,0,none⟩ n cap h (by rw[c];exact d.1) (d.cells (g:=g) rfl) s x3 x3 (by rw[f];exact growslice_fits x3 x3)
   grind[Value.ownBlock]
def Qce{c:Array Oper}{b:List Oper}{o:Oper}{Q:Exit->Act->m0->Prop}(d:o.guard=none)(sl x:x0h)(t u:o0)(g:o.op=.call { callee:=.builtin .append,args:=#[sl,x],argTypes:=#[t,u] }){v e:y9}{s:m1}{f:m0}(i:a.eval sl=v)(j:a.eval x=.string s)(k:(Builtin.append_ #[t,u] o.type #[v,.string s]).run P w=.ok e f)(h:wpList P c Q b (a.put o.dst e) f):wpList P c Q (o::b) a w:=by
 refine wpList_plain d λK l=>?_
 unfold Oper.wp execOp;simp only[g,resolve,invoke,builtin,c7,Sem.run_pure,c8,List.map_toArray,Tf,List.map_nil,i,j,k];exact l _ _ h
end
def YY(T:o0)(b:Nat)(l:List UInt8):Res where
 φ x S w:=x.oneCell'=true/\∃p v,(p=.pointer none\/p=.pointer (some ⟨b,0,none⟩))/\w.heap[b]?=some (.cells #[p,v] T (0,0))/\w.ownsRow 0 5 1 v l.length (Lib.byteCells l)/\v.ownBlock≠some b/\∀k,S k↔k=b\/v.ownBlock=some k
 one _ _ _ h:=h.1
 loc x S w w' h hφ:=by
  let⟨e,p,v,f,i,d,j,a⟩:=hφ;refine⟨e,p,v,f,(h b ((a b).2 (.inl rfl))).trans i,⟨d.1,d.2.imp id ?_⟩,j,a⟩;rintro⟨g,cap,c,rfl,k1,m,n⟩;exact⟨g,cap,c,rfl,k1,(h g ((a g).2 (.inr rfl))).trans m,n⟩
def JB(T:TypeId)(X:BdT T)(b:Nat)(l:List UInt8)(s:ByteArray)(hl:l.length+s.size<=8388608)(Y:World):FxF prog Y (YY T b l) 64 #[.pointer (some ⟨b,0,none⟩),.string s] (λ_:Unit=>.tuple #[.int .i64 s.size,.nilIface]) (λ_:Unit=>YY T b (l++s.data.toList)) (λ_=>False):=by
 refine⟨λa w=>call64 a w,λw B x S hS hφ=>?_⟩;let⟨hx,p,v,hp,I,j,C,f⟩:=hφ;have J:b<w.heap.size:=(hS b ((f b).2 (.inl rfl))).2;let⟨i0,hi,K,L,M⟩:=info_parts extraW.infoByte;go_enter func64,ntmps64
 have Z:∀args w,(callFunc 101 args).run prog w=.ok (.enter 101 args) w:=λa w=>call101 a w
 go_wp2_with (go_at_fn 101;refine(vQ X hp I).mono ?_)
 rintro e N ⟨rfl,D,n,r⟩;have E:N.ownsRow 0 5 1 v l.length (Lib.byteCells l):=⟨j.1,j.2.imp id λ⟨g,cap,o,e,k1,O,Q⟩=>⟨g,cap,o,e,k1,(r g λR=>C (by rw[e,<- R];rfl)).trans O,Q⟩⟩
 let⟨v',m,F,c,i,U⟩:=kQ (P:=prog) (ty:=82) laysW.t37 laysW.t9 hi K L M E s x3;have V:(l++s.data.toList).length=l.length+s.size:=x6;obtain⟨z,A,cap,rfl⟩:∃z A cap,v'=.slice z A cap:=by
  rcases c.2 with⟨hv,_⟩|⟨g,cap,o,hv,_⟩<;>exact⟨_,_,_,hv⟩
 have c1:N.cell? ⟨b,1,none⟩=some v:=by rw[Lib.cell_of_heap D];rfl
 have t:b<N.heap.size:=L9 J n.size;have q:m.heap[b]?=some (.cells #[.pointer (some ⟨b,0,none⟩),v] T (0,0)):=by
  rw[i.block b t (λe=>C e.symm)];exact D
 have f1:m.frozen? ⟨b,1,none⟩=false:=Lib.frozen_of_heap q 1;have d1:m.cell? ⟨b,1,none⟩=some v:=by rw[Lib.cell_of_heap q];rfl
 go_wp2_with (at_builtin;refine Qce rfl _ _ _ _ rfl rfl rfl F ?_)
 go_wp2
 go_ret2
 have u:=Lib.ownBlock_ne c q X.2;have W:(m.setCell ⟨b,1,none⟩ (.slice z A cap)).heap.size=m.heap.size:=by simp[World.setCell]
 have y:∀k,k≠b->(m.setCell ⟨b,1,none⟩ (.slice z A cap)).heap[k]?=m.heap[k]?:=λk d=>Sr m ⟨b,1,none⟩ _ k d
 have G:∀k,k<w.heap.size->k≠b->v.ownBlock≠some k->(m.setCell ⟨b,1,none⟩ (.slice z A cap)).heap[k]?=w.heap[k]?:=λk d h1 h2=>by
  rw[y k h1,i.block k (L9 d n.size) (λe=>h2 e.symm),r k h1]
 have bt:Below 0 w (m.setCell ⟨b,1,none⟩ (.slice z A cap)):=(n.trans ⟨i.os,i.tape,i.output,i.size,λk d=>absurd d (R4 k)⟩).setCell (p:=⟨b,1,none⟩) (L7 _) _;refine .inl ⟨(),λk=>k=b\/(Value.slice z A cap).ownBlock=some k,rfl,⟨?_,λk d hn=>G k d (λe=>hn ((f k).2 (.inl e))) λe=>hn ((f k).2 (.inr e))⟩,⟨hx,_,_,.inr rfl,by simp[World.setCell,Array.getElem?_modify,q],⟨?_,c.2.imp (λh=>by rw[V];exact h) ?_⟩,u,λk=>Iff.rfl⟩,λk d=>?_⟩
 ·have hw:∀k,k<Y.heap.size->¬ S k:=λk d h=>T4 _ (L9 d (hS k h).1)
  exact⟨bt.os.trans B.os,bt.tape.trans B.tape,bt.output.trans B.output,L6 B.size bt.size,λk d=>(G k (L9 d B.size) (λe=>hw k d ((f k).2 (.inl e))) λe=>hw k d ((f k).2 (.inr e))).trans (B.block k d)⟩
 ·rw[Lib.byteCells_append,<- Lib.strCells_eq,V];exact c.1
 ·rintro⟨g,H,o,e,k1,O,Q⟩;rw[Lib.byteCells_append,<- Lib.strCells_eq,V];exact⟨g,H,o,e,k1,(y g λR=>u (by rw[e,R];rfl)).trans O,Q⟩
 ·rw[W];rcases d with rfl|d
  ·exact⟨.inl ((f _).2 (.inl rfl)),L9 t i.size⟩
  ·exact⟨(U k d).imp (λh=>(f k).2 (.inr h)) (L6 n.size),(c.lt k d).2⟩
def FO(T:TypeId)(b:Nat)(l:List UInt8)(B:l≠[])(C:World):FxF prog C (YY T b l) 36 #[.pointer (some ⟨b,0,none⟩)] (λ_:Unit=>.string ⟨l.toArray⟩) (λ_:Unit=>anyR) (λ_=>False):=by
 refine⟨λa w=>call36 a w,λw f x S hS D=>?_⟩;let⟨s,p,v,O,t,d,E,u⟩:=D;have i:l.length≠0:=l3 B;obtain⟨g,cap,c,rfl,F,G,H,y,I,z⟩:∃g cap c,v=.slice (some ⟨g,0,none⟩) l.length cap/\0<=g/\w.heap[g]?=some (.cells c 5 (0,0))/\l.length<=cap/\cap<=maxLen/\c.size=cap*1/\c.toList.take (l.length*1)=Lib.byteCells l:=by
  rcases d.2 with⟨_,J⟩|⟨g,cap,c,K,r⟩
  ·exact absurd J i
  ·exact⟨g,cap,c,K,r⟩
 have m:S g:=(u g).2 (.inr rfl);have P:w.drew.cell? ⟨b,1,none⟩=some (.slice (some ⟨g,0,none⟩) l.length cap):=by
  have:w.drew.heap[b]?=_:=t;rw[Lib.cell_of_heap this];rfl
 have L:(Builtin.unsafeSliceData_ #[82] 145 #[.slice (some ⟨g,0,none⟩) l.length cap]).run prog w.drew=.ok (.pointer (some ⟨g,0,none⟩)) w.drew :=
  Lib.run_unsafeSliceData_row _ _ _ _ _ _ x3
 have M:(Builtin.unsafeString_ #[145,3] 9 #[.pointer (some ⟨g,0,none⟩),.int .i64 l.length]).run prog w.drew=.ok (.string ⟨l.toArray⟩) (w.drew.freeze ⟨g,0,none⟩ l.length):=by
  refine Lib.run_unsafeString_row w.drew 145 3 9 5 x5 extraW.cellsByte g c.size (by have A:w.drew.heap[g]?=some (.cells c 5 (0,0)):=G;simp[World.shape?,A]) l B x3 (by unfold maxLen at y;omega) ?_
  intro j x s;exact d.cells (g:=g) rfl j (.int .u8 x.toNat) (by simp[Lib.byteCells,s])
 have n:Kk C (λ_:Unit=>.string ⟨l.toArray⟩) (λ_:Unit=>anyR) (λ_=>False) x S w (.returned (.string ⟨l.toArray⟩)) (w.drew.freeze ⟨g,0,none⟩ l.length):=by
  have o:∀k,k≠g->(w.drew.freeze ⟨g,0,none⟩ l.length).heap[k]?=w.heap[k]?:=λk q=>by
   unfold World.freeze;rw[if_neg i];simp only[Array.getElem?_modify];rw[if_neg λe=>q e.symm];rfl
  have bt:Below 0 w (w.drew.freeze ⟨g,0,none⟩ l.length):=Lib.below_freeze (Below.drew (p5 0 w)) (p:=⟨g,0,none⟩) (L7 _) _;exact .inl ⟨(),λ_=>False,rfl,⟨⟨bt.os.trans f.os,bt.tape.trans f.tape,bt.output.trans f.output,L6 f.size bt.size,λk q=>(o k λe=>T4 _ (L9 q (hS k (e▸m)).1)).trans (f.block k q)⟩,λk q N=>o k λe=>N (e▸m)⟩,s,λb h=>h.elim⟩
 have QU:prog.follows .mixedOrders=true:=x5;go_enter func36,ntmps36
 go_wp2
 go_region_o
 all_goals (go_wp2;go_ret;exact n)
open Go.WideShapes Go.ChangeShapes Go.Deep
section
variable{H:Type}{enc:o0×y9->H}{w:m0}{base:Nat}{spare:Nat->Bool}{held:Bool}
def Kz:prog.cellsOf 32=3:=x5
def bE:prog.cellsOf 4=1:=x5
def C9:prog.cellsOf 9=1:=x5
def GA:prog.cellsOf 3=1:=x5
def yk{α:Type}{l:List α}(h:l.length=2):∃a b,l=[a,b]:=by
 match l,h with | [a,b],_=>exact⟨a,b,rfl⟩
def Qdt{α:Type}{l:List α}(h:l.length=3):∃a b c,l=[a,b,c]:=by
 match l,h with | [a,b,c],_=>exact⟨a,b,c,rfl⟩
def rF{a:Nat}{cs:o3}{x:DataW H×List MemPlace}(h:DataW.trod enc prog w base spare held a 30 cs=some x):∃(b:Bool) (s:m1),cs=[.bool b,.string s]/\s.size<=maxLen:=by
 let⟨j,k,n,_,e,c,d⟩:=trod_struct2 Tryz.underlying30 h;rw[Oc]at e;obtain⟨c0,l,rfl⟩:=yk e;dsimp only at c d;rw[bE]at c;rw[C9]at d;let⟨b,f,_⟩:=DataW.trod_bool Tryz.underlying4 c;let⟨s,g,_,i⟩:=DataW.trod_string Tryz.underlying9 d;simp at f g;subst f g;exact⟨b,s,rfl,i⟩
def rG{a:Nat}{cs:o3}{x:DataW H×List MemPlace}(h:DataW.trod enc prog w base spare held a 32 cs=some x):∃(b:Bool) (s:m1) (e:Int),cs=[.bool b,.string s,.int .i64 e]/\s.size<=maxLen:=by
 let⟨k,l,n,_,f,c,d⟩:=trod_struct2 Tryz.underlying32 h;rw[Kz]at f;obtain⟨c0,m,c2,rfl⟩:=Qdt f;dsimp only at c d;rw[Oc]at c;rw[GA]at d;let⟨b,s,g,j⟩:=rF c;let⟨e,i,_⟩:=DataW.trod_int Tryz.underlying3 d;simp at g i;obtain⟨rfl,rfl⟩:=g;subst i;exact⟨b,s,e,rfl,j⟩
end
