/- Laws beneath the statement. -/
import Derived.Test.YtoibldcmoapgbaaGreatDoorQP27
namespace Go.Proofs.YtoibldcmoapgbaaGreatDoor
open Tryz
set_option maxRecDepth 100000
open Go Go.RowKit
def V2(x:Tk): a8:=[.string x.s,.int .i64 x.a]
theorem Kc(w0:y9)(v:z0): Qn prog w0 (Instr.makeInterface 103 v) (.iface 103 v):=λw _=>x5
def zn(z:Int): z0:=.iface 103 (.int .i64 z)
structure χ where
 A0:Option Addr
 c0:Nat
 ls:List Ln
 Al:Nat->Option Addr
 cl:Nat->Nat
 A:Option Addr
 c:Nat
 l:List Tk
 ne:Int
 en:Int
def χ.fd(s:χ): FD:=⟨s.ls,s.l,s.ne,s.en⟩
def χ.cs(s:χ)(xs:a8): a8:=.slice s.A0 s.ls.length s.c0::.slice s.A s.l.length s.c::.int .i64 s.ne::.int .i64 s.en::xs
structure χ.ok (s:χ) (w:World):Prop where
 h0:s.ls.length<=s.c0
 r0:RdK w s.A0 s.ls.length 2 (λj=>[.slice (s.Al j) (Xj s.ls j).l.length (s.cl j),.int .i64 (Xj s.ls j).e])
 hl:∀j,j<s.ls.length->(Xj s.ls j).l.length<=s.cl j
 rl:∀j,j<s.ls.length->RdK w (s.Al j) (Xj s.ls j).l.length 2 (λi=>V2 (Qf (Xj s.ls j).l i))
 hc:s.l.length<=s.c
 rd:RdK w s.A s.l.length 2 (λj=>V2 (Qf s.l j))
def vd(l:List Tk): Prop:=l.length<=4000/\∀t,t∈l->0<t.s.size/\t.s.size<=4000
structure okF (s:FD):Prop where
 l:vd s.l
 n:s.ls.length<=4001
 ls:∀n,n∈s.ls->vd n.l/\n.l≠[]
structure χ.In (s:χ) (M:Res):Prop where
 ok:∀(x:Value) (S:Nat->Prop) (w:World),M.φ x S w->s.ok w
 f:okF s.fd
 ca:s.ls.length<=s.c0
 na:0<s.ls.length->∃b o,s.A0=some ⟨b,o,none⟩
def χ.nx(s:χ): χ:={ s with A:=AI s.A s.c 2,c:=s.c-1,l:=s.l.drop 1 }
def χ.ln(s:χ): χ:={ s with A0:=AI s.A0 s.c0 2,c0:=s.c0-1,ls:=s.ls.drop 1,Al:=λj=>s.Al (j+1),cl:=λj=>s.cl (j+1),A:=s.Al 0,c:=s.cl 0,l:=(Xj s.ls 0).l,ne:=(Xj s.ls 0).e }
def χ.nxs:Nat->χ->χ
 | 0,s=>s
 | n+1,s=>(χ.nxs n s).nx
theorem zw{w0:y9}{A:u5}{c:Nat}{l:List Tk}(e:0<l.length)(a:l.length<=c)(b:RdK w0 A l.length 2 (λj=>V2 (Qf l j))):
  Qn prog w0 (Instr.sliceAt 63 (.slice A l.length c) (some (.int .i64 1)) none none) (.slice (AI A c 2) (l.drop 1).length (c-1)):=by
 obtain⟨n,d⟩:∃n,l.length=n+1:=⟨l.length-1,x3⟩
 rw[d]at b a ⊢;rw[show(l.drop 1).length=n by rw[Lf];omega];exact sN (Qu 63 _ rfl) rfl x4 a b
theorem s8{α:Type}{w0:y9}{A:u5}{c:Nat}{l:List α}{f:Nat->a8}(a:l.length<=c)(b:RdK w0 A l.length 2 f): RdK w0 (AI A c 2) (l.drop 1).length 2 (λj=>f (j+1)):=by
 cases l with
 | nil=>intro h;simp at h
 | cons x l=>exact lh a b
theorem gr(l:List Tk)(j:Nat): Qf (l.drop 1) j=Qf l (j+1):=by
 unfold Qf;cases l<;>rfl
theorem Ee(l:List Ln)(j:Nat): Xj (l.drop 1) j=Xj l (j+1):=by
 unfold Xj;cases l<;>rfl
theorem χ.ok.nx{s:χ}{w:y9}(h:s.ok w): s.nx.ok w:=⟨h.h0,h.r0,h.hl,h.rl,(by show(s.l.drop 1).length<=s.c-1;rw[Lf];have:=h.hc;omega),(s8 h.hc h.rd).congr λj _=>by show _=V2 (Qf (s.l.drop 1) j);rw[gr]⟩
theorem χ.ok.ln{s:χ}{w:y9}(h:s.ok w)(b:0<s.ls.length): s.ln.ok w:=by
 have c:∀j,j<(s.ls.drop 1).length->j+1<s.ls.length:=λj a=>by rw[Lf]at a;omega
 refine⟨by show(s.ls.drop 1).length<=s.c0-1;rw[Lf];have:=h.h0;omega,(s8 h.h0 h.r0).congr λj _=>?_,λj a=>?_,λj a=>?_,h.hl 0 b,h.rl 0 b⟩
 ·show _=[Value.slice (s.Al (j+1)) (Xj (s.ls.drop 1) j).l.length (s.cl (j+1)),.int .i64 (Xj (s.ls.drop 1) j).e];rw[Ee]
 ·show(Xj (s.ls.drop 1) j).l.length<=s.cl (j+1);rw[Ee];exact h.hl _ (c j a)
 ·show RdK w (s.Al (j+1)) (Xj (s.ls.drop 1) j).l.length 2 (λi=>V2 (Qf (Xj (s.ls.drop 1) j).l i));rw[Ee];exact h.rl _ (c j a)
theorem ku{l:List Tk}(h:vd l): vd (l.drop 1):=⟨by rw[Lf];have:=h.1;omega,λt a=>h.2 t (Ti a)⟩
theorem PY{l:List Ln}{k:Nat}(h:k<l.length): Xj l k∈l:=by
 unfold Xj;rw[List.getD,m0 h];exact Sq h
theorem mo{l:List Tk}{k:Nat}(h:k<l.length): Qf l k∈l:=by
 unfold Qf;rw[List.getD,m0 h];exact Sq h
theorem χ.In.nx{s:χ}{M:Res}(h:s.In M): s.nx.In M:=⟨λx S w a=>(h.ok x S w a).nx,⟨ku h.f.l,h.f.n,h.f.ls⟩,h.ca,h.na⟩
theorem χ.In.ln{s:χ}{M:Res}(h:s.In M)(a:0<s.ls.length): s.ln.In M:=⟨λx S w c=>(h.ok x S w c).ln a,⟨(h.f.ls _ (PY a)).1,(by show(s.ls.drop 1).length<=4001;rw[Lf];have:s.ls.length<=4001:=h.f.n;omega),λn d=>h.f.ls n (Ti d)⟩,(by show(s.ls.drop 1).length<=s.c0-1;rw[Lf];have:=h.ca;omega),λ_=>by
 obtain⟨b,o,e⟩:=h.na a;exact⟨b,_,(show AI s.A0 s.c0 2=some _ by rw[e];rfl)⟩⟩
theorem uE{A:u5}{c:Nat}{l:List Ln}(a:0<l.length)(d:l.length<=c)(e:∃b o,A=some ⟨b,o,none⟩)(w:y9): (Instr.sliceAt 61 (.slice A l.length c) (some (.int .i64 1)) none none).run prog w=.ok (.slice (AI A c 2) (l.drop 1).length (c-1)) w:=by
 obtain⟨b,o,rfl⟩:=e;rw[J0 prog w b o l.length c 1 l.length (some (.int .i64 1)) none (Qu 61 _ rfl) rfl x4 (.inr ⟨.i64,rfl⟩) (.inl ⟨rfl,rfl⟩) a d,Tg,Lf];rfl
theorem χ.In.nxs{s:χ}{M:Res}(h:s.In M): ∀n,(χ.nxs n s).In M
 | 0=>h
 | n+1=>(h.nxs n).nx
theorem Gl{n:Nat}(h:(!decide ((n:Int)>0))=false): 0<n:=by
 have a:decide ((n:Int)>0)=true:=y8 h;have:=L1 a;omega
theorem nt{b:Bool}(h:(!b)=true): b=false:=y8 h
theorem nf{b:Bool}(h:(!b)=false): b=true:=y8 h
theorem nT{s:χ}(h:decide ((s.l.length:Int)>0)=true): XK s.fd=.error (Qf s.l 0).a:=by
 obtain⟨_,_,ls,_,_,_,_,l,_,_⟩:=s;cases l with
 | nil=>cases h
 | cons t l=>rfl
theorem nU{s:χ}(h:decide ((s.l.length:Int)>0)=false): XK s.fd=.ok ((),s.fd):=by
 obtain⟨_,_,ls,_,_,_,_,l,_,_⟩:=s;cases l with
 | nil=>rfl
 | cons t l=>have:=L7 h;simp at this
theorem uR{s:χ}(h:(!decide ((s.l.length:Int)>0))=true): XN s.fd=.error s.ne:=by
 obtain⟨_,_,ls,_,_,_,_,l,_,_⟩:=s;cases l with
 | nil=>rfl
 | cons t l=>have:=L7 (nt h);simp at this
theorem uS{s:χ}(h:(!decide ((s.l.length:Int)>0))=false): XN s.fd=.ok (Qf s.l 0,s.nx.fd):=by
 obtain⟨_,_,ls,_,_,_,_,l,_,_⟩:=s;cases l with
 | nil=>cases h
 | cons t l=>rfl
theorem vg{s:χ}(h:(!decide ((s.ls.length:Int)>0))=true): Na s.fd=.error s.en:=by
 obtain⟨_,_,ls,_,_,_,_,l,_,_⟩:=s;cases ls with
 | nil=>rfl
 | cons t l=>have:=L7 (nt h);simp at this
theorem Ov{s:χ}(h:(!decide ((s.ls.length:Int)>0))=false): Na s.fd=.ok ((),s.ln.fd):=by
 obtain⟨_,_,ls,_,_,_,_,l,_,_⟩:=s;cases ls with
 | nil=>cases h
 | cons t l=>rfl
theorem Co{b:Bool}{z:Int}{s:FD}(h:b=false): MZ b z s=.error z:=by rw[h];rfl
theorem Cp{b:Bool}{z:Int}{s:FD}(h:b=true): MZ b z s=.ok ((),s):=by rw[h];rfl
def Xl{α:Type}(p:Pz α)(s:χ)(v:z0): Prop:=∃z,p s.fd=.error z/\v=zn z
def zQ(W:y9)(g:Nat)(b:a8)(M:Res)(s:χ)(f:FuncId)(args:b7){α:Type}(p:Pz α)(a:α)(t:χ)(v:z0): Prop :=
 FxF prog W (Qh g 69 (s.cs b) M) f args (λ_:PLift (p s.fd=.ok (a,t.fd))=>v) (λ_=>Qh g 69 (t.cs b) M) (Xl p s)
def QS(s:χ): Nm:=ni (ZJ (Qf s.l 0).s.data.toList).1
theorem s7{s:χ}{x:Tk×FD}(h:vd s.l)(e:XN s.fd=.ok x): (Qf s.l 0).s.size<=4000:=by
 obtain⟨_,_,ls,_,_,_,_,l,_,_⟩:=s;cases l with
 | nil=>cases e
 | cons t l=>exact(h.2 t x6).2
theorem au{s:χ}{x:Tk×FD}(h:vd s.l)(e:XN s.fd=.ok x): 0<(Qf s.l 0).s.size:=by
 obtain⟨_,_,ls,_,_,_,_,l,_,_⟩:=s;cases l with
 | nil=>cases e
 | cons t l=>exact(h.2 t x6).1
theorem jV{s:u4}(a:s.size<=60000)(W:y9)(b:Q0 W): RetAt prog W 154 #[.string s] (.tuple #[.agg #[.bool (neg (dm (ZJ s.data.toList).1)),.string (Qx (dm (ZJ s.data.toList).1)),.int .i64 (de (ZJ s.data.toList).1)],.int .i64 (ZJ s.data.toList).2.1,.int .i64 (ZJ s.data.toList).2.2]):=jU a W b
abbrev HCa(g:Nat):z0:=.pointer (some ⟨g,1,none⟩)
abbrev HCb(s:χ):z0:=.int .i64 ((Qf s.l 0).a)
theorem NL(g:Nat)(M:Res)(s:χ)(xs:a8)(m:s.In M)(W:y9): zQ W g xs M s 79 #[x02 g] XK () s (.tuple #[]) :=
 Gb Qu QR (λa w=>call79 a w) func79 ntmps79 results79 _ rfl _ _ _ _ [.inl 0 1 f113,.o 1 2 (.set (HCa g)),.o 1 3 (.set (HCa g)),.o 1 4 (.rd [0] (Ω s.A s.l.length s.c)),.both [.o 1 2 (.set (HCa g)),.o 1 3 (.set (HCa g)),.o 1 4 (.rd [0] (Ω s.A s.l.length s.c)),.o 1 5 (.rd [0] (.pointer (some (Xi s.A (0*2+0))))),.o 1 6 (.set (.pointer (some (Xi s.A (0*2+1))))),.o 1 7 (.rd [0] (HCb s)),.inl 1 8 f73,.o 1 1 (.set (.iface 103 (HCb s)))] []] (λF=>Kr func113 (λa w=>call113 a w) (XM W g 0) (Yh W g 1) (QU (w0:=W) (g:=g) (t:=69) (cs:=(χ.cs s xs)) (M:=M) (λb e=>YP b 1 e rfl))<|XA (decide ((s.l.length:Int)>0)) (λd=>Zb (XM W g 0) (Yh W g 1) (QU (w0:=W) (g:=g) (t:=69) (cs:=(χ.cs s xs)) (M:=M) (λb e=>YP b 1 e rfl)) (Yo W g 69 (χ.cs s xs) M (λb x S f=>have j:=m.ok x S b f;YO b s.c 0 j.rd (XD d))) (JE W s.A 2 0 0) (Yo W g 69 (χ.cs s xs) M (λb x S f=>have j:=m.ok x S b f;C8 b 0 1 j.rd (XD d) x4 rfl)) func73 (λa w=>call73 a w)<|ai (Kc W (HCb s))<|(J8 F (.iface 103 (HCb s)) (Xl XK s) (show Xl XK s (.iface 103 (Θ ((Qf s.l 0).a)))from⟨_,nT d,rfl⟩))) λd=>(Zs (F:=F) (v:=.tuple #[]) (val:=λ_:PLift (XK s.fd=.ok ((),s.fd))=>.tuple #[]) (R1:=Qh g 69 (χ.cs s xs) M) (R:=λ_:PLift (XK s.fd=.ok ((),s.fd))=>Qh g 69 (χ.cs s xs) M) ⟨nU d⟩ rfl λ_ _ _ h=>h)) λF=>x5
abbrev HCc(g:Nat):z0:=.pointer (some ⟨g,1,none⟩)
abbrev HCd(s:χ)(xs:a8):a8:=.slice s.A0 s.ls.length s.c0::.slice (AI s.A s.c 2) (s.l.drop 1).length (s.c-1)::.int .i64 s.ne::.int .i64 s.en::xs
theorem WG(g:Nat)(M:Res)(s:χ)(xs:a8)(k:s.In M)(W:y9): zQ W g xs M s 108 #[x02 g] XN (Qf s.l 0) s.nx (.agg #[Ψ ((Qf s.l 0).s),Θ ((Qf s.l 0).a)]) :=
 Gb Qu QR (λa w=>call108 a w) func108 ntmps108 results108 _ rfl _ _ _ _ [.reg 12 [],.o 1 2 (.set (HCc g)),.o 1 3 (.set (HCc g)),.o 1 4 (.rd [0] (Ω s.A s.l.length s.c)),.o 1 9 (.set (HCc g)),.o 1 10 (.set (.pointer (some ⟨g,2,none⟩))),.o 1 11 (.rd [0] (Θ s.ne)),.inl 1 12 f73,.both [.o 1 1 (.set (.iface 103 (Θ s.ne)))] [.o 2 2 (.set (HCc g)),.o 2 3 (.set (HCc g)),.o 2 4 (.rd [0] (Ω s.A s.l.length s.c)),.o 2 5 (.rd [0] (.pointer (some (Xi s.A (0*2+0))))),.o 2 6 (.rd [0] (.agg #[Ψ ((Qf s.l 0).s),Θ ((Qf s.l 0).a)])),.o 3 3 (.set (HCc g)),.o 3 4 (.set (HCc g)),.o 3 5 (.rd [0] (Ω s.A s.l.length s.c)),.o 3 6 (.rd [0] (Ω (AI s.A s.c 2) (s.l.drop 1).length (s.c-1))),.o 3 8 (.set (HCc g)),.o 3 9 (.set (HCc g)),.eff 3 10 0 (λ(m:Unit)=>undef) (λ(m:Unit)=>Qh g 69 (HCd s xs) M) (λ(m:Unit)=>[])]] (λF=>Zb (XM W g 0) (Yh W g 1) (QU (w0:=W) (g:=g) (t:=69) (cs:=(χ.cs s xs)) (M:=M) (λb d=>YP b 1 d rfl)) (XM W g 0) (Fb (w0:=W) (g:=g) (o:=1)) (QU (w0:=W) (g:=g) (t:=69) (cs:=(χ.cs s xs)) (M:=M) (λb d=>Y7 b 2 d rfl)) func73 (λa w=>call73 a w)<|XA (!(decide ((s.l.length:Int)>0))) (λe=>ai (Kc W (Θ s.ne))<|(J8 F (.iface 103 (Θ s.ne)) (Xl XN s) (show Xl XN s (.iface 103 (Θ s.ne))from⟨_,uR e,rfl⟩))) λe=>Zb (XM W g 0) (Yh W g 1) (QU (w0:=W) (g:=g) (t:=69) (cs:=(χ.cs s xs)) (M:=M) (λb d=>YP b 1 d rfl)) (Yo W g 69 (χ.cs s xs) M (λb x S j=>have f:=k.ok x S b j;YO b s.c 0 f.rd (Gl e))) (Yo W g 69 (χ.cs s xs) M (λb x S j=>have f:=k.ok x S b j;I8 (w0:=b) (i:=0) (o:=0) f.rd (Gl e) x4 rfl rfl)) (XM W g 0) (Yh W g 1) (QU (w0:=W) (g:=g) (t:=69) (cs:=(χ.cs s xs)) (M:=M) (λb d=>YP b 1 d rfl))<|JH (Yo W g 69 (χ.cs s xs) M (λb x S j=>have f:=k.ok x S b j;zw (Gl e) f.hc f.rd)) (XM W g 0) (Yh W g 1)<|ai (Yy W prog g 69 (χ.cs s xs) M 63 ([Ω (AI s.A s.c 2) (s.l.drop 1).length (s.c-1)]) 1 (Ω (AI s.A s.c 2) (s.l.drop 1).length (s.c-1)) (Qu 63 _ rfl) rfl rfl (L3 rfl) (Lc.1 (rfl:([Ω (AI s.A s.c 2) (s.l.drop 1).length (s.c-1)]:a8).all (λu=>u.oneCell')=true))) λ(m:Unit)=>(Zs (F:=F) (v:=.agg #[Ψ ((Qf s.l 0).s),Θ ((Qf s.l 0).a)]) (val:=λ_:PLift (XN s.fd=.ok ((Qf s.l 0),s.nx.fd))=>.agg #[Ψ ((Qf s.l 0).s),Θ ((Qf s.l 0).a)]) (R1:=Qh g 69 (HCd s xs) M) (R:=λ_:PLift (XN s.fd=.ok ((Qf s.l 0),s.nx.fd))=>Qh g 69 (χ.cs s.nx xs) M) ⟨uS e⟩ rfl λ_ _ _ h=>h)) λF=>x5
abbrev HCe(s:χ):=ZJ (Qf s.l 0).s.data.toList
abbrev HCf(s:χ):=XN s.fd=.ok ((Qf s.l 0),s.nx.fd)
theorem D9(g:Nat)(M:Res)(s:χ)(xs:a8)(d:s.In M)(W:y9)(e:Q0 W): zQ W g xs M s 114 #[x02 g] XP (QS s) s.nx (nA (QS s)) :=
 Gb Qu QR (λa w=>call114 a w) func114 ntmps114 results114 _ rfl _ _ _ _ [.fx 1 1 0 (λ(b:PLift (HCf s))=>.agg #[Ψ ((Qf s.l 0).s),Θ ((Qf s.l 0).a)]) (λ(b:PLift (HCf s))=>Qh g 69 (χ.cs s.nx xs) M) (Xl XN s) (λ(b:PLift (HCf s))=>[.o 2 2 (.ret (.tup [.agg [bV (neg (dm (HCe s).1)),sV (Qx (dm (HCe s).1)),iV (de (HCe s).1)],iV ((HCe s).2.1),iV ((HCe s).2.2)])),.inl 3 4 f73,.both [.o 1 1 (.set (.iface 103 (Θ ((Qf s.l 0).a))))] []])] (λF=>ai (WG g M s xs d W)<|ai (λ(b:PLift (HCf s))=>JH (jV (s:=(Qf s.l 0).s) (L9 (s7 d.f.l b.down) x4) W e) func73 (λa w=>call73 a w)<|XA (!(((ZJ (Qf s.l 0).s.data.toList).2.2)==0)) (λc=>ai (Kc W (Θ ((Qf s.l 0).a)))<|(J8 F (.iface 103 (Θ ((Qf s.l 0).a))) (Xl XP s) (show Xl XP s (.iface 103 (Θ ((Qf s.l 0).a)))from⟨_,(Qv b.down).trans (Q3 (Co (nt c))),rfl⟩))) λc=>(Zs (F:=F) (v:=.agg #[Ξ (neg (dm (HCe s).1)),Ψ (Qx (dm (HCe s).1)),Θ (de (HCe s).1)]) (val:=λ_:PLift (XP s.fd=.ok ((QS s),s.nx.fd))=>nA (QS s)) (R1:=Qh g 69 (χ.cs s.nx xs) M) (R:=λ_:PLift (XP s.fd=.ok ((QS s),s.nx.fd))=>Qh g 69 (χ.cs s.nx xs) M) ⟨(Qv b.down).trans (Qv (Cp (nf c)))⟩ rfl λ_ _ _ h=>h)) (X9 F (Xl XN s) (Xl XP s) λ_ h=>h.imp λ_ h=>⟨Q3 h.1,h.2⟩)) λF=>x5
theorem mX{w:y9}{g:Nat}{bt:u6}{a:List u4}(b:Bx w g bt (a.map Value.string).toArray)(j:Nat)(c:j<a.length): w.cell? ⟨g,0+j,none⟩=some (.string (a.getD j ByteArray.empty)):=by
 rw[Lj,Bx.cel b];simp[List.getD,m0 c]
theorem QaN(W:y9)(F:Res)(c:Nat){g:Nat}{bt:u6}{b:List u4}(x:u4){n:Nat}(f:n<=b.length)(k:n<=100)(h:∀(y:z0) (S:Nat->Prop) (w:y9),F.φ y S w->Bx w g bt (b.map Value.string).toArray):
  AQ prog W [F] 109 #[.slice (some ⟨g,0,none⟩) n c,.string x] (.int .i64 (Lib.idxOfS (b.take n) x)):=⟨λa w=>call109 a w,λd _ y S i=>by
 refine(Tryz.slices_Index_string g 0 n c b x d f x3 (mX (h y S d i))).mono λe l j=>?_
 obtain⟨rfl,rfl⟩:=j;exact⟨rfl,l3 _ _⟩⟩
abbrev HCg(zs:List u4)(n:Nat)(s:χ):=Lib.idxOfS (zs.take n) (Qf s.ln.l 0).s
abbrev HCh(s:χ):=XN s.ln.fd=.ok ((Qf s.ln.l 0),s.ln.nx.fd)
abbrev HCi(s:χ):z0:=.int .i64 ((Qf s.ln.l 0).a)
abbrev HCj(s:χ)(xs:a8):a8:=.slice s.A0 s.ls.length s.c0::.slice (s.Al 0) (Xj s.ls 0).l.length (s.cl 0)::.int .i64 ((Xj s.ls 0).e)::.int .i64 s.en::xs
abbrev HCk(g:Nat):z0:=.pointer (some ⟨g,0,none⟩)
abbrev HCl(s:χ):a8:=[.slice (s.Al 0) (Xj s.ls 0).l.length (s.cl 0),.int .i64 ((Xj s.ls 0).e)]
abbrev HCm(zs:List u4)(n:Nat)(s:χ):=(Qq (zs.take n)) s.fd=.ok ((HCg zs n s),s.ln.nx.fd)
abbrev HCn(s:χ):=XK s.fd=.ok ((),s.fd)
abbrev HCo(s:χ):z0:=.slice s.A0 s.ls.length s.c0
abbrev HCp(s:χ):a8:=[.slice (AI s.A0 s.c0 2) (s.ls.drop 1).length (s.c0-1)]
theorem Dd(g:Nat)(M:Res)(s:χ)(xs:a8)(zs:List u4)(n c:Nat)(p:s.In M)(bt:u6)(D:n<=zs.length)(E:n<=100)(W:y9): XB prog 71/\∀d,Below W.heap.size W d->∀x S,(∀b,S b->W.heap.size<=b/\b<d.heap.size)->(Qh g 69 (s.cs xs) M).φ x S d->∀j,Bx d j bt (zs.map Value.string).toArray->W.heap.size<=j->¬ S j->Calls prog 71 #[x02 g,Ω (some ⟨j,0,none⟩) n c] d (wO W (λ_:PLift ((Qq (zs.take n)) s.fd=.ok ((Lib.idxOfS (zs.take n) (Qf s.ln.l 0).s),s.ln.nx.fd))=>Θ (Lib.idxOfS (zs.take n) (Qf s.ln.l 0).s)) (λ_:PLift ((Qq (zs.take n)) s.fd=.ok ((Lib.idxOfS (zs.take n) (Qf s.ln.l 0).s),s.ln.nx.fd))=>Qh g 69 (χ.cs s.ln.nx xs) M) (Xl (Qq (zs.take n)) s) x S d) :=
 uo (β:=PLift (HCm zs n s)) Qu QR (λa w=>call71 a w) func71 ntmps71 results71 (λj=>[x02 g,Ω (some ⟨j,0,none⟩) n c]) (λ_=>rfl) bt _ _ _ _ _ (λj=>[.fx 1 1 0 (λ(k:PLift (HCn s))=>.tuple #[]) (λ(k:PLift (HCn s))=>Qh g 69 (χ.cs s xs) M) (Xl XK s) (λ(k:PLift (HCn s))=>[.reg 10 [],.o 2 2 (.set (HCk g)),.o 2 3 (.rd [0] (HCo s)),.o 2 8 (.set (.pointer (some ⟨g,3,none⟩))),.o 2 9 (.rd [0] (Θ s.en)),.inl 2 10 f73,.both [.o 1 1 (.set (.iface 103 (Θ s.en)))] [.reg 15 [1,12],.o 3 4 (.set (HCk g)),.o 3 5 (.rd [0] (HCo s)),.o 3 6 (.rd [0] (.pointer (some (Xi s.A0 (0*2+0))))),.o 3 7 (.rd [0] (.agg #[Ω (s.Al 0) (Xj s.ls 0).l.length (s.cl 0),Θ ((Xj s.ls 0).e)])),.o 3 10 (.set (HCk g)),.o 3 11 (.rd [0] (HCo s)),.o 3 12 (.set (Ω (AI s.A0 s.c0 2) (s.ls.drop 1).length (s.c0-1))),.o 3 14 (.set (.pointer (some ⟨g,1,none⟩))),.eff 3 15 0 (λ(y:Unit)=>undef) (λ(y:Unit)=>Qh g 69 (HCj s xs) M) (λ(y:Unit)=>[.o 3 17 (.set (HCk g)),.eff 3 18 0 (λ(z:Unit)=>undef) (λ(z:Unit)=>Qh g 69 (Ω (AI s.A0 s.c0 2) (s.ls.drop 1).length (s.c0-1)::Ω (s.Al 0) (Xj s.ls 0).l.length (s.cl 0)::Θ ((Xj s.ls 0).e)::Θ s.en::xs) M) (λ(z:Unit)=>[.fx 4 1 0 (λ(q:PLift (HCh s))=>.agg #[Ψ ((Qf s.ln.l 0).s),Θ ((Qf s.ln.l 0).a)]) (λ(q:PLift (HCh s))=>Qh g 69 (χ.cs s.ln.nx xs) M) (Xl XN s.ln) (λ(q:PLift (HCh s))=>[.o 5 3 (.retr [1] (Θ (HCg zs n s))),.gb 6 3 [.o 6 5 (.set (Ξ (!decide (((Qf s.ln.l 0).s)=⟨#[]⟩)))),.inl 6 9 f73,.both [.o 1 1 (.set (.iface 103 (HCi s)))] []] [.inl 6 9 f73,.o 1 1 (.set (.iface 103 (HCi s)))]])])])]])]) (λj F G=>ai (NL g M s xs p W)<|ai (λ(k:PLift (HCn s))=>Gz (XL W g 0) (QU (w0:=W) (g:=g) (t:=69) (cs:=(χ.cs s xs)) (M:=M) (λd m=>X8 d 0 m rfl)) (Hm (w0:=W) (g:=g) (o:=0)) (QU (w0:=W) (g:=g) (t:=69) (cs:=(χ.cs s xs)) (M:=M) (λd m=>Y7 d 3 m rfl)) func73 (λa w=>call73 a w)<|XA (!(decide ((s.ls.length:Int)>0))) (λf=>ai (Kc W (Θ s.en))<|(J8 F (.iface 103 (Θ s.en)) (Xl (Qq (zs.take n)) s) (show Xl (Qq (zs.take n)) s (.iface 103 (Θ s.en))from⟨_,(Qv k.down).trans (Q3 (vg f)),rfl⟩))) λf=>Zb (XL W g 0) (QU (w0:=W) (g:=g) (t:=69) (cs:=(χ.cs s xs)) (M:=M) (λd m=>X8 d 0 m rfl)) (Yo W g 69 (χ.cs s xs) M (λd x S A=>have B:=p.ok x S d A;Ka d s.c0 0 B.r0 (Gl f))) (Yo W g 69 (χ.cs s xs) M (λd x S A=>have B:=p.ok x S d A;I7 (w0:=d) (i:=0) (o:=0) B.r0 (Gl f) x4 rfl rfl)) (XL W g 0) (QU (w0:=W) (g:=g) (t:=69) (cs:=(χ.cs s xs)) (M:=M) (λd m=>X8 d 0 m rfl)) (uE (Gl f) p.ca (p.na (Gl f))) (XM W g 0)<|ai (Yy W prog g 69 (χ.cs s xs) M 65 (HCl s) 1 (.agg #[Ω (s.Al 0) (Xj s.ls 0).l.length (s.cl 0),Θ ((Xj s.ls 0).e)]) (Qu 65 _ rfl) rfl rfl (L3 rfl) (Lc.1 (rfl:((HCl s):a8).all (λu=>u.oneCell')=true))) λ(y:Unit)=>ai (XL W g 0)<|ai (Yy W prog g 69 (HCj s xs) M 61 (HCp s) 0 (Ω (AI s.A0 s.c0 2) (s.ls.drop 1).length (s.c0-1)) (Qu 61 _ rfl) rfl rfl (L3 rfl) (Lc.1 (rfl:((HCp s):a8).all (λu=>u.oneCell')=true))) λ(z:Unit)=>ai (WG g M s.ln xs (p.ln (Gl f)) W)<|ai (λ(q:PLift (HCh s))=>ai (QaN W F c (Qf s.ln.l 0).s D E G)<|ZG (decide ((Lib.idxOfS (zs.take n) (Qf s.ln.l 0).s)>=0)) true (λr=>JH (qU W (.tmp 47) (.const (x00)) ((Qf s.ln.l 0).s) ⟨#[]⟩) func73 (λa w=>call73 a w)<|XA (!(!decide (((Qf s.ln.l 0).s)=⟨#[]⟩))) (λC=>ai (Kc W (HCi s))<|(J8 F (.iface 103 (HCi s)) (Xl (Qq (zs.take n)) s) (show Xl (Qq (zs.take n)) s (.iface 103 (Θ ((Qf s.ln.l 0).a)))from⟨_,(Qv k.down).trans ((Qv (Ov f)).trans ((Qv q.down).trans (Q3 (Co (by rw[r,nt C];rfl))))),rfl⟩))) λC=>(Zs (F:=F) (v:=Θ (HCg zs n s)) (val:=λ_:PLift (HCm zs n s)=>Θ (HCg zs n s)) (R1:=Qh g 69 (χ.cs s.ln.nx xs) M) (R:=λ_:PLift (HCm zs n s)=>Qh g 69 (χ.cs s.ln.nx xs) M) ⟨(Qv k.down).trans ((Qv (Ov f)).trans ((Qv q.down).trans (Qv (Cp (by rw[r,nf C];rfl)))))⟩ rfl λ_ _ _ h=>h)) λr=>JH func73 (λa w=>call73 a w) (Kc W (HCi s))<|(J8 F (.iface 103 (HCi s)) (Xl (Qq (zs.take n)) s) (show Xl (Qq (zs.take n)) s (.iface 103 (Θ ((Qf s.ln.l 0).a)))from⟨_,(Qv k.down).trans ((Qv (Ov f)).trans ((Qv q.down).trans (Q3 (Co (by rw[r];rfl))))),rfl⟩))) (X9 F (Xl XN s.ln) (Xl (Qq (zs.take n)) s) λ_ h=>h.imp λ_ h=>⟨(Qv k.down).trans ((Qv (Ov f)).trans (Q3 h.1)),h.2⟩)) (X9 F (Xl XK s) (Xl (Qq (zs.take n)) s) λ_ h=>h.imp λ_ h=>⟨Q3 h.1,h.2⟩)) λj F=>x5
def QO(fn:Func): Code:=fn.body.getD .skip
theorem BE{W a:y9}(h:Below W.heap.size W a): KpC W a:=⟨h.size,λk o b _=>(h.block k (o3.1 b).1).trans b⟩
theorem YG{β:Type}{B:Nat}{J:β->y9->Prop}(b:AbidesFrom B J){s:β}{W a:y9}(h:Below W.heap.size W a)(c:J s W): J s a :=
 b s W a none c ⟨h.os,h.tape,h.output,h.size,λk d _=>h.block k d⟩ λ_ e=>by cases e
theorem EA{α:Type}: ∀ {l:List α} {i:Nat} {o:α},l[i]?=some o->l=l.take i++o::l.drop (i+1)
 | [],_,_,h=>by simp at h
 | x::l,0,o,h=>by simp at h;simp[h]
 | x::l,i+1,o,h=>by
  have a:l[i]?=some o:=y8 h;show x::l=x::(l.take i++o::l.drop (i+1));rw[<- EA a]
section
variable {P:Program} {tt:List (Nat×TI)} {w0:World}
theorem Nf(o:YF P tt)(q:P.follows .mixedOrders=true){n:Nat}{c:Code}{d:List Dir}{σ:St}{p:St->List Dir->Prop}{X:Act->y9->Prop}{Q:Exit->Act->y9->Prop}{r:Env}{a:Act}{w:y9}(h:Xu P tt (JI P tt w0) (0,0) w0 c σ d λe g j=>ZO e (p g j))(s:Sat w0 σ r a w)(t:∀g j r' b f,p g j->Sat w0 g r' b f->X b f): c.wpIn Fence.wide n P (Exit.then X Q) a w:=by
 refine wpIn_wide.2 (wp_mono (bz o q (Jp o q 9) (0,0) c σ d _ h ⟨La _,La _⟩ r a w s (λe b f=>e=.normal/\X b f) (λ_ _ _ _ _ h=>by cases h.1) (λ_ _ _ _ _ _ h=>False.elim h) λe g j r' b f k l _ _=>?_) λe b f m=>?_)
 ·cases e with
  | normal=>exact⟨rfl,t g j r' b f k l⟩
  | ret=>exact False.elim k
  | exit i=>exact False.elim k
 ·obtain⟨rfl,m⟩:=m;exact m
theorem IZ(C:YF P tt)(R:P.follows .mixedOrders=true){c:Code}(hc:m4 c=c){τ:Nat->St}(g:∀k,(τ k).bs=[]/\(τ k).rs=[]){α:Type}{xs:List α}{l m n:Nat}{enc:α->z0}(df:α)(ct:m+n<=xs.length){F:y9->Prop}(S:∀W O,F W->KpC W O->F O){ci dst:Nat}{o:Oper}(ho:(Vc (AP c)).toList[ci]?=some o){f:b8}{args:List b8}(D:NJ o=some (f,args))(T:o.dst=some dst)(bk:∀k,DH (some dst) (τ k).n=true)(bl:(Vc (AP c)).toList.all Ij=true)(h1:∀k W,k<=n->F W->∃d,Xu P tt (JI P tt W) (0,0) W (zL c) (τ k) d λe σ _=>ZO e (K3 σ (zM c) λs=>s=.val (.bool (decide ((k:Int)<(n:Int))))/\XT σ (τ k) True))(h2:∀k W,k<n->F W->∃d,Xu P tt (JI P tt W) (0,0) W (zK c) (τ k) d λe σ d=>ZO e (JU P tt (JI P tt W) W (aa (AP c)) (Vc (AP c)) ((Vc (AP c)).toList.take ci) 0 σ d λσ _=>v1 σ f λfv=>vL σ args λvs=>fv=.func (.yield l) #[] #[]/\vs=[enc (xs.getD (m+k) df)]/\XT σ (τ k) True))(h3:∀k W b,k<n->∃d,JU P tt (JI P tt W) W (aa (AP c)) (Vc (AP c)) ((Vc (AP c)).toList.drop (ci+1)) (ci+1) ((τ k).push (some dst) (bV b)) d λσ _=>K3 σ (xd c) λs=>s=.val (.bool (!b))/\XT σ (τ k) True)(h4:∀k W,k<n->∃d,Xu P tt (JI P tt W) (0,0) W (xc c) (τ k) d λe σ _=>ZO e (XT σ (τ (k+1)) True)){J Jx:List {x // x∈xs}->y9->Prop}{B:Nat}(hJ:AbidesFrom B J)(bX:AbidesFrom B Jx)(hY:∀pre x W1,J pre W1->pre.length<xs.length->YieldAt Fence.wide 7 P l #[enc x.1] W1 λe O=>(e=.returned (.bool true)/\J (pre++[x]) O/\KpC W1 O)\/(e=.returned (.bool false)/\Jx (pre++[x]) O)){Q:Exit->Act->y9->Prop}{r:Env}{a:Act}{w:y9}(hS:Sat w0 (τ 0) r a w)(y:F w)(E:J (xs.attach.take m) w)(G:∀U W,Sat W (τ n) e0 U W->F W->J (xs.attach.take (m+n)) W->Q .normal U W)(H:∀U W pre,Jx pre W->U.defers=[]->Q .ret U W): c.wpIn Fence.wide 8 P Q a w:=by
 rw[<- hc];unfold m4;refine wpIn_block (Gy (λk a w=>k<=n/\Sat w (τ k) e0 a w/\F w/\J (xs.attach.take (m+k)) w) (λk=>n-k) (λk a w bY=>?_) 0 ⟨La _,hS.rebase (g 0).1 (g 0).2 w,y,E⟩);obtain⟨hk,hS,y,E⟩:=bY;obtain⟨d1,e1⟩:=h1 k w hk y;refine wpIn_seq (Nf C R e1 hS λσ1 _ r1 a1 I hp K=>?_);obtain⟨s,q1,q2,q3⟩:=QF hp;have he:=(Qy K.see q1).1;rw[q2]at he;have X:=((QV w q3).2 _ _ _ K).rebase (g k).1 (g k).2 I;have Y:=K.see.low;have L:=S _ _ y (BE Y);have Z:=YG hJ Y E;by_cases q:k<n
 ·refine wpIn_seq (wpIn_cond_true (by rw[he];simp[SV.den,q]) (wpIn_skip ?_));refine wpIn_seq (wpIn_block ?_);obtain⟨d2,e2⟩:=h2 k I q L;refine wpIn_seq (Nf C R e2 X λσ2 d2 r2 a2 w2 ca cb=>?_);refine wpIn_seq (wpIn_region_list ?_);have t:=bl;have cc:=EA ho;generalize Vc (AP c)=j at *;rw[cc]at t ⊢;rw[List.all_append,Lu]at t;obtain⟨n1,n2⟩:=t;obtain⟨_,n3⟩:=L6.1 (show(Ij o&&(j.toList.drop (ci+1)).all Ij)=true from n2);refine Ed _ (λe a w=>e=.normal/\wpListIn Fence.wide 8 P j _ (o::j.toList.drop (ci+1)) a w) (λ⟨_,_,h,_⟩=>by cases h) (λ_ _ _ h=>by cases h.1) (λ_ _ h=>h.2) n1 (KQ C (Jp C R 9) _ 0 σ2 d2 _ ca r2 a2 w2 cb _ (λ_ _ _ _ _ _ h=>False.elim h) λσ3 d3 r3 a3 w3 M z _ _=>⟨rfl,?_⟩);obtain⟨fv,M,cd⟩:=Xm I M;obtain⟨vs,⟨rfl,rfl,ad⟩,cf⟩:=Du I M;have ae:=z.see.low;have ch:=S _ _ L (BE ae);have cj:=YG hJ ae Z;obtain⟨y1,y2,y3⟩:=Nz (P:=P) D (cd r3 a3 w3 z.see) (cf r3 a3 w3 z.see) w3;obtain⟨fn,tmps,assign,body,y4,y5⟩:=hY _ ⟨xs[m+k],Sq x3⟩ w3 cj (by rw[Lk,List.length_attach];omega);unfold wpListIn;rw[if_pos (by unfold Region.wanted;rw[y2])];refine⟨λ_ _=>trivial,?_⟩;rw[Oper.semAt_eq _ _ _ (λc e=>by unfold Ij at y3;rw[e]at y3;cases y3),y1,show xs.getD (m+k) df=xs[m+k]from YM x3,y4];refine⟨λh=>(by cases h),y5.mono λe v hr=>?_⟩;have ag:=λV=>((QV I ad).2 _ _ _ z).rebase (g k).1 (g k).2 V
  have after:∀(b:Bool) (v:y9) {Qr:Exit->Act->y9->Prop},(∀N r5 A p,K3 N (xd c) (λs=>s=.val (.bool (!b))/\XT N (τ k) True)->Sat v N r5 A p->Qr .normal A p)->wpListIn Fence.wide 8 P j Qr (j.toList.drop (ci+1)) (a3.put o.dst (.bool b)) v:=λb v Qr hq=>by
   obtain⟨d5,e5⟩:=h3 k v b q;have cl:=(ag v).put (s:=bV b) (bk k) rfl;have h6:=Ed Qr (λe a w=>e=.normal/\Qr .normal a w) (n:=8) (P:=P) (ops:=j) (m2:=[]) (λ⟨_,_,h,_⟩=>by cases h) (λ_ _ _ h=>by cases h.1) (λ_ _ h=>h.2) n3 (KQ C (Jp C R 9) _ (ci+1) _ d5 _ e5 e0 _ v cl _ (λ_ _ _ _ _ _ h=>False.elim h) λN d5 r5 A p u i _ _=>⟨rfl,hq N r5 A p u i⟩);rw[Tc]at h6;rw[T];exact h6
  rcases hr with⟨rfl,cm,cn⟩|⟨rfl,al⟩
  ·refine after true v λN r5 A p u i=>?_
   obtain⟨s,u1,u2,u3⟩:=QF u;have hu:=(Qy i.see u1).1;rw[u2]at hu;refine wpIn_cond_false (by rw[hu];rfl) (wpIn_skip ?_);have ao:=((QV v u3).2 _ _ _ i).rebase (g k).1 (g k).2 p;have aw:=i.see.low;have cp:=S _ _ (S _ _ ch cn) (BE aw);have cq:=YG hJ aw cm;obtain⟨d6,e6⟩:=h4 k p q;show(xc c).wpIn Fence.wide 8 P _ A p;refine Nf C R e6 ao λσ6 _ r6 a6 w6 cr aB=>?_
   have bd:=aB.see.low;refine⟨k+1,⟨q,((QV p cr).2 _ _ _ aB).rebase (g (k+1)).1 (g (k+1)).2 w6,S _ _ cp (BE bd),?_⟩,x3⟩;have h7:=YG hJ bd cq;rw[show m+(k+1)=m+k+1 by omega,Rr (by rw[List.length_attach];omega),List.getElem_attach];exact h7
  ·refine after false v λN r5 A p u i=>?_
   obtain⟨s,u1,u2,u3⟩:=QF u;have hu:=(Qy i.see u1).1;rw[u2]at hu;refine wpIn_cond_true (by rw[hu];rfl) (wpIn_ret ?_);show Q .ret A p;exact H A p _ (YG bX i.see.low al) i.defers
 ·have bi:k=n:=x3;subst bi;refine wpIn_seq (wpIn_cond_false (by rw[he];simp[SV.den]) (wpIn_exit ?_));show(if xt c=xt c then Q .normal a1 I else _);rw[if_pos rfl];exact G a1 I X L Z
end
abbrev HCq(y:Nat):z0:=.pointer (some ⟨y,0,none⟩)
abbrev HCr(l:Nat):z0:=.func (.yield l) #[] #[]
theorem kM{S y l:Nat}{B C D:u5}{E cs F:Nat}{H:Nat->z0}{M:Nat->u5}{N O:Nat->Nat}{ν ε:Nm}{bx:List (Nm×Nm)}{a:List (List Nm)}{q:List Nd}{δ vars ζ:Int}{T U:u5}{V X nr Y:Nat}(t:okL0 bx a q)(W:y9)(G:Bx W y 35 #[Θ δ,Θ vars,Ω B bx.length E,Ω C a.length cs,Ω T V X,Ω U nr Y,Ξ ν.b,Ψ ν.s,Θ ν.e,Ξ ε.b,Ψ ε.s,Θ ε.e,Θ ζ,Ω D q.length F])(P:RdK W B bx.length 6 (λj=>Jw (Xc bx j)))(Q:RdK W C a.length 1 (λj=>[H j]))(Z:∀j,j<a.length->SlV S 3 V0 W (QC a j) (H j))(R:RdK W D q.length 6 (ng q M N O)): DO prog tt W f89 (xT (K9 4 f89) (λy:Hp=>(⟨69,[(0,.val (.func (.yield l) #[] #[])),(3,lV y.1 (Qo ν ε bx a q).length y.2)],[],[]⟩:St)) 0 (λy:Hp=>Qc 32 3 YB (Qo ν ε bx a q) y.1 y.2) True) (O4 69 [.func (.yield l) #[] #[],x02 y]) [.o 0 0 (.set (.pointer (some ⟨y,6,none⟩))),.o 0 1 (.set (nA ν)),.o 0 2 (.set (.pointer (some ⟨y,9,none⟩))),.o 0 3 (.set (nA ε)),.row 1 99999 0 [3,16] 32 3 YB ([ν,ε]) (λ(z:Hp)=>[.o 1 0 (.set (.pointer (some ⟨y,2,none⟩))),.o 1 1 (.set (.pointer (some ⟨y,2,none⟩))),.o 1 2 (.set (Ω B bx.length E)),P0 (λ(q1:Nat×Hp)=>(⟨69,[(0,.val (.func (.yield l) #[] #[])),(1,.val (x02 y)),(3,lV q1.2.1 (([ν,ε]++(bx.take q1.1).flatMap λs=>[s.1,s.2])).length q1.2.2),(19,lV B bx.length E),(20,iV (bx.length:Int)),(21,iV (q1.1:Int))],[],[some (Qc 32 3 YB ([ν,ε]++(bx.take q1.1).flatMap λs=>[s.1,s.2]) q1.2.1 q1.2.2)]⟩:St)) bx.length (0,z) (λ(q1:Nat×Hp)=>[.both [.o 3 0 (.set (.pointer (some (Xi B (q1.1*6+0))))),.o 3 1 (.set (.agg #[Ξ ((Xc bx q1.1).1.b),Ψ ((Xc bx q1.1).1.s),Θ ((Xc bx q1.1).1.e),Ξ ((Xc bx q1.1).2.b),Ψ ((Xc bx q1.1).2.s),Θ ((Xc bx q1.1).2.e)])),.eff 4 6 0 (λ(r:Hp)=>Ω r.1 (([ν,ε]++(bx.take (q1.1+1)).flatMap λs=>[s.1,s.2])).length r.2) (λ(r:Hp)=>Qc 32 3 YB ([ν,ε]++(bx.take (q1.1+1)).flatMap λs=>[s.1,s.2]) r.1 r.2) (λ(r:Hp)=>[.o 5 0 (.eq (iV ((q1.1+1:Nat):Int))),.nxt [r]])] [.o 6 0 (.set (.pointer (some ⟨y,2,none⟩))),.o 6 1 (.set (.pointer (some ⟨y,3,none⟩))),.o 6 2 (.set (Ω C a.length cs)),P0 (λ(k:Nat×Hp)=>(⟨69,[(0,.val (.func (.yield l) #[] #[])),(1,.val (x02 y)),(3,lV k.2.1 ((([ν,ε]++bx.flatMap λs=>[s.1,s.2])++(a.take k.1).flatMap λp=>p)).length k.2.2),(35,lV C a.length cs),(36,iV (a.length:Int)),(37,iV (k.1:Int))],[],[some (Qc 32 3 YB (([ν,ε]++bx.flatMap λs=>[s.1,s.2])++(a.take k.1).flatMap λp=>p) k.2.1 k.2.2)]⟩:St)) a.length (0,q1.2) (λ(k:Nat×Hp)=>[.both [.o 8 0 (.set (.pointer (some (Xi C (k.1*1+0))))),.o 8 1 (.set (H k.1)),.eff 9 2 0 (λ(r:Hp)=>Ω r.1 ((([ν,ε]++bx.flatMap λs=>[s.1,s.2])++(a.take (k.1+1)).flatMap λp=>p)).length r.2) (λ(r:Hp)=>Qc 32 3 YB (([ν,ε]++bx.flatMap λs=>[s.1,s.2])++(a.take (k.1+1)).flatMap λp=>p) r.1 r.2) (λ(r:Hp)=>[.o 10 0 (.eq (iV ((k.1+1:Nat):Int))),.nxt [r]])] [.o 11 0 (.set (.pointer (some ⟨y,13,none⟩))),.o 11 1 (.set (Ω D q.length F)),P0 (λ(d:Nat×Hp)=>(⟨69,[(0,.val (.func (.yield l) #[] #[])),(1,.val (x02 y)),(3,lV d.2.1 (((([ν,ε]++bx.flatMap λs=>[s.1,s.2])++a.flatMap λp=>p)++(q.take d.1).flatMap λn=>[n.ο])).length d.2.2),(46,lV D q.length F),(47,iV (q.length:Int)),(48,iV (d.1:Int))],[],[some (Qc 32 3 YB ((([ν,ε]++bx.flatMap λs=>[s.1,s.2])++a.flatMap λp=>p)++(q.take d.1).flatMap λn=>[n.ο]) d.2.1 d.2.2)]⟩:St)) q.length (0,k.2) (λ(d:Nat×Hp)=>[.both [.o 13 0 (.set (.pointer (some (Xi D (d.1*6+0))))),.o 13 1 (.set (.agg #[Θ ((Qw q d.1).split),Ξ ((Qw q d.1).ο.b),Ψ ((Qw q d.1).ο.s),Θ ((Qw q d.1).ο.e),Θ ((Qw q d.1).sum.vars),Ω (M d.1) (N d.1) (O d.1)])),.eff 14 4 0 (λ(r:Hp)=>Ω r.1 (((([ν,ε]++bx.flatMap λs=>[s.1,s.2])++a.flatMap λp=>p)++(q.take (d.1+1)).flatMap λn=>[n.ο])).length r.2) (λ(r:Hp)=>Qc 32 3 YB ((([ν,ε]++bx.flatMap λs=>[s.1,s.2])++a.flatMap λp=>p)++(q.take (d.1+1)).flatMap λn=>[n.ο]) r.1 r.2) (λ(r:Hp)=>[.o 15 0 (.eq (iV ((d.1+1:Nat):Int))),.nxt [r]])] [.esc 16]])]])]])])] (λ_ _ _=>False) :=
 Xs (Kr (AY W y 0) (jJ (o:=6) G (by first|decide|exact L3 rfl)) (AZ W y 0) (jJ (o:=9) G (by first|decide|exact L3 rfl)) (show([Ξ ν.b,Ψ ν.s,Θ ν.e,Ξ ε.b,Ψ ε.s,Θ ε.e]:a8)=List.flatMap YB ([ν,ε])from rfl)<|ai (k0 ZE (show([ν,ε]).length<=maxLen from(by simp[maxLen]))) λ(z:Hp)=>Zb (Yq W y 0) (V8 W y 2) (Ww _ 2 G rfl) (qV (HCr l)) (qV (HCq y)) (show(Ω z.1 ([ν,ε]).length z.2:z0)=(Ω z.1 (([ν,ε]++(bx.take 0).flatMap λs=>[s.1,s.2])).length z.2)from x6) (qV (Ω B bx.length E)) (qI (bx.length:Int))<|X7 (qI ((0:Nat):Int)) (Zo (Qc 32 3 YB ([ν,ε]) z.1 z.2) (Qc 32 3 YB ([ν,ε]++(bx.take 0).flatMap λs=>[s.1,s.2]) z.1 z.2) λ_ _ _ h=>ZF x6 x6 h)<|ai (show 0<=bx.length from La _) λ(q1:Nat×Hp) (ad:(q1.1<=bx.length))=>XA (decide ((q1.1:Int)<(bx.length:Int))) (λw=>X7 (H9 E q1.1 P (XD w)) (Ci q1.1 0 P (XD w) x4 rfl rfl)<|ai (Yj (w0:=W) (ty:=48) (c:=YB) (l:=([ν,ε]++(bx.take q1.1).flatMap λs=>[s.1,s.2])) (l2:=[(Xc bx q1.1).1,(Xc bx q1.1).2]) (l':=([ν,ε]++(bx.take (q1.1+1)).flatMap λs=>[s.1,s.2])) (A:=q1.2.1) (cp:=q1.2.2) (bt:=32) (m:=2) (cp2:=2) (cs:=[Ξ ((Xc bx q1.1).1.b),Ψ ((Xc bx q1.1).1.s),Θ ((Xc bx q1.1).1.e),Ξ ((Xc bx q1.1).2.b),Ψ ((Xc bx q1.1).2.s),Θ ((Xc bx q1.1).2.e)]) Vq ZE Ct (tk (f:=λs=>[s.1,s.2]) (nm0,nm0) (XD w) [ν,ε]) (vj t (q1.1+1)) rfl rfl) λ(r:Hp)=>Zb (QQ q1.1 (by have:=L1 w;have:=t.hb;have:=t.hs;have:=t.hc;omega)) (qV (HCr l)) (qV (HCq y)) (qV (Ω r.1 (([ν,ε]++(bx.take (q1.1+1)).flatMap λs=>[s.1,s.2])).length r.2)) (qV (Ω B bx.length E)) (qI (bx.length:Int)) (qI (((q1.1+1):Nat):Int)) (Zo (Qc 32 3 YB ([ν,ε]++(bx.take (q1.1+1)).flatMap λs=>[s.1,s.2]) r.1 r.2) (Qc 32 3 YB ([ν,ε]++(bx.take (q1.1+1)).flatMap λs=>[s.1,s.2]) r.1 r.2) λ_ _ _ h=>h)<|ai (show q1.1+1<=bx.length from XD w) (show bx.length-(q1.1+1)<bx.length-q1.1 from y6 (L1 w))) λw=>Zb (Yq W y 0) (JV y 2 (w0:=W)) (VO _ 3 G rfl) (qV (HCr l)) (qV (HCq y)) (show(Ω q1.2.1 (([ν,ε]++(bx.take q1.1).flatMap λs=>[s.1,s.2])).length q1.2.2:z0)=(Ω q1.2.1 ((([ν,ε]++bx.flatMap λs=>[s.1,s.2])++(a.take 0).flatMap λp=>p)).length q1.2.2)from(by rw[Dr (f:=λs=>[s.1,s.2]) (show bx.length<=q1.1 by have:=L7 w;omega) [ν,ε]];simp)) (qV (Ω C a.length cs)) (qI (a.length:Int))<|X7 (qI ((0:Nat):Int)) (Zo (Qc 32 3 YB ([ν,ε]++(bx.take q1.1).flatMap λs=>[s.1,s.2]) q1.2.1 q1.2.2) (Qc 32 3 YB (([ν,ε]++bx.flatMap λs=>[s.1,s.2])++(a.take 0).flatMap λp=>p) q1.2.1 q1.2.2) λ_ _ _ h=>ZF (by rw[Dr (f:=λs=>[s.1,s.2]) (show bx.length<=q1.1 by have:=L7 w;omega) [ν,ε]];simp) (by rw[Dr (f:=λs=>[s.1,s.2]) (show bx.length<=q1.1 by have:=L7 w;omega) [ν,ε]];simp) h)<|ai (show 0<=a.length from La _) λ(k:Nat×Hp) (ae:(k.1<=a.length))=>XA (decide ((k.1:Int)<(a.length:Int))) (λv=>X7 (JN cs k.1 Q (XD v)) (VM k.1 0 Q (XD v) x4 rfl)<|ai (V5 (w0:=W) (ty:=48) (c:=YB) (l:=(([ν,ε]++bx.flatMap λs=>[s.1,s.2])++(a.take k.1).flatMap λp=>p)) (l2:=(QC a k.1)) (l':=(([ν,ε]++bx.flatMap λs=>[s.1,s.2])++(a.take (k.1+1)).flatMap λp=>p)) (A:=k.2.1) (cp:=k.2.2) (u:=H k.1) Mg ZE Ct (tk (f:=λp=>p) [] (XD v) ([ν,ε]++bx.flatMap λs=>[s.1,s.2])) (vk t (k.1+1)) (λW' I=>tq ZE x4 nm0 ((Z k.1 (y6 (L1 v))).below YR I))) λ(r:Hp)=>Zb (QQ k.1 (by have:=L1 v;have:=t.hb;have:=t.hs;have:=t.hc;omega)) (qV (HCr l)) (qV (HCq y)) (qV (Ω r.1 ((([ν,ε]++bx.flatMap λs=>[s.1,s.2])++(a.take (k.1+1)).flatMap λp=>p)).length r.2)) (qV (Ω C a.length cs)) (qI (a.length:Int)) (qI (((k.1+1):Nat):Int)) (Zo (Qc 32 3 YB (([ν,ε]++bx.flatMap λs=>[s.1,s.2])++(a.take (k.1+1)).flatMap λp=>p) r.1 r.2) (Qc 32 3 YB (([ν,ε]++bx.flatMap λs=>[s.1,s.2])++(a.take (k.1+1)).flatMap λp=>p) r.1 r.2) λ_ _ _ h=>h)<|ai (show k.1+1<=a.length from XD v) (show a.length-(k.1+1)<a.length-k.1 from y6 (L1 v))) λv=>Zb (Jf W y 0) (Cj _ 13 G rfl) (qV (HCr l)) (qV (HCq y)) (show(Ω k.2.1 ((([ν,ε]++bx.flatMap λs=>[s.1,s.2])++(a.take k.1).flatMap λp=>p)).length k.2.2:z0)=(Ω k.2.1 (((([ν,ε]++bx.flatMap λs=>[s.1,s.2])++a.flatMap λp=>p)++(q.take 0).flatMap λn=>[n.ο])).length k.2.2)from(by rw[Dr (f:=λp=>p) (show a.length<=k.1 by have:=L7 v;omega) ([ν,ε]++bx.flatMap λs=>[s.1,s.2])];simp)) (qV (Ω D q.length F)) (qI (q.length:Int)) (qI ((0:Nat):Int))<|ai (Zo (Qc 32 3 YB (([ν,ε]++bx.flatMap λs=>[s.1,s.2])++(a.take k.1).flatMap λp=>p) k.2.1 k.2.2) (Qc 32 3 YB ((([ν,ε]++bx.flatMap λs=>[s.1,s.2])++a.flatMap λp=>p)++(q.take 0).flatMap λn=>[n.ο]) k.2.1 k.2.2) λ_ _ _ h=>ZF (by rw[Dr (f:=λp=>p) (show a.length<=k.1 by have:=L7 v;omega) ([ν,ε]++bx.flatMap λs=>[s.1,s.2])];simp) (by rw[Dr (f:=λp=>p) (show a.length<=k.1 by have:=L7 v;omega) ([ν,ε]++bx.flatMap λs=>[s.1,s.2])];simp) h)<|ai (show 0<=q.length from La _) λ(d:Nat×Hp) (ag:(d.1<=q.length))=>XA (decide ((d.1:Int)<(q.length:Int))) (λx=>X7 (VK F d.1 R (XD x)) (BF d.1 0 R (XD x) x4 rfl rfl)<|ai (Yj (w0:=W) (ty:=48) (c:=YB) (l:=((([ν,ε]++bx.flatMap λs=>[s.1,s.2])++a.flatMap λp=>p)++(q.take d.1).flatMap λn=>[n.ο])) (l2:=[(Qw q d.1).ο]) (l':=((([ν,ε]++bx.flatMap λs=>[s.1,s.2])++a.flatMap λp=>p)++(q.take (d.1+1)).flatMap λn=>[n.ο])) (A:=d.2.1) (cp:=d.2.2) (bt:=32) (m:=1) (cp2:=1) (cs:=[Ξ ((Qw q d.1).ο.b),Ψ ((Qw q d.1).ο.s),Θ ((Qw q d.1).ο.e)]) Vq ZE Ct (tk (f:=λn=>[n.ο]) ndD (XD x) (([ν,ε]++bx.flatMap λs=>[s.1,s.2])++a.flatMap λp=>p)) (kJ t (d.1+1)) rfl rfl) λ(r:Hp)=>Zb (QQ d.1 (by have:=L1 x;have:=t.hb;have:=t.hs;have:=t.hc;omega)) (qV (HCr l)) (qV (HCq y)) (qV (Ω r.1 (((([ν,ε]++bx.flatMap λs=>[s.1,s.2])++a.flatMap λp=>p)++(q.take (d.1+1)).flatMap λn=>[n.ο])).length r.2)) (qV (Ω D q.length F)) (qI (q.length:Int)) (qI (((d.1+1):Nat):Int)) (Zo (Qc 32 3 YB ((([ν,ε]++bx.flatMap λs=>[s.1,s.2])++a.flatMap λp=>p)++(q.take (d.1+1)).flatMap λn=>[n.ο]) r.1 r.2) (Qc 32 3 YB ((([ν,ε]++bx.flatMap λs=>[s.1,s.2])++a.flatMap λp=>p)++(q.take (d.1+1)).flatMap λn=>[n.ο]) r.1 r.2) λ_ _ _ h=>h)<|ai (show d.1+1<=q.length from XD x) (show q.length-(d.1+1)<q.length-d.1 from y6 (L1 x))) λx=>X7 (show K9 4 f89=some (Kq 4 f89)from x5) trivial<|(show ∃y:Hp,(∀(J:z0) (K:Nat->Prop) (L:y9),(Qc 32 3 YB ((([ν,ε]++bx.flatMap λs=>[s.1,s.2])++a.flatMap λp=>p)++(q.take d.1).flatMap λn=>[n.ο]) d.2.1 d.2.2).φ J K L->(Qc 32 3 YB (Qo ν ε bx a q) y.1 y.2).φ J K L)/\((.func (.yield l) #[] #[]:z0)=.func (.yield l) #[] #[])/\((Ω d.2.1 (((([ν,ε]++bx.flatMap λs=>[s.1,s.2])++a.flatMap λp=>p)++(q.take d.1).flatMap λn=>[n.ο])).length d.2.2:z0)=Ω y.1 (Qo ν ε bx a q).length y.2)/\True from⟨d.2,λJ K L h=>ZF (by rw[Dr (f:=λn=>[n.ο]) (show q.length<=d.1 by have:=L7 x;omega) (([ν,ε]++bx.flatMap λs=>[s.1,s.2])++a.flatMap λp=>p)];rfl) (by rw[Dr (f:=λn=>[n.ο]) (show q.length<=d.1 by have:=L7 x;omega) (([ν,ε]++bx.flatMap λs=>[s.1,s.2])++a.flatMap λp=>p)];rfl) h,rfl,(by rw[Dr (f:=λn=>[n.ο]) (show q.length<=d.1 by have:=L7 x;omega) (([ν,ε]++bx.flatMap λs=>[s.1,s.2])++a.flatMap λp=>p)];rfl),trivial⟩)) x5
theorem yH(A:u5)(cp l:Nat)(ν ε:Nm)(bx:List (Nm×Nm))(κ:List (List Nm))(ct:List Nd)(W:y9): Xu prog tt (JI prog tt W) (0,0) W (Zj (Kq 4 f89)) (⟨69,[(0,.val (.func (.yield l) #[] #[])),(3,lV A (Qo ν ε bx κ ct).length cp)],[],[]⟩:St) [] (λe σ _=>ZO e (XT σ (⟨69,[(0,.val (.func (.yield l) #[] #[])),(58,lV A (Qo ν ε bx κ ct).length cp),(59,iV (((Qo ν ε bx κ ct).length:Nat):Int)),(60,iV ((0:Nat):Int))],[],[]⟩:St) True)) :=
 Xs (Km (qV (.func (.yield l) #[] #[])) (qV (Ω A (Qo ν ε bx κ ct).length cp)) (qI (((Qo ν ε bx κ ct).length:Nat):Int)) (qI ((0:Nat):Int))<|trivial) x5
theorem yI{A:u5}{c:Nat}{l:Nat}{ν ε:Nm}{bx:List (Nm×Nm)}{a:List (List Nm)}{b:List Nd}(k:Nat)(W:y9): Xu prog tt (JI prog tt W) (0,0) W (zL (QA (Kq 4 f89))) (⟨69,[(0,.val (.func (.yield l) #[] #[])),(58,lV A (Qo ν ε bx a b).length c),(59,iV (((Qo ν ε bx a b).length:Nat):Int)),(60,iV (k:Int))],[],[]⟩:St) [] (λe σ _=>ZO e (K3 σ (zM (QA (Kq 4 f89))) λs=>s=.val (Ξ (decide ((k:Int)<(((Qo ν ε bx a b).length:Nat):Int))))/\XT σ (⟨69,[(0,.val (.func (.yield l) #[] #[])),(58,lV A (Qo ν ε bx a b).length c),(59,iV (((Qo ν ε bx a b).length:Nat):Int)),(60,iV (k:Int))],[],[]⟩:St) True)) :=
 Xs (Kr (show((.val (Ξ (decide ((k:Int)<(((Qo ν ε bx a b).length:Nat):Int)))):SV)=bV (decide ((k:Int)<(((Qo ν ε bx a b).length:Nat):Int))))from rfl) (qV (.func (.yield l) #[] #[])) (qV (Ω A (Qo ν ε bx a b).length c)) (qI (((Qo ν ε bx a b).length:Nat):Int)) (qI (k:Int))<|trivial) x5
theorem yJ{A:u5}{f:Nat}{l:Nat}{ν ε:Nm}{bx:List (Nm×Nm)}{a:List (List Nm)}{b:List Nd}(k:Nat)(g:k<(Qo ν ε bx a b).length)(W:y9)(h:RdK W A (Qo ν ε bx a b).length 3 (λj=>YB (Xn (Qo ν ε bx a b) j))): Xu prog tt (JI prog tt W) (0,0) W (zK (QA (Kq 4 f89))) (⟨69,[(0,.val (.func (.yield l) #[] #[])),(58,lV A (Qo ν ε bx a b).length f),(59,iV (((Qo ν ε bx a b).length:Nat):Int)),(60,iV (k:Int))],[],[]⟩:St) [.o 18 0 (.set (.pointer (some (Xi A (k*3+0))))),.o 18 1 (.set (nA (Xn (Qo ν ε bx a b) k)))] (λe σ d=>ZO e (JU prog tt (JI prog tt W) W (aa (AP (QA (Kq 4 f89)))) (Vc (AP (QA (Kq 4 f89)))) ((Vc (AP (QA (Kq 4 f89)))).toList.take 2) 0 σ d λσ _=>v1 σ (.tmp 64) λm=>vL σ [.tmp 65] λn=>m=.func (.yield l) #[] #[]/\n=[(nA (Xn (Qo ν ε bx a b) k):z0)]/\XT σ (⟨69,[(0,.val (.func (.yield l) #[] #[])),(58,lV A (Qo ν ε bx a b).length f),(59,iV (((Qo ν ε bx a b).length:Nat):Int)),(60,iV (k:Int))],[],[]⟩:St) True)) :=
 Xs (Zb (Ob f _ k h g) (Db k 0 h g x4 rfl rfl) (qV (.func (.yield l) #[] #[])) (show(([nA (Xn (Qo ν ε bx a b) k)]:a8)=[(nA (Xn (Qo ν ε bx a b) k):z0)])from rfl) (qV (.func (.yield l) #[] #[])) (qV (Ω A (Qo ν ε bx a b).length f)) (qI (((Qo ν ε bx a b).length:Nat):Int)) (qI (k:Int))<|trivial) x5
theorem yK{A:u5}{d:Nat}{l:Nat}{ν ε:Nm}{bx:List (Nm×Nm)}{a:List (List Nm)}{c:List Nd}(k:Nat)(b:Bool)(W:y9): JU prog tt (JI prog tt W) W (aa (AP (QA (Kq 4 f89)))) (Vc (AP (QA (Kq 4 f89)))) ((Vc (AP (QA (Kq 4 f89)))).toList.drop 3) 3 ((⟨69,[(0,.val (.func (.yield l) #[] #[])),(58,lV A (Qo ν ε bx a c).length d),(59,iV (((Qo ν ε bx a c).length:Nat):Int)),(60,iV (k:Int))],[],[]⟩:St).push (some 66) (bV b)) [] (λσ _=>K3 σ (xd (QA (Kq 4 f89))) λs=>s=.val (Ξ (!b))/\XT σ (⟨69,[(0,.val (.func (.yield l) #[] #[])),(58,lV A (Qo ν ε bx a c).length d),(59,iV (((Qo ν ε bx a c).length:Nat):Int)),(60,iV (k:Int))],[],[]⟩:St) True) :=
 Xs (Kr (show((.val (Ξ (!b)):SV)=bV (!b))from rfl) (qV (.func (.yield l) #[] #[])) (qV (Ω A (Qo ν ε bx a c).length d)) (qI (((Qo ν ε bx a c).length:Nat):Int)) (qI (k:Int))<|trivial) x5
theorem yM{A:u5}{c:Nat}{l:Nat}{ν ε:Nm}{bx:List (Nm×Nm)}{a:List (List Nm)}{b:List Nd}(k:Nat)(d:k<4611686018427387904)(W:y9): Xu prog tt (JI prog tt W) (0,0) W (xc (QA (Kq 4 f89))) (⟨69,[(0,.val (.func (.yield l) #[] #[])),(58,lV A (Qo ν ε bx a b).length c),(59,iV (((Qo ν ε bx a b).length:Nat):Int)),(60,iV (k:Int))],[],[]⟩:St) [.o 20 0 (.eq (iV ((k+1:Nat):Int)))] (λe σ _=>ZO e (XT σ (⟨69,[(0,.val (.func (.yield l) #[] #[])),(58,lV A (Qo ν ε bx a b).length c),(59,iV (((Qo ν ε bx a b).length:Nat):Int)),(60,iV ((k+1:Nat):Int))],[],[]⟩:St) True)) :=
 Xs (Kr (QQ k x3) (qV (.func (.yield l) #[] #[])) (qV (Ω A (Qo ν ε bx a b).length c)) (qI (((Qo ν ε bx a b).length:Nat):Int)) (qI ((k+1:Nat):Int))<|trivial) x5
theorem nK{W b:y9}(h:KpC W b){p:Addr}{v:z0}(a:W.cell? p=some v): b.cell? p=some v:=by
 unfold World.cell? at a ⊢;split at a
 ·rename_i c t z e;rw[h.2 p.block _ e rfl];exact a
 ·cases a
theorem OE{W a:y9}{A:u5}{n k:Nat}{f:Nat->a8}(g:∀j,(f j).length=k)(h:RdK W A n k f)(l:KpC W a): RdK a A n k f:=λm=>by
 obtain⟨b,off,e,o⟩:=h m;refine⟨b,off,e,λj p i c=>?_⟩;have d:=o j p i c;obtain⟨u,q⟩:∃u,(f j)[i]?=some u:=⟨_,m0 (by rw[g];exact c)⟩
 rw[q]at d ⊢;exact nK l d
def ve(c:Code)(i:Nat): Oper:=((Vc (AP c)).toList[i]?).getD default
theorem vl(ν ε:Nm){bx:List (Nm×Nm)}{a:List (List Nm)}{b:List Nd}(c:okL0 bx a b): (Qo ν ε bx a b).length<4611686018427387904:=by
 have h:=kJ (ν:=ν) (ε:=ε) c b.length;rw[Rj (L8 _)]at h;unfold Qo;omega
theorem EY{S y:Nat}{L M N:u5}{cb cs cc:Nat}{I:Nat->z0}{T:Nat->u5}{U V:Nat->Nat}{ν ε:Nm}{bx:List (Nm×Nm)}{d:List (List Nm)}{g:List Nd}{δ vars ζ:Int}{Ap Ar:u5}{np kp nr kr:Nat}(u:okL0 bx d g)(w:y9)(HX:Bx w y 35 #[.int .i64 δ,.int .i64 vars,.slice L bx.length cb,.slice M d.length cs,.slice Ap np kp,.slice Ar nr kr,.bool ν.b,.string ν.s,.int .i64 ν.e,.bool ε.b,.string ε.s,.int .i64 ε.e,.int .i64 ζ,.slice N g.length cc])(HB:RdK w L bx.length 6 (λj=>Jw (Xc bx j)))(HS:RdK w M d.length 1 (λj=>[I j]))(HP:∀j,j<d.length->SlV S 3 V0 w (QC d j) (I j))(HC:RdK w N g.length 6 (ng g T U V)): SeqStopsK Fence.wide 8 prog 89 #[.pointer (some ⟨y,0,none⟩)] (λx:{x // x∈(Qo ν ε bx d g)}=>#[nA x.1]) KpC (λys=>ys=(Qo ν ε bx d g).attach) (λ_=>True) (Qo ν ε bx d g).length w:=by
 intro l J X W z O P hY h0;have B:=vl ν ε u;have h1:=HX.later z;have h2:RdK W L bx.length 6 (λj=>Jw (Xc bx j)):=HB.below (λ_=>rfl) z;have h3:RdK W M d.length 1 (λj=>[I j]):=HS.below (λ_=>rfl) z;have h4:∀j,j<d.length->SlV S 3 V0 W (QC d j) (I j):=λj hj=>(HP j hj).below YR z
 have h5:RdK W N g.length 6 (ng g T U V):=HC.below (λ_=>rfl) z;refine callsIn_wide.2 (et (args:=[.func (.yield l) #[] #[],.pointer (some ⟨y,0,none⟩)]) Qu QR func89 x5 (kM (l:=l) u W h1 h2 h3 h4 h5) λb σ r a K he Y=>?_);obtain⟨hb,_,⟨A,Z⟩,hφ,Q⟩:=eU he Y;rw[<- IR hb,show(Kq 4 f89)=.seq (Zj (Kq 4 f89)) (QA (Kq 4 f89))from x5];have C:RdK K A (Qo ν ε bx d g).length 3 (λj=>YB (Xn (Qo ν ε bx d g) j)):=Jj ZE nm0 hφ;refine(wpIn_wide (n:=8)).1 (wpIn_seq (Nf Qu QR (yH A Z l ν ε bx d g K) (Q.rebase rfl rfl K) λσ2 _ r2 a2 w2 hp D=>?_));have R:=(QV K hp).2 _ _ _ D;have E:=D.see.low;have t:RdK w2 A (Qo ν ε bx d g).length 3 (λj=>YB (Xn (Qo ν ε bx d g) j)):=C.below (λ_=>rfl) E;have p:∀q:Act,q.defers=[]->∀i,((∃G,G=(Qo ν ε bx d g).attach/\J G i)\/(∃pre,True/\X pre i))->q.defers=[]/\∃v,(results f89 q.tmps).run prog i=.ok v i/\(∃v',Ending.returned v=.returned v')/\((∃G,G=(Qo ν ε bx d g).attach/\J G i)\/(∃pre,True/\X pre i)):=λq hd i h=>⟨hd,_,results_none x5 _ _ _,⟨_,rfl⟩,h⟩
 refine IZ Qu QR (c:=(QA (Kq 4 f89))) x5 (τ:=λk=>(⟨69,[(0,.val (.func (.yield l) #[] #[])),(58,lV A (Qo ν ε bx d g).length Z),(59,iV (((Qo ν ε bx d g).length:Nat):Int)),(60,iV (k:Int))],[],[]⟩:St)) (λk=>⟨rfl,rfl⟩) (l:=l) (m:=0) (n:=(Qo ν ε bx d g).length) (xs:=(Qo ν ε bx d g)) (enc:=λx=>nA x) nm0 x3 (F:=λW=>RdK W A (Qo ν ε bx d g).length 3 (λj=>YB (Xn (Qo ν ε bx d g) j))) (λW i h H=>OE (λ_=>rfl) h H)
  (ci:=2) (dst:=66) (o:=ve (QA (Kq 4 f89)) 2) x5 (f:=.tmp 64) (args:=[.tmp 65]) x5 x5 (λk=>rfl) x5
  (λk W _ _=>⟨_,yI k W⟩) (λk W H hF=>⟨_,by rw[Lj];exact yJ k H W hF⟩) (λk W b _=>⟨_,yK k b W⟩) (λk W H=>⟨_,yM k (Nat.lt_trans H B) W⟩)
  O P (λpre x W1 h hl=>hY pre x W1 h hl) R t (YG O E (YG O Y.see.low h0)) (λq i k1 k2 k3=>?_) (λq i pre k1 k2=>p q k2 i (.inr ⟨pre,trivial,k1⟩))
 refine p q k1.defers i (.inl ⟨_,rfl,?_⟩);rw[Lj,Rj (by rw[List.length_attach];exact L8 _)]at k3;exact k3
def ky(c:Code)(i:Nat): Oper:=((Vc c).toList[i]?).getD default
theorem CO{P:u7}{b:Array Oper}{Q:Exit->Act->y9->Prop}{i:Nat}{o:Oper}{K:Act->y9->Prop}{a:Act}{w:y9}(c:b[i]?=some o)(d:o.guard=none)(h:o.wp P a w K Q): wpOp P b Q i K a w:=by
 unfold wpOp;rw[c];dsimp only;rw[if_pos (by unfold Region.wanted;rw[d])];exact .inl h
section
variable {P:Program} {Q:Exit->Act->World->Prop}
theorem cP(t x d:Nat)(v:z0){o:Oper}{a:Act}{w:y9}{K:Act->y9->Prop}(b:o.op=.load t (.tmp x))(c:o.dst=some d)(h:(Instr.loadAt t (a.tmps.getD x undef)).run P w=.ok v w)(f:K (a.put (some d) v) w): o.wp P a w K Q:=by
 unfold Oper.wp;have e:(execOp a.eval o).run P w=.ok (.value v) w:=by
  unfold execOp;rw[b];simp only[p0];rw[show a.eval (.tmp x)=a.tmps.getD x undef from rfl,h];rfl
 rw[e];show K (a.put o.dst v) w;rw[c];exact f
theorem RQ(t x y:Nat){o:Oper}{a:Act}{w b:y9}{K:Act->y9->Prop}(c:o.op=.store t (.tmp x) (.tmp y))(d:o.dst=none)(h:(Instr.storeAt t (a.tmps.getD x undef) (a.tmps.getD y undef)).run P w=.ok () b)(f:K a b): o.wp P a w K Q:=by
 unfold Oper.wp;have e:(execOp a.eval o).run P w=.ok .skip b:=by
  unfold execOp;rw[c];simp only[p0];rw[show a.eval (.tmp x)=a.tmps.getD x undef from rfl,show a.eval (.tmp y)=a.tmps.getD y undef from rfl,h];rfl
 rw[e];show K (a.put o.dst undef) b;rw[d];exact f
theorem kz{o:Oper}{d:Nat}{v:z0}{a:Act}{w:y9}{K:Act->y9->Prop}(b:o.op=.assign (.const v))(c:o.dst=some d)(f:K (a.put (some d) v) w): o.wp P a w K Q:=by
 unfold Oper.wp;have e:(execOp a.eval o).run P w=.ok (.value v) w:=by
  unfold execOp;rw[b];rfl
 rw[e];show K (a.put o.dst v) w;rw[c];exact f
end
structure ShK (W:World) (N b1 b2:Nat) (lv dp:Int) (l0 l1 l4:Bool) (a:Act) (w:World):Prop where
 sz:a.tmps.size=N
 df:a.defers=[]
 p2:a.tmps.getD 2 undef=.pointer (some ⟨b1,0,none⟩)
 p3:a.tmps.getD 3 undef=.pointer (some ⟨b2,0,none⟩)
 v0:l0=true->a.tmps.getD 10 undef=.int .i64 lv
 v1:l1=true->a.tmps.getD 11 undef=.int .i64 dp
 v4:l4=true->a.tmps.getD 4 undef=.bool true
 x1:Bx w b1 3 #[.int .i64 lv]
 x2:Bx w b2 3 #[.int .i64 dp]
 lo:Below W.heap.size W w
 n1:W.heap.size<=b1
 n2:W.heap.size<=b2
theorem ZI{a:Act}{d k:Nat}{v:z0}(h:d≠k): (a.put (some d) v).tmps.getD k undef=a.tmps.getD k undef:=by
 show(a.tmps.setIfInBounds d v).getD k undef=_;rw[h8,h8,Array.getElem?_setIfInBounds_ne h]
theorem DU{a:Act}{d:Nat}{v:z0}(h:d<a.tmps.size): (a.put (some d) v).tmps.getD d undef=v:=by
 show(a.tmps.setIfInBounds d v).getD d undef=_;rw[h8,Array.getElem?_setIfInBounds_self_of_lt h];rfl
section
variable {W:World} {N b1 b2:Nat} {lv dp:Int} {l0 l1 l4:Bool} {a:Act} {w:World}
theorem ShK.s0(h:ShK W N b1 b2 lv dp l0 l1 l4 a w)(b:12<=N): ShK W N b1 b2 lv dp true l1 l4 (a.put (some 10) (.int .i64 lv)) w :=
 ⟨by simp[Act.put,h.sz],h.df,(ZI x4).trans h.p2,(ZI x4).trans h.p3,λ_=>DU (by rw[h.sz];omega),λe=>(ZI x4).trans (h.v1 e),λe=>(ZI x4).trans (h.v4 e),h.x1,h.x2,h.lo,h.n1,h.n2⟩
theorem ShK.s1(h:ShK W N b1 b2 lv dp l0 l1 l4 a w)(b:12<=N): ShK W N b1 b2 lv dp l0 true l4 (a.put (some 11) (.int .i64 dp)) w :=
 ⟨by simp[Act.put,h.sz],h.df,(ZI x4).trans h.p2,(ZI x4).trans h.p3,λe=>(ZI x4).trans (h.v0 e),λ_=>DU (by rw[h.sz];omega),λe=>(ZI x4).trans (h.v4 e),h.x1,h.x2,h.lo,h.n1,h.n2⟩
theorem ShK.s4(h:ShK W N b1 b2 lv dp l0 l1 l4 a w)(b:12<=N): ShK W N b1 b2 lv dp l0 l1 true (a.put (some 4) (.bool true)) w :=
 ⟨by simp[Act.put,h.sz],h.df,(ZI x4).trans h.p2,(ZI x4).trans h.p3,λe=>(ZI x4).trans (h.v0 e),λe=>(ZI x4).trans (h.v1 e),λ_=>DU (by rw[h.sz];omega),h.x1,h.x2,h.lo,h.n1,h.n2⟩
theorem ShK.put(h:ShK W N b1 b2 lv dp l0 l1 l4 a w)(b:y9)(c:Bx b b1 3 #[.int .i64 lv])(d:Bx b b2 3 #[.int .i64 dp])(e:Below W.heap.size W b): ShK W N b1 b2 lv dp l0 l1 l4 a b :=
 ⟨h.sz,h.df,h.p2,h.p3,h.v0,h.v1,h.v4,c,d,e,h.n1,h.n2⟩
theorem IF{b:Nat}{z:Int}{w:y9}(h:Bx w b 3 #[.int .i64 z]): ∃c,(Instr.storeAt 3 (.pointer (some ⟨b,0,none⟩)) (.int .i64 z)).run prog w=.ok () c/\(∀g t cs,Bx w g t cs->Bx c g t cs)/\(∀B,B<=b->Below B w c):=by
 have a:=GW prog 3 0 (.int .i64 z) (Qu 3 _ rfl) h rfl (L8 1) (λv i=>by obtain rfl:=Re.1 (show v∈[Value.int .i64 z]from i);rfl);refine⟨_,a,λg t cs d=>?_,λB l=>?_⟩
 ·by_cases e:g=b
  ·subst e;have j:=h.stores [.int .i64 z] 0;have f:=(show w.heap[g]?=some (.cells #[.int .i64 z] 3 (0,0))from h).symm.trans (show w.heap[g]?=some (.cells cs t (0,0))from d);simp only[Option.some.injEq,Obj.cells.injEq,and_true]at f;obtain⟨rfl,rfl⟩:=f;exact j
  ·exact d.farN e _ _
 ·refine⟨rfl,rfl,rfl,?_,λk m=>?_⟩
  ·exact Rx (JY _ _ _ _).symm
  ·exact VU _ _ _ _ _ x3
end
theorem qv{W:y9}{N b1 b2:Nat}{lv dp:Int}{a:Act}{w:y9}(h:ShK W N b1 b2 lv dp true true true a w)(d:b1≠b2):
  Sat W (⟨N,[(2,.ptr 0 0),(3,.ptr 1 0),(4,bV true)],[some (3,[iV lv]),some (3,[iV dp])],[]⟩:St) ⟨λi=>if i=0 then b1 else b2,λ_=>.bool false,λ_ _=>False⟩ a w:=by
 have g:∀i p,Xe [some (3,[SV.val (.int .i64 lv)]),some (3,[SV.val (.int .i64 dp)])] i=some p->(i=0/\p=(3,[SV.val (.int .i64 lv)]))\/(i=1/\p=(3,[SV.val (.int .i64 dp)])):=λi p b=>by
  match i,b with
  | 0,b=>exact .inl ⟨rfl,(hW b).symm⟩
  | 1,b=>exact .inr ⟨rfl,(hW b).symm⟩
  | n+2,b=>cases b
 refine⟨⟨h.lo,h.sz,λk s c=>?_,λi t cs b=>?_,(λi R b=>nomatch b),(λi b=>absurd b (R6 _))⟩,⟨λi p b=>?_,λi j p q b l f=>?_,(λi R b=>nomatch b),(λi j R R' b=>nomatch b),(λi j p R b l=>nomatch l)⟩,h.df⟩
 ·match k,c with
  | 0,c=>cases c
  | 1,c=>cases c
  | 2,c=>obtain rfl:=hW c;exact⟨h.p2,rfl⟩
  | 3,c=>obtain rfl:=hW c;exact⟨h.p3,rfl⟩
  | 4,c=>obtain rfl:=hW c;exact⟨h.v4 rfl,rfl⟩
  | n+5,c=>cases c
 ·rcases g i _ b with⟨rfl,e⟩|⟨rfl,e⟩
  ·injection e with m o;subst m;subst o;exact⟨h.x1,rfl⟩
  ·injection e with m o;subst m;subst o;exact⟨h.x2,rfl⟩
 ·rcases g i p b with⟨rfl,_⟩|⟨rfl,_⟩
  ·exact h.n1
  ·exact h.n2
 ·rcases g i p b with⟨rfl,_⟩|⟨rfl,_⟩<;>rcases g j q l with⟨rfl,_⟩|⟨rfl,_⟩
  ·exact absurd rfl f
  ·exact d
  ·exact d.symm
  ·exact absurd rfl f
noncomputable def shT:Code:=Kq 3 f86
theorem fZ(W:y9)(N b1 b2:Nat)(lv dp:Int)(l:12<=N){Q:Exit->Act->y9->Prop}{a:Act}{w:y9}(h:ShK W N b1 b2 lv dp false false false a w)(z:∀b c,ShK W N b1 b2 lv dp true true true b c->Q .ret b c): shT.wp prog Q a w:=by
 rw[show shT=.seq (.region 4 (Vc (Zj shT)) true) .ret from x5];have A:(Vc (Zj shT))[0]?=some (ky (Zj shT) 0):=x5;have B:(Vc (Zj shT))[1]?=some (ky (Zj shT) 1):=x5;have C:(Vc (Zj shT))[2]?=some (ky (Zj shT) 2):=x5;have D:(Vc (Zj shT))[3]?=some (ky (Zj shT) 3):=x5;have E:(Vc (Zj shT))[4]?=some (ky (Zj shT) 4):=x5;refine wp_seq (wp_region_any QR ?_);rw[show(Vc (Zj shT)).size=5 from x5];have k:∀ {K:Act->y9->Prop} {l0 l1 l4:Bool} {a:Act} {w:y9},ShK W N b1 b2 lv dp l0 l1 l4 a w->(∀c,ShK W N b1 b2 lv dp l0 l1 l4 a c->K a c)->(l0=true->wpOp prog (Vc (Zj shT)) (Exit.then (Code.ret.wp prog Q) Q) 2 K a w)/\(l1=true->wpOp prog (Vc (Zj shT)) (Exit.then (Code.ret.wp prog Q) Q) 3 K a w):=λ{K l0 l1 l4 a w} h g=>by
  constructor
  ·intro m;obtain⟨c,r1,j,n⟩:=IF h.x1;refine CO C x5 (RQ 3 2 10 x5 x5 (by rw[h.p2,h.v0 m];exact r1) (g c (h.put c (j _ _ _ h.x1) (j _ _ _ h.x2) (h.lo.trans (n _ h.n1)))))
  ·intro m;obtain⟨c,r1,j,n⟩:=IF h.x2;refine CO D x5 (RQ 3 3 11 x5 x5 (by rw[h.p3,h.v1 m];exact r1) (g c (h.put c (j _ _ _ h.x1) (j _ _ _ h.x2) (h.lo.trans (n _ h.n2)))))
 have q:∀ {K:Act->y9->Prop} {l0 l1 l4:Bool} {a:Act} {w:y9},ShK W N b1 b2 lv dp l0 l1 l4 a w->(∀b,ShK W N b1 b2 lv dp true l1 l4 b w->K b w)->wpOp prog (Vc (Zj shT)) (Exit.then (Code.ret.wp prog Q) Q) 0 K a w:=λ{K l0 l1 l4 a w} h g =>
  CO A x5 (cP 3 2 10 (.int .i64 lv) x5 x5 (by rw[h.p2];exact Y7 _ _ (cs:=[.int .i64 lv]) h.x1 rfl _ (l3 _ _)) (g _ (h.s0 l)))
 have k1:∀ {K:Act->y9->Prop} {l0 l1 l4:Bool} {a:Act} {w:y9},ShK W N b1 b2 lv dp l0 l1 l4 a w->(∀b,ShK W N b1 b2 lv dp l0 true l4 b w->K b w)->wpOp prog (Vc (Zj shT)) (Exit.then (Code.ret.wp prog Q) Q) 1 K a w:=λ{K l0 l1 l4 a w} h g =>
  CO B x5 (cP 3 3 11 (.int .i64 dp) x5 x5 (by rw[h.p3];exact Y7 _ _ (cs:=[.int .i64 dp]) h.x2 rfl _ (l3 _ _)) (g _ (h.s1 l)))
 have F:∀a w,ShK W N b1 b2 lv dp true true false a w->wpAny prog .any (Vc (Zj shT)) (Exit.then (Code.ret.wp prog Q) Q) 1 #[true,true,true,true,false] a w:=λa w h =>
  wpAny_all (rs:=[4]) x5 x6 λi e=>by
   obtain rfl:=Re.1 e;refine CO E x5 (kz (d:=4) (v:=.bool true) x5 x5 ?_);exact wpAny_done x5 (wp_ret (z _ _ (h.s4 l))) 0
 have r:∀a w,ShK W N b1 b2 lv dp true true false a w->wpAny prog .any (Vc (Zj shT)) (Exit.then (Code.ret.wp prog Q) Q) 2 #[true,true,true,false,false] a w:=λa w h =>
  wpAny_all (rs:=[3]) x5 x6 λi e=>by
   obtain rfl:=Re.1 e;exact(k h λc f=>F a c f).2 rfl
 have s:∀a w,ShK W N b1 b2 lv dp true true false a w->wpAny prog .any (Vc (Zj shT)) (Exit.then (Code.ret.wp prog Q) Q) 3 #[true,true,false,false,false] a w:=λa w h =>
  wpAny_all (rs:=[2]) x5 x6 λi e=>by
   obtain rfl:=Re.1 e;exact(k h λc f=>r a c f).1 rfl
 have o:∀a w,ShK W N b1 b2 lv dp true false false a w->wpAny prog .any (Vc (Zj shT)) (Exit.then (Code.ret.wp prog Q) Q) 3 #[true,false,true,false,false] a w:=λa w h =>
  wpAny_all (rs:=[1]) x5 x6 λi e=>by
   obtain rfl:=Re.1 e;exact k1 h λb f=>r b w f
 have G:∀a w,ShK W N b1 b2 lv dp true false false a w->wpAny prog .any (Vc (Zj shT)) (Exit.then (Code.ret.wp prog Q) Q) 4 #[true,false,false,false,false] a w:=λa w h =>
  wpAny_all (rs:=[1,2]) x5 x6 λi e=>by
   rcases Ll.1 e with rfl|e
   ·exact k1 h λb f=>s b w f
   ·obtain rfl:=Re.1 e;exact(k h λc f=>o a c f).1 rfl
 have p:∀a w,ShK W N b1 b2 lv dp false true false a w->wpAny prog .any (Vc (Zj shT)) (Exit.then (Code.ret.wp prog Q) Q) 4 #[false,true,false,false,false] a w:=λa w h =>
  wpAny_all (rs:=[0]) x5 x6 λi e=>by
   obtain rfl:=Re.1 e;exact q h λb f=>s b w f
 have u:ShK W N b1 b2 lv dp false false false a { w with drawn:=w.drawn+1 }:=h.put _ h.x1.drew h.x2.drew h.lo.drew;refine wpAny_all (rs:=[0,1]) x5 x6 λi e=>?_
 rcases Ll.1 e with rfl|e
 ·exact q u λb f=>G b _ f
 ·obtain rfl:=Re.1 e;exact k1 u λb f=>p b _ f
theorem n_1{n:Nat}(h:0<n)(a:n<=4294967296): IntKind.i64.wrap ((n:Int)-1)=((n-1:Nat):Int):=by
 rw[Lg _ x3];omega
abbrev HCs(d:List Nd)(q1:Nat×Hp):=((YY d q1.1).take ((YY d q1.1).length-1))++[IntKind.i64.wrap (I9 (YY d q1.1)+1),IntKind.i64.wrap (I9 (YY d q1.1)+1)]
theorem qA{r:u5}{t:Nat}{K:Nat->u5}{L M:Nat->Nat}{d:List Nd}(W:y9)(E:RdK W r d.length 6 (ng d K L M)): DO prog tt W f86 (ja (K9 3 f86) (⟨12,[(2,.ptr 1 0),(3,.ptr 2 0)],[none,some (3,[iV (MX d d.length)]),some (3,[iV (NT d d.length)])],[]⟩:St) (No d=true)) (O4 12 [Ω r d.length t]) [.inl 1 2 f117,.both [] [.row 4 99999 3 [5,12] 3 1 B9 ([0]) (λ(B:Hp)=>[.lop (λ(q1:Nat×Hp)=>(⟨53,[(0,lV r d.length t),(1,.clo (.func 118) [] [.ptr 0 0,.ptr 1 0,.ptr 2 0]),(5,lV q1.2.1 ((YY d q1.1)).length q1.2.2),(13,lV r d.length t),(14,iV (d.length:Int)),(15,iV (q1.1:Int))],[none,some (3,[iV (MX d q1.1)]),some (3,[iV (NT d q1.1)])],[some (Qc 3 1 B9 (YY d q1.1) q1.2.1 q1.2.2)]⟩:St)) (λ(q1:Nat×Hp)=>(q1.1<=d.length/\∀j,j<q1.1->((((YY d j).length:Nat):Int)==0)=false)) (λ(q1:Nat×Hp)=>(d.length-q1.1)) ((0,B):Nat×Hp) (λ(q1:Nat×Hp) (u:List Hp)=>(q1.1+1,u.headD (none,0))) (λ(q1:Nat×Hp)=>[.both [.o 6 1 (.set (.pointer (some (Xi r (q1.1*6+0))))),.o 6 2 (.set (.agg #[Θ ((Qw d q1.1).split),Ξ ((Qw d q1.1).ο.b),Ψ ((Qw d q1.1).ο.s),Θ ((Qw d q1.1).ο.e),Θ ((Qw d q1.1).sum.vars),Ω (K q1.1) (L q1.1) (M q1.1)])),.both [] [.o 9 3 (.eq (iV (((YY d q1.1).length-1:Nat):Int))),.o 9 4 (.rd [0] (.pointer (some (Xi q1.2.1 (((YY d q1.1).length-1)*1+0))))),.o 9 5 (.rd [0] (Θ (List.getD (YY d q1.1) ((YY d q1.1).length-1) 0))),.o 10 3 (.eq (iV (((YY d q1.1).length-1:Nat):Int))),.eff 10 4 0 (λ(g:Hp)=>Ω g.1 (((YY d q1.1).take ((YY d q1.1).length-1))).length g.2) (λ(g:Hp)=>Qc 3 1 B9 ((YY d q1.1).take ((YY d q1.1).length-1)) g.1 g.2) (λ(g:Hp)=>[.inl 11 3 f118,.o 1 2 (.set (.pointer (some (Xi r (q1.1*6+0))))),.o 1 3 (.set (.pointer (some (Xi r (q1.1*6+0))))),.o 1 4 (.set (Θ ((Qw d q1.1).split))),.both [.o 3 2 (.set (Θ (NT d (q1.1+1)))),.br false,.br false,.o 15 0 (.eq (iV ((q1.1+1:Nat):Int))),.nxt [g]] [.o 3 2 (.set (Θ (NT d (q1.1+1)))),.br false,.br true,.eff 14 6 0 (λ(q:Hp)=>Ω q.1 ((((YY d q1.1).take ((YY d q1.1).length-1))++[IntKind.i64.wrap (I9 (YY d q1.1)+1),IntKind.i64.wrap (I9 (YY d q1.1)+1)])).length q.2) (λ(q:Hp)=>Qc 3 1 B9 (((YY d q1.1).take ((YY d q1.1).length-1))++[IntKind.i64.wrap (I9 (YY d q1.1)+1),IntKind.i64.wrap (I9 (YY d q1.1)+1)]) q.1 q.2) (λ(q:Hp)=>[.o 15 0 (.eq (iV ((q1.1+1:Nat):Int))),.nxt [q]])]])]] [.both [] [.esc 4]]])])]] (λe σ _=>Vj tt (f86).results.toList e σ λs=>Z7 s.plain (s.den e0=lB d)) :=
 let F:OB:=some (33,[lV r d.length t]);Xs (X7 func117 (λa w=>call117 a w)<|XA (decide ((d.length:Int)>4096)) (λx=>(show(.tuple #[Θ 0,Θ 0,Ξ false]:z0)=lB d from by have C:No d=false:=(by unfold No;rw[x];rfl);unfold lB;rw[C];rfl)) λx=>ai (show([Θ 0]:a8)=List.flatMap B9 ([0])from rfl)<|ai (k0 DW (show([0]).length<=maxLen from(by simp[maxLen]))) λ(B:Hp)=>Zb (qV (Ω r d.length t)) (Rq (.func 118:Fn)) (qV (Ω B.1 ((YY d 0)).length B.2)) (qV (Ω r d.length t)) (qI (d.length:Int)) (qI ((0:Nat):Int)) (qk F) (qI (MX d 0))<|X7 (qI (NT d 0)) (Zo (Qc 3 1 B9 ([0]) B.1 B.2) (Qc 3 1 B9 (YY d 0) B.1 B.2) λ_ _ _ h=>h)<|ai (show 0<=d.length/\∀j,j<0->((((YY d j).length:Nat):Int)==0)=false from⟨La _,λj D=>absurd D (R6 _)⟩) λ(q1:Nat×Hp) (p:(q1.1<=d.length/\∀j,j<q1.1->((((YY d j).length:Nat):Int)==0)=false))=>XA (decide ((q1.1:Int)<(d.length:Int))) (λf=>X7 (VK t q1.1 E (XD f)) (BF q1.1 0 E (XD f) x4 rfl rfl)<|XA (((((YY d q1.1)).length:Nat):Int)==0) (λy=>(show(.tuple #[Θ 0,Θ 0,Ξ false]:z0)=lB d from by have C:No d=false:=(by unfold No;rw[x,KK (XD f) y];rfl);unfold lB;rw[C];rfl)) λy=>Km (show IntKind.i64.wrap ((((YY d q1.1).length:Nat):Int)-1)=(((YY d q1.1).length-1:Nat):Int)from n_1 (Io y) (by have:=FO d q1.1;have:=L1 f;have:=L7 x;omega)) (JX (w0:=W) (e:=3) (k:=1) (c:=B9) (l:=(YY d q1.1)) (A:=q1.2.1) (cp:=q1.2.2) DW 0 (λG H=>oE (w0:=G) (c:=q1.2.2) (i:=(YY d q1.1).length-1) H (show((YY d q1.1).length-1)<((YY d q1.1)).length from y6 (Io y)))) (JX (w0:=W) (e:=3) (k:=1) (c:=B9) (l:=(YY d q1.1)) (A:=q1.2.1) (cp:=q1.2.2) DW 0 (λG H=>C8 G ((YY d q1.1).length-1) 0 H (show((YY d q1.1).length-1)<((YY d q1.1)).length from y6 (Io y)) x4 rfl)) (show IntKind.i64.wrap ((((YY d q1.1).length:Nat):Int)-1)=(((YY d q1.1).length-1:Nat):Int)from n_1 (Io y) (by have:=FO d q1.1;have:=L1 f;have:=L7 x;omega))<|ai (bp (w0:=W) (Qu 231 _ rfl) rfl x4 DW (m:=(YY d q1.1).length-1) (l:=(YY d q1.1)) (A:=q1.2.1) (cp:=q1.2.2) x3 (Io y)) λ(g:Hp)=>Kr func118 (λa w=>call118 a w) (VK t q1.1 E (XD f)) (eV (w0:=W) (A:=r) (i:=q1.1) (k:=6) (o:=0)) (C8 _ q1.1 0 E (XD f) x4 rfl)<|XA (((Qw d q1.1).split)==0) (λv=>Zb (show Qn prog W (Builtin.max_ #[3,3] 3 #[Θ (NT d q1.1),Θ (I9 (YY d q1.1))]) (Θ (NT d (q1.1+1)))from K5 _ _ _ _ _ _ _) (rfl:false=false) (show((Qw d q1.1).split != 0)=false from by show(!((Qw d q1.1).split==0))=_;rw[v];rfl) (QQ q1.1 (y7 (L1 f) (L7 x))) (qV (Ω r d.length t)) (Rq (.func 118:Fn)) (show(Ω g.1 (((YY d q1.1).take ((YY d q1.1).length-1))).length g.2:z0)=(Ω g.1 ((YY d (q1.1+1))).length g.2)from(by rw[lW v])) (qV (Ω r d.length t))<|Gz (qI (d.length:Int)) (qI (((q1.1+1):Nat):Int)) (qk F) (show(IntKind.i64.wrap ((MX d q1.1)+1):Int)=(MX d (q1.1+1))from(yu v).symm) (qI (NT d (q1.1+1))) (Zo (Qc 3 1 B9 ((YY d q1.1).take ((YY d q1.1).length-1)) g.1 g.2) (Qc 3 1 B9 (YY d (q1.1+1)) g.1 g.2) λ_ _ _ h=>ZF (by rw[lW v]) (by rw[lW v]) h)<|ai (show q1.1+1<=d.length/\∀j,j<q1.1+1->((((YY d j).length:Nat):Int)==0)=false from⟨XD f,λj D=>by rcases Lx j q1.1 with h|h;exact p.2 j h;exact(show j=q1.1 by omega)▸y⟩) (show d.length-(q1.1+1)<d.length-q1.1 from y6 (L1 f))) λv=>JH (show Qn prog W (Builtin.max_ #[3,3] 3 #[Θ (NT d q1.1),Θ (I9 (YY d q1.1))]) (Θ (NT d (q1.1+1)))from K5 _ _ _ _ _ _ _) (rfl:false=false) (show((Qw d q1.1).split != 0)=true from by show(!((Qw d q1.1).split==0))=_;rw[v];rfl)<|ai (Yj (w0:=W) (ty:=231) (c:=B9) (l:=((YY d q1.1).take ((YY d q1.1).length-1))) (l2:=[IntKind.i64.wrap (I9 (YY d q1.1)+1),IntKind.i64.wrap (I9 (YY d q1.1)+1)]) (l':=(HCs d q1)) (A:=g.1) (cp:=g.2) (bt:=3) (m:=2) (cp2:=2) (cs:=[Θ (IntKind.i64.wrap ((List.getD (YY d q1.1) ((YY d q1.1).length-1) 0)+1)),Θ (IntKind.i64.wrap ((List.getD (YY d q1.1) ((YY d q1.1).length-1) 0)+1))]) OL DW jo rfl (show((((YY d q1.1).take ((YY d q1.1).length-1))++[IntKind.i64.wrap (I9 (YY d q1.1)+1),IntKind.i64.wrap (I9 (YY d q1.1)+1)])).length*8<=140737488355328 from by have:=FO d q1.1;have:=L1 f;have:=L7 x;simp;omega) rfl rfl) λ(q:Hp)=>Zb (QQ q1.1 (y7 (L1 f) (L7 x))) (qV (Ω r d.length t)) (Rq (.func 118:Fn)) (show(Ω q.1 ((((YY d q1.1).take ((YY d q1.1).length-1))++[IntKind.i64.wrap (I9 (YY d q1.1)+1),IntKind.i64.wrap (I9 (YY d q1.1)+1)])).length q.2:z0)=(Ω q.1 ((YY d (q1.1+1))).length q.2)from(by rw[lU v])) (qV (Ω r d.length t)) (qI (d.length:Int)) (qI (((q1.1+1):Nat):Int)) (qk F)<|JH (show((MX d q1.1):Int)=(MX d (q1.1+1))from(yt v).symm) (qI (NT d (q1.1+1))) (Zo (Qc 3 1 B9 (HCs d q1) q.1 q.2) (Qc 3 1 B9 (YY d (q1.1+1)) q.1 q.2) λ_ _ _ h=>ZF (by rw[lU v]) (by rw[lU v]) h)<|ai (show q1.1+1<=d.length/\∀j,j<q1.1+1->((((YY d j).length:Nat):Int)==0)=false from⟨XD f,λj D=>by rcases Lx j q1.1 with h|h;exact p.2 j h;exact(show j=q1.1 by omega)▸y⟩) (show d.length-(q1.1+1)<d.length-q1.1 from y6 (L1 f))) λf=>XA (!(((((YY d q1.1)).length:Nat):Int)==0)) (λI=>(show(.tuple #[Θ 0,Θ 0,Ξ false]:z0)=lB d from by have J:q1.1=d.length:=(y7 (L7 f) p.1);have C:No d=((((YY d d.length).length:Nat):Int)==0):=(by unfold No;rw[x,J2 (λj D=>p.2 j x3)];rfl);unfold lB;rw[C,<- J,show((((YY d q1.1).length:Nat):Int)==0)=false from by revert I;cases ((((YY d q1.1).length:Nat):Int)==0)<;>simp];rfl)) λI=>Km (show K9 3 f86=some shT from x5) (show No d=true from(by have J:q1.1=d.length:=(y7 (L7 f) p.1);unfold No;rw[x,J2 (λj D=>p.2 j x3),<- J,show((((YY d q1.1).length:Nat):Int)==0)=true from by revert I;cases ((((YY d q1.1).length:Nat):Int)==0)<;>simp];rfl)) (Ly (λ(z:Int)=>(some (3,[iV z]):OB)) (show((MX d q1.1):Int)=(MX d d.length)from(by rw[show q1.1=d.length from y7 (L7 f) p.1]))) (Ly (λ(z:Int)=>(some (3,[iV z]):OB)) (show((NT d q1.1):Int)=(NT d d.length)from(by rw[show q1.1=d.length from y7 (L7 f) p.1])))<|trivial) x5
theorem qC{e:u5}{i:Nat}{k:Nat->u5}{l m:Nat->Nat}{d:List Nd}(w:y9)(n:RdK w e d.length 6 (ng d k l m)): RetAt prog w 86 #[.slice e d.length i] (lB d):=by
 refine OI Qu QR (λa w=>call86 a w) func86 (args:=[.slice e d.length i]) x5 λW o=>⟨_,_,qA W (n.below (λ_=>rfl) o),λb σ r a z p q=>?_⟩
 obtain⟨s,t,c⟩:=Bv p q;have u:b=shT:=(IR s).symm;rw[u];refine fZ W 12 (r.b 1) (r.b 2) (MX d d.length) (NT d d.length) x4 ⟨c.see.size,by rw[show(Yn (J4 []) a).defers=a.defers from by simp[Yn,J4]];exact c.defers,(c.see.ts 2 (.ptr 1 0) rfl).1,(c.see.ts 3 (.ptr 2 0) rfl).1,(λh=>nomatch h),(λh=>nomatch h),(λh=>nomatch h),(c.see.bs 1 _ _ rfl).1,(c.see.bs 2 _ _ rfl).1,c.see.low,c.sep.own 1 _ rfl,c.sep.own 2 _ rfl⟩ λj A h=>?_
 have f:r.b 1≠r.b 2:=c.sep.inj 1 2 _ _ rfl rfl x4;have g:=qv h f;have x:=SU (fn:=f86) (v:=lB d) (Ds:=[]) Qu g rfl (Xs (show(.tuple #[.int .i64 (MX d d.length),.int .i64 (NT d d.length),.bool true]:z0)=lB d from by unfold lB;rw[t];rfl) x5) List.nodup_nil (λD y=>nomatch y);rwa [show Yn (J4 []) j=j by simp[Yn,J4]]at x
theorem kR(η:Int)(cc:Nat){s:Nat}{d:u5}{e:Nat->u5}{f h:Nat->Nat}{a:List Nd}(u:a.length<=4294967296)(i:∀p,p∈a->okP p.sum)(w:y9)(k:Q0 w)(v:RdK w d a.length 6 (ng a e f h))(x:∀j,j<a.length->SlV s 4 Vv w (Qw a j).sum.ts (Ω (e j) (f j) (h j))): RetAt prog w 49 #[Ω d a.length cc,Θ η] (Ξ (Gj η a)) :=
 have l:=eB (Gj η a);rk [.both [] [.o 3 1 (.ret (.tup [iV (bif No a then MX a a.length else 0),iV (bif No a then NT a a.length else 0),bV (No a)])),.gb 4 2 [.o 4 4 (.ret (bV (Ye a.length λj=>Zv η (Qw a j))))] []]] λW m A=>have t:=v.up m (λ_=>rfl);(λ(y:∀j,j<a.length->SlV s 4 Vv W (Qw a j).sum.ts (Ω (e j) (f j) (h j)))=>(λ(k:Q0 W)=>XA ((a.length:Int)==0) (λb=>(l true (by unfold Gj;rw[b];rfl))) λb=>ai (show RetAt prog W 86 #[Ω d a.length cc] (.tuple #[Θ (bif No a then MX a a.length else 0),Θ (bif No a then NT a a.length else 0),Ξ (No a)])from qC W t)<|ZG (No a) true (λn=>ai (wZ call87 λV q g z=>uV (η:=η) (c:=cc) u i V (Ql k q) z (t.below (λ_=>rfl) q) (λj r=>(y j r).below YD q))<|(l (!(Ye a.length λj=>Zv η (Qw a j))) (by unfold Gj;rw[b,n];rfl))) λn=>(l false (by unfold Gj;rw[b,n];rfl))) (Ql k m)) (λj r=>(x j r).below YD m)
def EN(l D:Nat)(rc:Loop): Res where
 φ x S w:=x.oneCell'=true/\w.heap[l]?=some (.loop rc)/\w.heap[D]?=some (.deferred (some []))/\∀b,S b↔b=l\/b=D
 one _ _ _ h:=h.1
 loc x S w w' h hφ:=⟨hφ.1,(h l ((hφ.2.2.2 l).2 (.inl rfl))).trans hφ.2.1,(h D ((hφ.2.2.2 D).2 (.inr rfl))).trans hφ.2.2.1,hφ.2.2.2⟩
def EW(D:Nat): Res where
 φ x S w:=x.oneCell'=true/\w.heap[D]?=some (.deferred (some []))/\∀b,S b↔b=D
 one _ _ _ h:=h.1
 loc x S w w' h hφ:=⟨hφ.1,(h D ((hφ.2.2 D).2 rfl)).trans hφ.2.1,hφ.2.2⟩
theorem IG{α:Type}(y z:α): ∀l:List (Option α),VV (l++[some y]) l.length z=l++[some z]
 | []=>rfl
 | x::l=>Ly (x::·) (IG y z l)
theorem cI{α:Type}(y:α): ∀l:List (Option α),Xe (l++[some y]) l.length=some y
 | []=>rfl
 | _::l=>cI y l
section
variable {P:Program} {tt:List (Nat×TI)} {w0:World} {τ:St} {R R':Res} {r r':Env} {a:Act} {w:World} {l D n:Nat} {rc:Loop}
theorem kC:Xw τ.rs.length R' (Kz R τ)=Kz R' τ:=by simp only[Xw,Kz,XY,IG]
theorem cH:Xe (Kz R τ).rs τ.rs.length=some R:=by simp only[Kz,XY,cI]
theorem len_N:(Kz R τ).rs.length=τ.rs.length+1:=by simp[Kz,XY]
theorem Bm(d:l≠D)(c:Loop)(h:Sat w0 (Kz (EN l D rc) τ) r a w): Sat w0 (Kz (EN l D c) τ) ⟨r.b,r.x,Y9 r.S τ.rs.length (r.S τ.rs.length)⟩ a (w.putObj l (.loop c))/\w.heap[l]?=some (.loop rc):=by
 obtain⟨⟨m,f,n,g⟩,o⟩:=h.see.rs _ _ cH;have i:=grownBy_putObj' w l (.loop c);refine⟨?_,f⟩;have p:=h.turn (R':=EN l D c) (S':=r.S τ.rs.length) cH (Trn.of_grown i λk e=>(g k).2 (.inl (hW e).symm)) ⟨m,World.putObj_heap_same (o3.1 f).1,(World.putObj_heap_other d.symm).trans n,g⟩ λb j=>⟨.inl j,Lb (o b j) i.size⟩
 rwa [kC]at p
theorem ei(h:Sat w0 (Kz (EN l D rc) τ) r a w): Sat w0 (Kz (EW D) τ) ⟨r.b,r.x,Y9 r.S τ.rs.length (λb=>b=D)⟩ a w:=by
 obtain⟨⟨e,j,f,c⟩,g⟩:=h.see.rs _ _ cH;have i:=h.turn (R':=EW D) (S':=λb=>b=D) cH (Trn.refl _ _) ⟨e,f,λ_=>Iff.rfl⟩ λb d=>⟨.inl ((c b).2 (.inr d)),g b ((c b).2 (.inr d))⟩
 rwa [kC]at i
theorem Ja{V:Code->(Exit->Act->y9->Prop)->Act->y9->Prop}(l:Rules P V)(k:YF P tt)(m:P.follows .mixedOrders=true){f:Nat×Nat}{c:Code}{σ:St}{d:List Dir}{p:Ex->St->Prop}(h:Xu P tt (JI P tt w0) f w0 c σ d λe b _=>p e b)(n:FlOk f σ)(o:Sat w0 σ r a w){Q:Exit->Act->y9->Prop}(q:G3 Q)(s:∀e b r' g i,p e b->Sat w0 b r' g i->AgN f r r'->Q e.to g i): V c Q a w :=
 V6 l k (Jp k m 9) f c σ d _ h n r a w o Q q (λ_ _ _ _ _ _ h=>False.elim h) λe b _ r' g i t j _ u=>s e b r' g i t j u
end
abbrev mS{β:Type}(bs:β->List (Option (u6×List SV)))(rs:β->List (Option Res))(n:Nat)(ts:List (Nat×SV))(R:Res)(y:β): St:=Kz R ⟨n,ts,bs y,rs y⟩
def MemJ{β:Type}(w0:y9)(bs:β->List (Option (u6×List SV)))(rs:β->List (Option Res))(a:Nat×Nat)(R:Res)(b:Env)(y:β)(W:y9): Prop:=∃r,Aa w0 (mS bs rs 0 [] R y) r W/\AgN a b r
section
variable {P:Program} {tt:List (Nat×TI)} {w0:World} {α β:Type} {bs:β->List (Option (TypeId×List SV))} {rs:β->List (Option Res)} {nb nr:Nat}
theorem MemJ.to(b:∀y,(bs y).length=nb/\(rs y).length=nr){n:Nat}{ts:List (Nat×SV)}{R:Res}{f r1:Env}{e y:β}{a:Act}{w W:y9}(k:Sat w0 (mS bs rs n ts R e) r1 a w)(j:AgN (nb,nr+1) f r1)(h:MemJ w0 bs rs (nb,nr+1) R f y W): ∃r,Sat w0 (mS bs rs n ts R y) r a W/\AgN (nb,nr+1) f r:=by
 obtain⟨r,l,g⟩:=h;have d:∀z,(mS bs rs n ts R z).bs.length=nb/\(mS bs rs n ts R z).rs.length=nr+1:=λz=>⟨(b z).1,len_N.trans (Ly Nat.succ (b z).2)⟩
 exact⟨r,k.back (σ':=mS bs rs n ts R y) l ⟨Rx ((d e).1.trans (d y).1.symm),Rx ((d e).2.trans (d y).2.symm)⟩ ⟨λi c=>by rw[(d e).1]at c;exact(g.1 i c).trans (j.1 i c).symm,λi c=>by rw[(d e).2]at c;exact(g.2 i c).trans (j.2 i c).symm⟩,g⟩
theorem DC(a:∀y,(bs y).length=nb/\(rs y).length=nr){n:Nat}{ts:List (Nat×SV)}{R:Res}{y:β}: FlOk (nb,nr+1) (mS bs rs n ts R y):=⟨Rx (a y).1.symm,Rx ((Ly Nat.succ (a y).2.symm).trans (len_N (τ:=⟨n,ts,bs y,rs y⟩)).symm)⟩
theorem fA(I:YF P tt)(m:P.follows .mixedOrders=true)(b:∀y,(bs y).length=nb/\(rs y).length=nr){n p l D f:Nat}{ts:List (Nat×SV)}{enc:α->z0}{assign body:Code}{C:β->α->Prop}{N:β->α->β->Prop}{k:β->α->List (Nat×SV)}(K:DH (some p) n=true)(o:Ff assign=true)(q:Ff body=true)(u:∀y x R,C y x->∃d,Xu P tt (JI P tt w0) (nb,nr+1) w0 assign ((mS bs rs n ts R y).push (some p) (.val (enc x))) d λe σ _=>ZO e (XT σ (mS bs rs n (k y x) R y) True))(z:∀y x R,C y x->∃d,Xu P tt (JI P tt w0) (nb,nr+1) w0 body (mS bs rs n (k y x) R y) d λe σ _=>ZO e (∃c,N y x c/\XT σ (mS bs rs n ts R c) True)){L:β}{A:Env}{a:Act}{w:y9}(j:l≠D)(M:Sat w0 (mS bs rs n ts (EN l D { state:=.ready,pending:=none,fn:=f,tmps:=a.tmps,params:=#[p],assign:=assign,body:=body,defers:=D }) L) A a w){y:β}{x:α}{W:y9}(O:MemJ w0 bs rs (nb,nr+1) (EN l D { state:=.ready,pending:=none,fn:=f,tmps:=a.tmps,params:=#[p],assign:=assign,body:=body,defers:=D }) A y W)(J:C y x):
  YieldAt Fence.wide 7 P l #[enc x] W λe Q=>e=.returned (.bool true)/\∃c,N y x c/\MemJ w0 bs rs (nb,nr+1) (EN l D { state:=.ready,pending:=none,fn:=f,tmps:=a.tmps,params:=#[p],assign:=assign,body:=body,defers:=D }) A c Q:=by
 obtain⟨r,B,S⟩:=O.to b M (AgN.refl _ _);have e0:({ tmps:=(#[p].zip #[enc x]).foldl (λt (p,v)=>t.setIfInBounds p v) a.tmps,defers:=[] }:Act)=a.put (some p) (enc x):=by
  unfold Act.put;rw[<- B.defers];simp
 have hx:∀y,(⟨n,ts,bs y,rs y⟩:St).rs.length=nr:=λy=>(b y).2
 refine⟨f,_,assign,body,run_yield (Bm j ⟨.ready,none,f,a.tmps,#[p],assign,body,D⟩ B).2 rfl,roundIn_of_wpIn trivial ?_⟩;rw[e0];obtain⟨d,T⟩:=u y x _ J;refine Ja (CA m) I m (p:=λe σ=>ZO e (XT σ _ True)) T (DC b) (B.put (s:=.val (enc x)) K rfl) (λ_ _ _ _ _ h=>h) (λe U r1 a1 W1 g E F=>?_) o (λ⟨_,_,h⟩=>h);cases e with
 | exit i=>exact False.elim g
 | ret=>exact False.elim g
 | normal =>
  obtain⟨V,X⟩:=Bm j { state:=.busy,pending:=none,fn:=f,tmps:=a.tmps,params:=#[p],assign:=assign,body:=body,defers:=D } ((QV w0 (show XT U _ True from g)).2 _ _ _ E);refine⟨_,run_beginRound X rfl,?_⟩;obtain⟨d2,Y⟩:=z y x _ J;refine Ja (CA m) I m (p:=λe σ=>ZO e (∃c,N y x c/\XT σ _ True)) Y (DC b) V (λ_ _ _ _ _ h=>h) (λe σ3 r3 a3 W3 g G H=>?_) q (λ⟨_,_,h⟩=>h);cases e with
  | exit i=>exact False.elim g
  | ret=>exact False.elim g
  | normal =>
   obtain⟨c,Z,g⟩:=(show ∃c,_ from g)
   obtain⟨h4,h5⟩:=Bm j { state:=.ready,pending:=none,fn:=f,tmps:=a.tmps,params:=#[p],assign:=assign,body:=body,defers:=D } ((QV w0 g).2 _ _ _ G);exact⟨_,_,run_endRound none h5,rfl,c,Z,_,h4.mem,S.trans (F.trans (H.trans ⟨λ_ _=>rfl,λ_ _=>rfl⟩))⟩
theorem mem_range(V:YF P tt)(X:P.follows .mixedOrders=true)(c:∀y,(bs y).length=nb/\(rs y).length=nr){n p s:Nat}{ts:List (Nat×SV)}{enc:α->Value}{g:Operand}{assign body:Code}{C:β->α->Prop}{N:β->α->β->Prop}{E:β->Prop}{ts1:β->α->List (Nat×SV)}(Y:DH (some p) n=true)(B:Ff assign=true)(G:Ff body=true)(H:∀y x R,C y x->∃d,Xu P tt (JI P tt w0) (nb,nr+1) w0 assign ((mS bs rs n ts R y).push (some p) (.val (enc x))) d λe σ _=>ZO e (XT σ (mS bs rs n (ts1 y x) R y) True))(I:∀y x R,C y x->∃d,Xu P tt (JI P tt w0) (nb,nr+1) w0 body (mS bs rs n (ts1 y x) R y) d λe σ _=>ZO e (∃t,N y x t/\XT σ (mS bs rs n ts R t) True)){k:β}{r:Env}{a:Act}{w:World}(hS:Sat w0 ⟨n,ts,bs k,rs k⟩ r a w){A:Array Value}(Z:a.eval g=.func (.func s) #[] A)(he:XB P s)(hit:∀l R r1 W,Aa w0 (mS bs rs 0 [] R k) r1 W->AgN (nb,nr) r r1->(∀y x i,MemJ w0 bs rs (nb,nr+1) R r1 y i->C y x->YieldAt Fence.wide 7 P l #[enc x] i λe J=>e=.returned (.bool true)/\∃t,N y x t/\MemJ w0 bs rs (nb,nr+1) R r1 t J)->CallsIn Fence.wide 8 P s (#[.func (.yield l) #[] #[]]++A) W λe J=>(∃v,e=.returned v)/\∃y,E y/\MemJ w0 bs rs (nb,nr+1) R r1 y J){U:List Deferred}{Q:Exit->Act->World->Prop}(o:∀D r' W y,E y->Sat w0 (mS bs rs n ts (EW D) y) r' a W->Q .normal (Yn ({ target:=.collected D,args:=#[] }::U) a) W): (Code.rangeFunc g #[p] assign body).wp P Q (Yn U a) w:=by
 have K:=hS.defers;refine wpIn_wide.1 (wpIn_rangeFunc (F:=Fence.wide) (n:=9) λf _=>?_);obtain⟨i,m⟩:∃i,(w.alloc (.deferred (some []))).alloc (.loop { state:=.ready,pending:=none,fn:=f,tmps:=a.tmps,params:=#[p],assign:=assign,body:=body,defers:=w.heap.size })=i:=⟨_,rfl⟩
 have u:i.heap[w.heap.size+1]?=some (.loop { state:=.ready,pending:=none,fn:=f,tmps:=a.tmps,params:=#[p],assign:=assign,body:=body,defers:=w.heap.size }):=by
  rw[<- m];have:=World.alloc_heap_new (w.alloc (.deferred (some []))) (.loop { state:=.ready,pending:=none,fn:=f,tmps:=a.tmps,params:=#[p],assign:=assign,body:=body,defers:=w.heap.size });rwa [World.size_alloc]at this
 have L:i.heap[w.heap.size]?=some (.deferred (some [])):=by
  rw[<- m];exact(Tz _ _ _ x6).trans (World.alloc_heap_new w _)
 have M:Below w.heap.size w i:=by
  rw[<- m];exact((l3 _ w).alloc (L8 _) _).alloc x6 _
 have z:w.heap.size+1≠w.heap.size:=x3;have j:=hS.fresh (R:=EN (w.heap.size+1) w.heap.size { state:=.ready,pending:=none,fn:=f,tmps:=a.tmps,params:=#[p],assign:=assign,body:=body,defers:=w.heap.size }) (x:=.bool false) (S:=λb=>b=w.heap.size+1\/b=w.heap.size) M ⟨rfl,u,L,λ_=>Iff.rfl⟩ λb hb=>by
  have h1:=(o3.1 u).1;rcases hb with rfl|rfl<;>omega
 have q:=(Ag.add (⟨n,ts,bs k,rs k⟩:St) r ⟨0,.bool false,λb=>b=w.heap.size+1\/b=w.heap.size⟩).n (fl:=(nb,nr)) ⟨Rx (c k).1.symm,Rx (c k).2.symm⟩;revert j q;generalize r.add' (⟨n,ts,bs k,rs k⟩:St) ⟨0,.bool false,λb=>b=w.heap.size+1\/b=w.heap.size⟩=r1;intro j q;refine⟨w.heap.size+1,[{ target:=.collected w.heap.size,args:=#[] }],i,{ target:=.fn (.func s) A,args:=#[.func (.yield (w.heap.size+1)) #[] #[]] },i,s,#[.func (.yield (w.heap.size+1)) #[] #[]]++A,i,?_,?_,λ_ _=>trivial,?_,λ_=>x4,?_⟩
 ·rw[<- m];exact run_enterLoop_outer _ _ _ _ _
 ·simp only[resolve,CT,Z];simp[go_sem]
 ·simp[invoke,go_sem,he _ _]
 ·refine(hit _ _ r1 i j.mem q λy x W O hC=>fA V X c Y B G H I z j O hC).mono ?_
  rintro e W2 ⟨⟨v,rfl⟩,y,hE,O⟩;obtain⟨r2,h2,_⟩:=O.to c j (AgN.refl _ _);obtain⟨h3,h4⟩:=Bm z { state:=.exhausted,pending:=none,fn:=f,tmps:=a.tmps,params:=#[p],assign:=assign,body:=body,defers:=w.heap.size } h2;refine⟨none,_,run_endLoop h4 x6,?_⟩;have T:=o w.heap.size _ _ y hE (ei h3);unfold Yn at T ⊢;rw[K]at T ⊢;exact T
theorem m5(z:YF P tt)(S:P.follows .mixedOrders=true)(i:∀y,(bs y).length=nb/\(rs y).length=nr){id ci dst l n:Nat}{ts:List (Nat×SV)}{b:Array Oper}{o:Oper}{f:b8}{args:List b8}{x:z0}(ho:b.toList[ci]?=some o)(k:NJ o=some (f,args))(q:o.dst=some dst)(C:DH (some dst) n=true)(D:b.toList.all Ij=true){R:Res}{σ:St}{y:β}{d:List Dir}{N:β->Prop}{X:β->St->Prop}(h2:JU P tt (JI P tt w0) w0 id b (b.toList.take ci) 0 σ d λσ _=>v1 σ f λT=>vL σ args λU=>T=.func (.yield l) #[] #[]/\U=[x]/\XT σ (mS bs rs n ts R y) True)(h3:∀y,N y->∃d,JU P tt (JI P tt w0) w0 id b (b.toList.drop (ci+1)) (ci+1) ((mS bs rs n ts R y).push (some dst) (bV true)) d λσ _=>X y σ){A r:Env}{a:Act}{w:y9}(hS:Sat w0 σ r a w)(hf:FlOk (nb,nr+1) σ)(hg:AgN (nb,nr+1) A r)(hY:∀W,MemJ w0 bs rs (nb,nr+1) R A y W->YieldAt Fence.wide 7 P l #[x] W λe W'=>e=.returned (.bool true)/\∃t,N t/\MemJ w0 bs rs (nb,nr+1) R A t W'){Q:Exit->Act->y9->Prop}(hX:∀y σ r a w,N y->X y σ->Sat w0 σ r a w->AgN (nb,nr+1) A r->Q .normal a w): (Code.region id b false).wpIn Fence.wide 8 P Q a w:=by
 refine wpIn_region_list ?_
 have g:=D;have E:=EA ho;rw[E]at g ⊢;rw[List.all_append,Lu]at g;obtain⟨n1,n2⟩:=g;obtain⟨_,n3⟩:=L6.1 (show(Ij o&&(b.toList.drop (ci+1)).all Ij)=true from n2);refine Ed _ (λe a w=>e=.normal/\wpListIn Fence.wide 8 P b _ (o::b.toList.drop (ci+1)) a w) (λ⟨_,_,h,_⟩=>by cases h) (λ_ _ _ h=>by cases h.1) (λ_ _ h=>h.2) n1 (KQ z (Jp z S 9) _ 0 σ d _ h2 r a w hS _ (λ_ _ _ _ _ _ h=>False.elim h) λσ3 d3 F V B m p G _=>⟨rfl,?_⟩);obtain⟨T,m,H⟩:=Xm w0 m;obtain⟨U,⟨rfl,rfl,u⟩,I⟩:=Du w0 m;have v:=(QV w0 u).2 _ _ _ p;have j:=hg.trans (G.n hf);obtain⟨y1,y2,J⟩:=Nz (P:=P) k (H F V B p.see) (I F V B p.see) B;obtain⟨fn,tmps,assign,body,y4,y5⟩:=hY B ⟨F,v.mem,j⟩;unfold wpListIn;rw[if_pos (by unfold Region.wanted;rw[y2])];refine⟨λ_ _=>trivial,?_⟩;rw[Oper.semAt_eq _ _ _ (λc e=>by unfold Ij at J;rw[e]at J;cases J),y1,y4];refine⟨λh=>(by cases h),y5.mono ?_⟩;rintro e W4 ⟨rfl,t,Y,hJ⟩;obtain⟨r4,h4,K⟩:=hJ.to i v j;obtain⟨Z,e5⟩:=h3 t Y;have h6:=Ed Q (λe a w=>e=.normal/\Q .normal a w) (n:=8) (P:=P) (ops:=b) (m2:=[]) (λ⟨_,_,h,_⟩=>by cases h) (λ_ _ _ h=>by cases h.1) (λ_ _ h=>h.2) n3 (KQ z (Jp z S 9) _ (ci+1) _ Z _ e5 r4 _ W4 (h4.put (s:=bV true) C rfl) _ (λ_ _ _ _ _ _ h=>False.elim h) λσ5 Z r5 a5 w5 L M O _=>⟨rfl,hX t σ5 r5 a5 w5 Y L M (K.trans (O.n (DC i)))⟩);rw[Tc]at h6;rw[q];exact h6
theorem UN(g:YF P tt)(i:P.follows .mixedOrders=true){f:FuncId}{fn:Func}(j:P.funcs[f]?=some fn){args:a8}(k:Nat.ble args.length fn.ntmps=true){R:Ending->y9->Prop}{E:Code->St->Prop}{d:List Dir}(h:DO P tt w0 fn E (O4 fn.ntmps args) d λ_ _ _=>False)(l:∀b σ r a w,E b σ->Sat w0 σ r a w->b.wp P (D7 (bodyPostM Fence.wide 9 P fn R)) a w): Calls P f args.toArray w0 R:=by
 unfold DO at h;split at h
 ·rename_i c m;refine callsIn_wide.1 (callsIn_of_wp_marks (F:=Fence.wide) (n:=9) j m trivial (wpIn_wide.2 ?_) rfl);exact wp_mono (Hl g i (Jp g i 9) (0,0) (RF _) l c _ d _ h ⟨La _,La _⟩ _ _ _ (lw (L3 k) w0) (λ_ _ _ _ _ _ h=>False.elim h) λe t u r' o p q _ _ _=>q.elim) λe o p s=>RG s
 ·exact h.elim
theorem Wy{fn:Func}{R:Res}{D n t:Nat}{v:z0}{r:Env}{a:Act}{w:y9}{g:Ending->y9->Prop}(d:Sat w0 ⟨n,[(t,.val v)],[],[some R,some (EW D)]⟩ r a w)(i:fn.results=#[.tmp t])(j:∀x S f,R.φ x S f->(∀b,S b->w0.heap.size<=b/\b<f.heap.size)->Below w0.heap.size w0 f->g (.returned v) f):
  D7 (bodyPostM Fence.wide 9 P fn g) .ret (Yn [{ target:=.collected D,args:=#[] }] a) w:=by
 show LeavesInM Fence.wide 9 P fn a.tmps _ (a.defers++[{ target:=.collected D,args:=#[] }]) .returning w;rw[d.defers];obtain⟨⟨_,l,h⟩,y⟩:=d.see.rs 1 _ rfl;obtain⟨m,o⟩:=d.see.rs 0 _ rfl;have p:∀b,r.S 0 b->b≠D:=λb c e=>d.sep.disj 0 1 _ _ rfl rfl x4 b c ((h b).2 e)
 have q:(results fn a.tmps).run P (w.putObj D (.deferred none))=.ok v (w.putObj D (.deferred none)):=by
  have s:=(d.see.ts t (.val v) (by simp[YQ])).1;rw[results_tmp i];exact Ly (λv=>Result.ok v _) s
 refine⟨x6,.inl ⟨D,_,rfl,run_takeDeferred l,⟨v,q,j (r.x 0) (r.S 0) _ (R.loc _ _ _ _ (λb c=>World.putObj_heap_other (p b c)) m) (λb c=>⟨d.sep.ownS 0 _ rfl b c,by rw[World.putObj_size];exact o b c⟩) ?_⟩⟩⟩;have c:=d.see.low;exact⟨c.os,c.tape,c.output,by rw[World.putObj_size];exact c.size,λk u=>(World.putObj_heap_other λe=>y6 (d.sep.ownS 1 _ rfl D ((h D).2 rfl))).trans (c.block k u)⟩
end
