/- Laws beneath the statement. -/
import Derived.Test.YtoibldcmoapgbaaGreatDoorQP31
namespace Go.Proofs.YtoibldcmoapgbaaGreatDoor
open Tryz
set_option maxRecDepth 100000
open Go Go.RowKit
theorem KU(A N:Res)(d:∀(x:z0) (S:Nat->Prop) (w:y9),N.φ x S w->N.φ (.bool false) S w)(x:z0)(S:Nat->Prop)(w:y9)(h:(Qk A N).φ x S w): ∃a c,A.φ x a w/\N.φ (.bool false) c w/\(∀b,a b->¬ c b)/\∀b,a b\/c b->S b:=by
 obtain⟨a,c,e,f,g,i,j⟩:=(show ∃a c e,_ from h)
 exact⟨a,c,f,d _ _ _ g,i,λb k=>(j b).2 k⟩
theorem It{A d B:Res}(h:∀(x:z0) (S:Nat->Prop) (w:y9),A.φ x S w->d.φ x S w){x:z0}{S:Nat->Prop}{w:y9}(e:(Qk A B).φ x S w): (Qk d B).φ x S w:=by
 obtain⟨a,b,c,f,g,i,j⟩:=(show ∃a b c,_ from e)
 exact(show ∃a b c,_ from⟨a,b,c,h _ _ _ f,g,i,j⟩)
theorem BS{A B d:Res}(h:∀(x:z0) (S:Nat->Prop) (w:y9),B.φ x S w->d.φ x S w){x:z0}{S:Nat->Prop}{w:y9}(e:(Qk A B).φ x S w): (Qk A d).φ x S w:=by
 obtain⟨a,b,c,f,g,i,j⟩:=(show ∃a b c,_ from e)
 exact(show ∃a b c,_ from⟨a,b,c,f,h _ _ _ g,i,j⟩)
theorem Vd{α:Type}{e k:Nat}{c:α->a8}{l:List α}{A:u5}{a:Nat}(x:z0)(S:Nat->Prop)(w:y9)(h:(Qc e k c l A a).φ x S w): (Qc e k c l A a).φ (.bool false) S w:=AH rfl h
theorem PS{e m n:Nat}{L:LP}{A:u5}{a:Nat}(x:z0)(S:Nat->Prop)(w:y9)(h:(Qt e m n L A a).φ x S w): (Qt e m n L A a).φ (.bool false) S w:=xW rfl h
def qh(_:Unit): a8:=[.slice none 0 0]
def χ.sps(n:Nat): Nat->χ->χ
 | 0,s=>s
 | k+1,s=>χ.nxs n (χ.sps n k s)
theorem χ.In.sps{s:χ}{M:Res}(h:s.In M)(n:Nat): ∀k,(χ.sps n k s).In M
 | 0=>h
 | k+1=>(h.sps n k).nxs n
def zU(s:χ)(j:Nat): Nm×Nm:=(Xn (Xb (χ.sps 2 j s) 2) 0,Xn (Xb (χ.sps 2 j s) 2) 1)
def G7(s:χ)(k:Nat): List (Nm×Nm):=(List.range k).map (zU s)
def nj(v:Nat)(s:χ)(j:Nat): List Nm:=Xb (χ.sps v j s) v
def DK(v:Nat)(s:χ)(k:Nat): List (List Nm):=(List.range k).map (nj v s)
theorem aT(s:χ)(k:Nat): (G7 s k).length=k:=by simp[G7]
theorem Ix(v:Nat)(s:χ)(k:Nat): (DK v s k).length=k:=by simp[DK]
theorem Pl(s:χ)(k:Nat): G7 s k++[zU s k]=G7 s (k+1):=by simp[G7,Td]
theorem fR(v:Nat)(s:χ)(k:Nat): DK v s k++[nj v s k]=DK v s (k+1):=by simp[DK,Td]
def DG(δ:Int)(s:χ): Bool:=Lib.idxOfS (GH δ) (Qf s.ln.l 0).s==1
def Ko(δ:Int)(v:Nat)(s:χ): List (Nm×Nm):=bif DG δ s then[]else G7 s.ln.nx v
def ZN(δ:Int)(v:Nat)(s:χ): List (List Nm):=bif DG δ s then DK v s.ln.nx (v+1)else[]
def χ.dom(s:χ)(δ:Int)(v:Nat): χ:=bif DG δ s then χ.sps v (v+1) s.ln.nx else χ.sps 2 v s.ln.nx
def Ae(v:Nat)(s:χ): LP:=wQ 32 3 YB (λ_=>[]) (λi=>nj v s.ln.nx i)
theorem χ.In.dom{s:χ}{M:Res}(h:s.In M)(hl:0<s.ls.length)(δ:Int)(v:Nat): (s.dom δ v).In M:=by
 unfold χ.dom;cases DG δ s
 ·exact(h.ln hl).nx.sps 2 v
 ·exact(h.ln hl).nx.sps v (v+1)
section
variable {δ:Int} {v:Nat} {s:χ} {ws:List ByteArray} (hw:GH δ=ws)
include hw
theorem t8{z:Int}(h:Qq ws s.fd=.error z): J7 δ v s.fd=.error z:=by
 unfold J7;rw[hw];exact Q3 h
variable (h:Qq ws s.fd=.ok (Lib.idxOfS ws (Qf s.ln.l 0).s,s.ln.nx.fd))
include h
theorem iS(hi:(Lib.idxOfS ws (Qf s.ln.l 0).s==1)=true): J7 δ v s.fd=bnd (GS v (v+1) []) (λl=>rtn (([]:List (Nm×Nm)),l)) s.ln.nx.fd:=by
 unfold J7;rw[hw,Qv h,hi];rfl
theorem se(hi:(Lib.idxOfS ws (Qf s.ln.l 0).s==1)=false): J7 δ v s.fd=bnd (B6 v []) (λl=>rtn (l,([]:List (List Nm)))) s.ln.nx.fd:=by
 unfold J7;rw[hw,Qv h,hi];rfl
theorem iR(hi:(Lib.idxOfS ws (Qf s.ln.l 0).s==1)=true)(a:GS v (v+1) [] s.ln.nx.fd=.ok (DK v s.ln.nx (v+1),(χ.sps v (v+1) s.ln.nx).fd)): J7 δ v s.fd=.ok ((Ko δ v s,ZN δ v s),(s.dom δ v).fd):=by
 rw[iS hw h hi];have e:DG δ s=true:=by unfold DG;rw[hw];exact hi
 unfold Ko ZN χ.dom;rw[e];exact Qv a
theorem iQ(hi:(Lib.idxOfS ws (Qf s.ln.l 0).s==1)=false)(a:B6 v [] s.ln.nx.fd=.ok (G7 s.ln.nx v,(χ.sps 2 v s.ln.nx).fd)): J7 δ v s.fd=.ok ((Ko δ v s,ZN δ v s),(s.dom δ v).fd):=by
 rw[se hw h hi];have e:DG δ s=false:=by unfold DG;rw[hw];exact hi
 unfold Ko ZN χ.dom;rw[e];exact Qv a
end
theorem Mo{g:Nat}{t:u6}{cs:a8}{M N a:Res}(c:NB N)(b:NB a){x:z0}{S:Nat->Prop}{w:y9}(h:(Qk (Qk (Qh g t cs M) N) a).φ x S w): (Qh g t cs (Qk (Qk M N) a)).φ x S w:=KL b (It (λ_ _ _ h=>KL c h) h)
def PC.D(x:PC)(v:Nat)(b s:z0): PC:=⟨x.k,v,b,s,x.p,x.r,x.e,x.d,x.u,x.c⟩
section
variable {g:Nat} {M:Res} {δ:Int} {x:PC} {v:Nat} {s:χ} {ws:List ByteArray} {m:Bool} {A1 A2:Option Addr} {c1 c2:Nat} {X:Value} {S:Nat->Prop} {w:World} (hw:GH δ=ws)
include hw
theorem eL{k:Nat}(hi:(Lib.idxOfS ws (Qf s.ln.l 0).s==1)=true)(hk:k=v+1)(h:(Qk (Qk (Qh g 69 (χ.cs (χ.sps v k s.ln.nx) (PC.l (x.D v (.slice none 0 0) (.slice A2 k c2)) m)) M) (Qc 76 6 Jw ([]:List (Nm×Nm)) none 0)) (Qt 57 1 k (Ae v s) A2 c2)).φ X S w):
  (Qh g 69 (χ.cs (s.dom δ v) (PC.l (x.D v (.slice none (Ko δ v s).length 0) (.slice A2 (ZN δ v s).length c2)) m)) (Qk (Qk M (Qc 76 6 Jw (Ko δ v s) none 0)) (Qt 57 1 (ZN δ v s).length (Ae v s) A2 c2))).φ X S w:=by
 subst hk;have e:DG δ s=true:=by unfold DG;rw[hw];exact hi
 unfold Ko ZN χ.dom;rw[e];simp only[cond_true,Ix];exact Mo BV Bz h
theorem eK{k:Nat}(hi:(Lib.idxOfS ws (Qf s.ln.l 0).s==1)=false)(hk:k=v)(h:(Qk (Qk (Qh g 69 (χ.cs (χ.sps 2 k s.ln.nx) (PC.l (x.D v (.slice A1 (G7 s.ln.nx k).length c1) (.slice none 0 0)) m)) M) (Qc 76 6 Jw (G7 s.ln.nx k) A1 c1)) (Qt 57 1 0 (Ae v s) none 0)).φ X S w):
  (Qh g 69 (χ.cs (s.dom δ v) (PC.l (x.D v (.slice A1 (Ko δ v s).length c1) (.slice none (ZN δ v s).length 0)) m)) (Qk (Qk M (Qc 76 6 Jw (Ko δ v s) A1 c1)) (Qt 57 1 (ZN δ v s).length (Ae v s) none 0))).φ X S w:=by
 subst hk;have e:DG δ s=false:=by unfold DG;rw[hw];exact hi
 unfold Ko ZN χ.dom;rw[e];exact Mo BV Bz h
end
theorem lP{v k n:Nat}{R:Except Int (List (List Nm)×FD)}{t:χ}(h:k<n)(e:R=GS v (n-k) (DK v t k) (χ.sps v k t).fd)(e2:XQ v [] (χ.sps v k t).fd=.ok (nj v t k,(χ.nxs v (χ.sps v k t)).fd)): R=GS v (n-(k+1)) (DK v t (k+1)) (χ.sps v (k+1) t).fd:=by
 rw[show n-k=(n-(k+1))+1 by omega]at e;rw[e,<- fR];exact Qv e2
theorem sW{v k n:Nat}{R:Except Int (List (List Nm)×FD)}{t:χ}{z:Int}(h:k<n)(e:R=GS v (n-k) (DK v t k) (χ.sps v k t).fd)(e2:XQ v [] (χ.sps v k t).fd=.error z): R=.error z:=by
 rw[show n-k=(n-(k+1))+1 by omega]at e;exact e.trans (Q3 e2)
theorem xy{k n:Nat}{R:Except Int (List (Nm×Nm)×FD)}{t:χ}(h:k<n)(e:R=B6 (n-k) (G7 t k) (χ.sps 2 k t).fd)(e2:XQ 2 [] (χ.sps 2 k t).fd=.ok (Xb (χ.sps 2 k t) 2,(χ.nxs 2 (χ.sps 2 k t)).fd)): R=B6 (n-(k+1)) (G7 t (k+1)) (χ.sps 2 (k+1) t).fd:=by
 rw[show n-k=(n-(k+1))+1 by omega]at e;rw[e,<- Pl];exact Qv e2
theorem xw{k n:Nat}{R:Except Int (List (Nm×Nm)×FD)}{t:χ}{z:Int}(h:k<n)(e:R=B6 (n-k) (G7 t k) (χ.sps 2 k t).fd)(e2:XQ 2 [] (χ.sps 2 k t).fd=.error z): R=.error z:=by
 rw[show n-k=(n-(k+1))+1 by omega]at e;exact e.trans (Q3 e2)
theorem QP{ws:List u4}{s:χ}{x:Int×FD}(h:Qq ws s.fd=.ok x): 0<s.ls.length:=by
 obtain⟨_,_,ls,_,_,_,_,l,_,_⟩:=s;cases ls with
 | cons t l=>exact S6 _
 | nil =>
  cases l with
  | nil=>cases h
  | cons t l=>cases h
def Uy(m:Bool)(q1:Nat×Hp)(v:Nat)(x:PC): a8:=PC.l (x.D v (.slice none 0 0) (.slice q1.2.1 q1.1 q1.2.2)) m
def EJ(q1:Nat×Hp)(s:χ)(v:Nat): χ:=χ.nxs v (χ.sps v q1.1 (χ.nx (χ.ln s)))
def gL(m:Bool)(q1:Nat×Hp)(s:χ)(v:Nat)(x:PC): a8:=PC.l (x.D v (.slice q1.2.1 (G7 (χ.nx (χ.ln s)) q1.1).length q1.2.2) (.slice none 0 0)) m
def gM(q1:Nat×Hp)(s:χ): List Nm:=Xb (χ.sps 2 q1.1 (χ.nx (χ.ln s))) 2
def TL(q1:Nat×Hp)(s:χ)(v:Nat): List Nm:=Xb (χ.sps v q1.1 (χ.nx (χ.ln s))) v
def mM(m:Bool)(v:Nat)(x:PC): a8:=PC.l (x.D v (.slice none 0 0) (.slice none 0 0)) m
def mN(m:Bool)(q1:Nat×Hp)(s:χ)(v:Nat)(x:PC): a8:=χ.cs (χ.sps v q1.1 (χ.nx (χ.ln s))) (Uy m q1 v x)
def mO(q1:Nat×Hp)(s:χ): χ:=χ.nxs 2 (χ.sps 2 q1.1 (χ.nx (χ.ln s)))
abbrev HGa(g:Nat)(q1:Nat×Hp)(s:χ)(v:Nat)(x:PC)(m:Bool)(M:Res):=λ(f:Hp)=>([.pur 14,.pur 15,.o 7 15 (.set (.pointer (some ⟨g,4,none⟩))),.pur 16,.o 7 16 (.set (.pointer (some ⟨g,6,none⟩))),.pur 17,.o 7 17 (.set (.pointer (some ⟨g,7,none⟩))),.eff 7 18 0 (λ(B:Unit)=>undef) (λ(B:Unit)=>Qh g 69 (χ.cs (EJ q1 s v) (PC.l (x.D v (.slice none 0 0) (.slice f.1 (q1.1+1) f.2)) m)) M) (λ(B:Unit)=>[.join 8 0 0 3,.join 8 0 0 2,.o 8 0 (.eq (iV ((q1.1+1:Nat):Int))),.nxt [f]])]:List Dir)
abbrev HGb:=Qc 76 6 Jw ([]:List (Nm×Nm)) none 0
abbrev HGc:Nat×Hp:=(0,(none,0))
abbrev HGd(q:Nat)(s:χ):=(Qq (List.take q [G1,Yb])) s.fd=.ok ((Lib.idxOfS (List.take q [G1,Yb]) (Qf (χ.ln s).l 0).s),(χ.nx (χ.ln s)).fd)
abbrev HGe(g:Nat):z0:=.pointer (some ⟨g,0,none⟩)
abbrev HGf(v:Nat)(q1:Nat×Hp)(s:χ):=(Xb (χ.sps v q1.1 (χ.nx (χ.ln s))) v,(EJ q1 s v).fd)
abbrev HGg(g:Nat)(v:Nat)(q1:Nat×Hp)(s:χ)(x:PC)(f:Hp)(m:Bool)(M:Res):=Qk (Qk (Qh g 69 (χ.cs (χ.sps v (q1.1+1) (χ.nx (χ.ln s))) (PC.l (x.D v (.slice none 0 0) (.slice f.1 (q1.1+1) f.2)) m)) M) HGb) (Qt 57 1 (q1.1+1) (Ae v s) f.1 f.2)
abbrev HGh(s:χ)(q1:Nat×Hp):=G7 (χ.nx (χ.ln s)) (q1.1+1)
abbrev HGi(g:Nat)(q1:Nat×Hp)(s:χ)(v:Nat)(x:PC)(f:Hp)(m:Bool)(M:Res):=Qk (Qk (Qh g 69 (χ.cs (EJ q1 s v) (PC.l (x.D v (.slice none 0 0) (.slice f.1 (q1.1+1) f.2)) m)) M) HGb) (Qt 57 1 (q1.1+1) (Ae v s) f.1 f.2)
abbrev HGj:=Qc 57 1 qh ([]:List Unit) none 0
abbrev HGk(q1:Nat×Hp)(s:χ)(m:Bool)(v:Nat)(x:PC):=χ.cs (χ.sps 2 q1.1 (χ.nx (χ.ln s))) (gL m q1 s v x)
abbrev HGl(q1:Nat×Hp)(s:χ)(v:Nat)(m:Bool)(x:PC):=χ.cs (EJ q1 s v) (Uy m q1 v x)
abbrev HGm(s:χ)(q1:Nat×Hp):=Qc 76 6 Jw (G7 (χ.nx (χ.ln s)) q1.1) q1.2.1 q1.2.2
abbrev HGn(g:Nat):z0:=.pointer (some ⟨g,4,none⟩)
abbrev HGo:=some (9,[sV ⟨#[98,111,120]⟩,sV ⟨#[115,105,109,112,108,101,120]⟩])
abbrev HGp(q1:Nat×Hp)(s:χ)(v:Nat)(j:Hp):=Qc 32 3 YB (TL q1 s v) j.1 j.2
abbrev HGq(f:Hp)(q1:Nat×Hp):=Lc.1 (rfl:([.slice f.1 (q1.1+1) f.2]:a8).all (λu=>u.oneCell')=true)
abbrev HGr(q1:Nat×Hp)(s:χ):=(Xb (χ.sps 2 q1.1 (χ.nx (χ.ln s))) 2,(mO q1 s).fd)
abbrev HGs(q1:Nat×Hp)(v:Nat)(s:χ):=q1.1<=v+1/\GS v (v+1) [] (χ.nx (χ.ln s)).fd=GS v (v+1-q1.1) (DK v (χ.nx (χ.ln s)) q1.1) (χ.sps v q1.1 (χ.nx (χ.ln s))).fd
abbrev HGt(v:Nat)(q1:Nat×Hp)(s:χ):=λ(j:{y:Hp // (XQ v []) (χ.sps v q1.1 (χ.nx (χ.ln s))).fd=.ok (HGf v q1 s)})=>Value.slice j.1.1 (TL q1 s v).length j.1.2
abbrev HGu(v:Nat)(s:χ):=Qt 57 1 0 (Ae v s) none 0
abbrev HGv(q1:Nat×Hp)(v:Nat)(s:χ):=q1.1<=v/\B6 v [] (χ.nx (χ.ln s)).fd=B6 (v-q1.1) (G7 (χ.nx (χ.ln s)) q1.1) (χ.sps 2 q1.1 (χ.nx (χ.ln s))).fd
abbrev HGw(g:Nat):z0:=.pointer (some ⟨g,6,none⟩)
abbrev HGx(x:PC)(v:Nat)(s:χ):=((Ko x.k v s,ZN x.k v s),(s.dom x.k v).fd)
abbrev HGy:=λ(q1:Nat×Hp) (u:List Hp)=>(q1.1+1,u.headD (none,0))
abbrev HGz(q1:Nat×Hp):=λ(f:Hp)=>Value.slice f.1 (q1.1+1) f.2
abbrev HGA:z0:=.slice none 0 0
abbrev HGB(v:Nat)(q1:Nat×Hp)(s:χ)(g:Nat)(m:Bool)(x:PC)(M:Res):=λ(j:{y:Hp // (XQ v []) (χ.sps v q1.1 (χ.nx (χ.ln s))).fd=.ok (HGf v q1 s)})=>Qh g 69 (HGl q1 s v m x) (Qk M (HGp q1 s v j.1))
abbrev HGC(q1:Nat×Hp)(v:Nat)(s:χ):=Qt 57 1 q1.1 (Ae v s) q1.2.1 q1.2.2
abbrev HGD(q1:Nat×Hp)(v:Nat)(s:χ):=λ(f:Hp)=>Qt 57 1 (q1.1+1) (Ae v s) f.1 f.2
abbrev HGE(q1:Nat×Hp)(s:χ):=List.getD (gM q1 s) 0 nm0
abbrev HGF(q1:Nat×Hp)(s:χ):=List.getD (gM q1 s) 1 nm0
theorem iU{g:Nat}{M:Res}{s:χ}(O:s.In M){x:PC}{v:Nat}{m:Bool}(S:v<=200)(W:y9)(Q:Q0 W): FxF prog W (Qh g 69 (χ.cs s (mM m v x)) M) 74 #[x02 g] (λ_:{y:Hp×Hp // J7 x.k v s.fd=.ok ((Ko x.k v s,ZN x.k v s),(s.dom x.k v).fd)}=>Value.tuple #[]) (λy:{y:Hp×Hp // J7 x.k v s.fd=.ok ((Ko x.k v s,ZN x.k v s),(s.dom x.k v).fd)}=>Qh g 69 (χ.cs (s.dom x.k v) (PC.l ⟨x.k,(v:Int),(Ω y.1.1.1 (Ko x.k v s).length y.1.1.2),(Ω y.1.2.1 (ZN x.k v s).length y.1.2.2),x.p,x.r,x.e,x.d,x.u,x.c⟩ m)) (Qk (Qk M (Qc 76 6 Jw (Ko x.k v s) y.1.1.1 y.1.1.2)) (Qt 57 1 (ZN x.k v s).length (Ae v s) y.1.2.1 y.1.2.2))) (Xl (J7 x.k v) s) :=
 Gb Qu QR (λa w=>call74 a w) func74 ntmps74 results74 _ rfl _ _ _ _ [.cut 3 (λ(q:Nat)=>(⟨84,[(0,.val (HGe g)),(2,.sli 0 0 q 2)],[none],[none,none,some HGb,some HGj]⟩:St)) (λ(q:Nat)=>(q<=2/\GH x.k=List.take q [G1,Yb])) (λk u=>k) (λ(q:Nat)=>[.o 3 2 (.set (HGn g)),.o 3 3 (.set (.pointer (some ⟨g,5,none⟩))),.o 3 4 (.rd [0] (Θ (v:Int))),.o 4 2 (.set (HGe g)),.fx 4 4 0 (λ(G:PLift (HGd q s))=>Θ (Lib.idxOfS (List.take q [G1,Yb]) (Qf (χ.ln s).l 0).s)) (λ(G:PLift (HGd q s))=>Qh g 69 (χ.cs (χ.nx (χ.ln s)) (mM m v x)) M) (Xl (Qq (List.take q [G1,Yb])) s) (λ(G:PLift (HGd q s))=>[.both [.join 5 0 0 2,.join 5 0 0 3,.o 5 1 (.eq (iV ((v+1:Nat):Int))),.lop (λ(q1:Nat×Hp)=>(⟨84,[(0,.val (HGe g)),(3,iV (v:Int)),(34,iV ((v+1:Nat):Int)),(35,iV (q1.1:Int))],[some (0,[])],[some (Qk (Qk (Qh g 69 (mN m q1 s v x) M) HGb) (HGC q1 v s)),none]⟩:St)) (λ(q1:Nat×Hp)=>(HGs q1 v s)) (λ(q1:Nat×Hp)=>(v+1-q1.1)) (HGc:Nat×Hp) HGy (λ(q1:Nat×Hp)=>[.both [.ord,.pur 0,.pur 1,.pur 2,.pur 3,.o 7 3 (.set (HGn g)),.pur 4,.o 7 4 (.set (HGw g)),.pur 5,.o 7 5 (.set (.pointer (some ⟨g,7,none⟩))),.pur 7,.pur 8,.pur 9,.o 7 9 (.set (HGe g)),.pur 10,.both [.spl 7 6 0 (Qk (Qh g 69 (mN m q1 s v x) M) HGb) (HGC q1 v s),.spl 7 6 0 (Qh g 69 (mN m q1 s v x) M) HGb,.o 7 6 (.rd [0] (Ω q1.2.1 q1.1 q1.2.2)),.fx 7 11 0 (HGt v q1 s) (HGB v q1 s g m x M) (Xl (XQ v []) (χ.sps v q1.1 (χ.nx (χ.ln s)))) (λ(j:{y:Hp // (XQ v []) (χ.sps v q1.1 (χ.nx (χ.ln s))).fd=.ok (HGf v q1 s)})=>[.spl 7 12 0 (Qh g 69 (HGl q1 s v m x) M) (HGp q1 s v j.1),.join 7 13 2 4,.eff 7 13 2 (HGz q1) (HGD q1 v s) (HGa g q1 s v x m M)])] [.spl 7 11 0 (Qk (Qh g 69 (mN m q1 s v x) M) HGb) (HGC q1 v s),.spl 7 11 0 (Qh g 69 (mN m q1 s v x) M) HGb,.fx 7 11 0 (HGt v q1 s) (HGB v q1 s g m x M) (Xl (XQ v []) (χ.sps v q1.1 (χ.nx (χ.ln s)))) (λ(j:{y:Hp // (XQ v []) (χ.sps v q1.1 (χ.nx (χ.ln s))).fd=.ok (HGf v q1 s)})=>[.both [.o 7 6 (.rd [0] (Ω q1.2.1 q1.1 q1.2.2)),.spl 7 12 0 (Qh g 69 (HGl q1 s v m x) M) (HGp q1 s v j.1),.join 7 13 2 4,.eff 7 13 2 (HGz q1) (HGD q1 v s) (HGa g q1 s v x m M)] [.spl 7 12 0 (Qh g 69 (HGl q1 s v m x) M) (HGp q1 s v j.1),.o 7 6 (.rd [0] (Ω q1.2.1 q1.1 q1.2.2)),.join 7 13 2 4,.eff 7 13 2 (HGz q1) (HGD q1 v s) (HGa g q1 s v x m M)]])]] []])] [.join 9 0 0 2,.join 9 0 0 3,.lop (λ(q1:Nat×Hp)=>(⟨84,[(0,.val (HGe g)),(3,iV (v:Int)),(56,iV (v:Int)),(57,iV (q1.1:Int))],[some (0,[])],[some (Qk (Qk (Qh g 69 (HGk q1 s m v x) M) (HGm s q1)) (HGu v s)),none]⟩:St)) (λ(q1:Nat×Hp)=>(HGv q1 v s)) (λ(q1:Nat×Hp)=>(v-q1.1)) (HGc:Nat×Hp) HGy (λ(q1:Nat×Hp)=>[.both [.spl 11 0 0 (Qk (Qh g 69 (HGk q1 s m v x) M) (HGm s q1)) (HGu v s),.spl 11 0 0 (Qh g 69 (HGk q1 s m v x) M) (HGm s q1),.o 11 2 (.set (HGe g)),.fx 11 3 0 (λ(j:{y:Hp // (XQ 2 []) (χ.sps 2 q1.1 (χ.nx (χ.ln s))).fd=.ok (HGr q1 s)})=>Ω j.1.1 (gM q1 s).length j.1.2) (λ(j:{y:Hp // (XQ 2 []) (χ.sps 2 q1.1 (χ.nx (χ.ln s))).fd=.ok (HGr q1 s)})=>Qh g 69 (χ.cs (mO q1 s) (gL m q1 s v x)) (Qk M (Qc 32 3 YB (gM q1 s) j.1.1 j.1.2))) (Xl (XQ 2 []) (χ.sps 2 q1.1 (χ.nx (χ.ln s)))) (λ(j:{y:Hp // (XQ 2 []) (χ.sps 2 q1.1 (χ.nx (χ.ln s))).fd=.ok (HGr q1 s)})=>[.spl 11 4 0 (Qh g 69 (χ.cs (mO q1 s) (gL m q1 s v x)) M) (Qc 32 3 YB (gM q1 s) j.1.1 j.1.2),.reg 15 [0],.o 12 3 (.set (HGn g)),.o 12 4 (.set (HGw g)),.o 12 5 (.set (HGw g)),.o 12 6 (.rd [0] (Ω q1.2.1 (G7 (χ.nx (χ.ln s)) q1.1).length q1.2.2)),.o 12 8 (.rd [4] (.pointer (some (Xi j.1.1 (0*3+0))))),.o 12 9 (.rd [4] (nA (HGE q1 s))),.o 12 11 (.rd [4] (.pointer (some (Xi j.1.1 (1*3+0))))),.o 12 12 (.rd [4] (nA (HGF q1 s))),.eff 12 15 3 (λ(f:Hp)=>Ω f.1 (HGh s q1).length f.2) (λ(f:Hp)=>Qc 76 6 Jw (HGh s q1) f.1 f.2) (λ(f:Hp)=>[.o 12 17 (.set (HGn g)),.o 12 18 (.set (HGw g)),.o 12 19 (.set (HGw g)),.eff 12 20 0 (λ(B:Unit)=>undef) (λ(B:Unit)=>Qh g 69 (χ.cs (mO q1 s) (PC.l (x.D v (Ω f.1 (HGh s q1).length f.2) HGA) m)) M) (λ(B:Unit)=>[.join 13 0 0 3,.join 13 0 0 2,.o 13 0 (.eq (iV ((q1.1+1:Nat):Int))),.nxt [f]])])])] []])]])]),.nil 1 0 76 6 Jw,.nil 1 0 57 1 qh,.o 1 2 (.set (HGn g)),.o 1 3 (.set (HGn g)),.o 1 4 (.rd [0] (Θ x.k)),.gb 1 7 [.o 1 9 (.set (HGn g)),.o 1 10 (.set (HGn g)),.o 1 11 (.rd [0] (Θ x.k)),.both [.nxc 1 []] [.nxc 2 []]] [.nxc 1 []]] (λF=>k0 (JH (Qe W g 0) (ZB W g 4) (QU (w0:=W) (g:=g) (t:=69) (cs:=(χ.cs s (mM m v x))) (M:=M) (λz E=>Y7 z 4 E rfl))<|ZG (x.k==2) false (λI=>JH (Qe W g 0) (ZB W g 4) (QU (w0:=W) (g:=g) (t:=69) (cs:=(χ.cs s (mM m v x))) (M:=M) (λz E=>Y7 z 4 E rfl))<|XA (x.k==5) (λJ=>Gz (qV (HGe g)) (qk HGo) (Yu (Qh g 69 (χ.cs s (mM m v x)) M)) (Yu F) (Yu HGb) (Yu HGj)<|(show 1<=2/\GH x.k=List.take 1 [G1,Yb]from⟨x4,by unfold GH;rw[I,J]<;>rfl⟩)) λJ=>Gz (qV (HGe g)) (qk HGo) (Yu (Qh g 69 (χ.cs s (mM m v x)) M)) (Yu F) (Yu HGb) (Yu HGj)<|(show 2<=2/\GH x.k=List.take 2 [G1,Yb]from⟨x4,by unfold GH;rw[I,J]<;>rfl⟩)) λI=>Gz (qV (HGe g)) (qk HGo) (Yu (Qh g 69 (χ.cs s (mM m v x)) M)) (Yu F) (Yu HGb) (Yu HGj)<|(show 1<=2/\GH x.k=List.take 1 [G1,Yb]from⟨x4,by unfold GH;rw[I]<;>rfl⟩)) λ(q:Nat) (H:(q<=2/\GH x.k=List.take q [G1,Yb]))=>Kr (Qe W g 0) (ZC W g 4) (QU (w0:=W) (g:=g) (t:=69) (cs:=(χ.cs s (mM m v x))) (M:=M) (λz E=>Y7 z 5 E rfl)) (Qm W g 0) (Dd g M s (mM m v x) ([G1,Yb]) q 2 O 9 H.1 (L9 H.1 x4) W)<|ai (λ(G:PLift (HGd q s))=>XA ((Lib.idxOfS (List.take q [G1,Yb]) (Qf (χ.ln s).l 0).s)==1) (λhi=>DM (QQ v x3) (qV (HGe g)) (qI (v:Int)) (qI ((v+1:Nat):Int)) (qI ((HGc.1:Nat):Int)) (Zo (Qk (Qk (Qh g 69 (χ.cs (χ.nx (χ.ln s)) (mM m v x)) M) HGb) HGj) (Qk (Qk (Qh g 69 (χ.cs (χ.sps v HGc.1 (χ.nx (χ.ln s))) (PC.l (x.D v HGA (Ω HGc.2.1 HGc.1 HGc.2.2)) m)) M) HGb) (Qt 57 1 HGc.1 (Ae v s) HGc.2.1 HGc.2.2)) λ_ _ _ h=>(by exact BS (λ_ _ _ h=>BA _ _ _ qh _ _ _ _ h) h)) (Yu F)<|ai (show(((0,(none,0)):Nat×Hp).1<=v+1/\GS v (v+1) [] (χ.nx (χ.ln s)).fd=GS v (v+1-((0,(none,0)):Nat×Hp).1) (DK v (χ.nx (χ.ln s)) ((0,(none,0)):Nat×Hp).1) (χ.sps v ((0,(none,0)):Nat×Hp).1 (χ.nx (χ.ln s))).fd)from⟨La _,rfl⟩) λ(q1:Nat×Hp) (C:(HGs q1 v s))=>XA (decide ((q1.1:Int)<((v+1:Nat):Int))) (λhl=>Km (λw=>Qe _ g 0 w (l3 _ _)) (λw=>Yq _ g 4 w (l3 _ _)) (λw=>JV g 6 w (l3 _ _)) (λw=>Qm _ g 0 w (l3 _ _))<|(k0 (Km (KU (Qk (Qh g 69 (mN m q1 s v x) M) HGb) (Qt 57 1 q1.1 (Ae v s) q1.2.1 q1.2.2) PS) (KU (Qh g 69 (mN m q1 s v x) M) (Qc 76 6 Jw ([]:List (Nm×Nm)) none 0) Vd) (QU (w0:=W) (g:=g) (t:=69) (cs:=(mN m q1 s v x)) (M:=M) (λz E=>VO z 7 E rfl)) (Ep (Uy m q1 v x) g M (χ.sps v q1.1 (χ.nx (χ.ln s))) v (((O.ln (QP G.down)).nx).sps v q1.1) x3 W Q)<|ai (λ(j:{y:Hp // (XQ v []) (χ.sps v q1.1 (χ.nx (χ.ln s))).fd=.ok (HGf v q1 s)})=>ai (Jc g 69 (HGl q1 s v m x) M (Qc 32 3 YB (TL q1 s v) j.1.1 j.1.2) Vd)<|ai (Jh (w0:=W) (ty:=25) (bt:=57) (c:=YB) (pre:=(λ_=>[])) (ls:=(λi=>nj v s.ln.nx i)) (A:=q1.2.1) (cp:=q1.2.2) (n:=q1.1) (n':=q1.1+1) (A2:=j.1.1) (cq:=j.1.2) (e2:=32) (k:=3) (cp2:=1) (cs:=[Ω j.1.1 (TL q1 s v).length j.1.2]) (R3:=(HGp q1 s v j.1)) (λ_ _ _ h=>.inl h) JO (λu L=>nomatch L) rfl (y6 (QM hl)) rfl rfl) λ(f:Hp)=>JH (λw=>Qe _ g 0 w (l3 _ _)) (λw=>Yq _ g 4 w (l3 _ _)) (λw=>JV g 6 w (l3 _ _))<|ai (Yy W prog g 69 (HGl q1 s v m x) M 25 ([Ω f.1 (q1.1+1) f.2]) 7 (Ω f.1 (q1.1+1) f.2) (Qu 25 _ rfl) rfl rfl (L3 rfl) (HGq f q1)) λ(B:Unit)=>DM (QQ q1.1 (y6 (QM hl))) (qV (HGe g)) (qI (v:Int)) (qI ((v+1:Nat):Int)) (qI (((q1.1+1):Nat):Int)) (Zo (HGi g q1 s v x f m M) (HGg g v q1 s x f m M) λ_ _ _ h=>h) (Yu F)<|ai (show((q1.1+1)<=v+1/\GS v (v+1) [] (χ.nx (χ.ln s)).fd=GS v (v+1-(q1.1+1)) (DK v (χ.nx (χ.ln s)) (q1.1+1)) (χ.sps v (q1.1+1) (χ.nx (χ.ln s))).fd)from⟨QM hl,lP (QM hl) C.2 j.2⟩) (show v+1-(q1.1+1)<v+1-q1.1 from y6 (QM hl))) (X9 F (Xl (XQ v []) (χ.sps v q1.1 (χ.nx (χ.ln s)))) (Xl (J7 x.k v) s) λ_ h=>h.imp λ_ h=>⟨(iS H.2 G.down hi).trans (Q3 (sW (QM hl) C.2 h.1)),h.2⟩)) (JH (KU (Qk (Qh g 69 (mN m q1 s v x) M) HGb) (Qt 57 1 q1.1 (Ae v s) q1.2.1 q1.2.2) PS) (KU (Qh g 69 (mN m q1 s v x) M) (Qc 76 6 Jw ([]:List (Nm×Nm)) none 0) Vd) (Ep (Uy m q1 v x) g M (χ.sps v q1.1 (χ.nx (χ.ln s))) v (((O.ln (QP G.down)).nx).sps v q1.1) x3 W Q)<|ai (λ(j:{y:Hp // (XQ v []) (χ.sps v q1.1 (χ.nx (χ.ln s))).fd=.ok (HGf v q1 s)})=>(k0 (X7 (QU (w0:=W) (g:=g) (t:=69) (cs:=(HGl q1 s v m x)) (M:=(Qk M (HGp q1 s v j.1))) (λz E=>VO z 7 E rfl)) (Jc g 69 (HGl q1 s v m x) M (Qc 32 3 YB (TL q1 s v) j.1.1 j.1.2) Vd)<|ai (Jh (w0:=W) (ty:=25) (bt:=57) (c:=YB) (pre:=(λ_=>[])) (ls:=(λi=>nj v s.ln.nx i)) (A:=q1.2.1) (cp:=q1.2.2) (n:=q1.1) (n':=q1.1+1) (A2:=j.1.1) (cq:=j.1.2) (e2:=32) (k:=3) (cp2:=1) (cs:=[Ω j.1.1 (TL q1 s v).length j.1.2]) (R3:=(HGp q1 s v j.1)) (λ_ _ _ h=>.inl h) JO (λu L=>nomatch L) rfl (y6 (QM hl)) rfl rfl) λ(f:Hp)=>JH (λw=>Qe _ g 0 w (l3 _ _)) (λw=>Yq _ g 4 w (l3 _ _)) (λw=>JV g 6 w (l3 _ _))<|ai (Yy W prog g 69 (HGl q1 s v m x) M 25 ([Ω f.1 (q1.1+1) f.2]) 7 (Ω f.1 (q1.1+1) f.2) (Qu 25 _ rfl) rfl rfl (L3 rfl) (HGq f q1)) λ(B:Unit)=>DM (QQ q1.1 (y6 (QM hl))) (qV (HGe g)) (qI (v:Int)) (qI ((v+1:Nat):Int)) (qI (((q1.1+1):Nat):Int)) (Zo (HGi g q1 s v x f m M) (HGg g v q1 s x f m M) λ_ _ _ h=>h) (Yu F)<|ai (show((q1.1+1)<=v+1/\GS v (v+1) [] (χ.nx (χ.ln s)).fd=GS v (v+1-(q1.1+1)) (DK v (χ.nx (χ.ln s)) (q1.1+1)) (χ.sps v (q1.1+1) (χ.nx (χ.ln s))).fd)from⟨QM hl,lP (QM hl) C.2 j.2⟩) (show v+1-(q1.1+1)<v+1-q1.1 from y6 (QM hl))) (X7 (Jc g 69 (HGl q1 s v m x) M (Qc 32 3 YB (TL q1 s v) j.1.1 j.1.2) Vd) (QU (w0:=W) (g:=g) (t:=69) (cs:=(HGl q1 s v m x)) (M:=M) (λz E=>VO z 7 E rfl))<|ai (Jh (w0:=W) (ty:=25) (bt:=57) (c:=YB) (pre:=(λ_=>[])) (ls:=(λi=>nj v s.ln.nx i)) (A:=q1.2.1) (cp:=q1.2.2) (n:=q1.1) (n':=q1.1+1) (A2:=j.1.1) (cq:=j.1.2) (e2:=32) (k:=3) (cp2:=1) (cs:=[Ω j.1.1 (TL q1 s v).length j.1.2]) (R3:=(HGp q1 s v j.1)) (λ_ _ _ h=>.inl h) JO (λu L=>nomatch L) rfl (y6 (QM hl)) rfl rfl) λ(f:Hp)=>JH (λw=>Qe _ g 0 w (l3 _ _)) (λw=>Yq _ g 4 w (l3 _ _)) (λw=>JV g 6 w (l3 _ _))<|ai (Yy W prog g 69 (HGl q1 s v m x) M 25 ([Ω f.1 (q1.1+1) f.2]) 7 (Ω f.1 (q1.1+1) f.2) (Qu 25 _ rfl) rfl rfl (L3 rfl) (HGq f q1)) λ(B:Unit)=>DM (QQ q1.1 (y6 (QM hl))) (qV (HGe g)) (qI (v:Int)) (qI ((v+1:Nat):Int)) (qI (((q1.1+1):Nat):Int)) (Zo (HGi g q1 s v x f m M) (HGg g v q1 s x f m M) λ_ _ _ h=>h) (Yu F)<|ai (show((q1.1+1)<=v+1/\GS v (v+1) [] (χ.nx (χ.ln s)).fd=GS v (v+1-(q1.1+1)) (DK v (χ.nx (χ.ln s)) (q1.1+1)) (χ.sps v (q1.1+1) (χ.nx (χ.ln s))).fd)from⟨QM hl,lP (QM hl) C.2 j.2⟩) (show v+1-(q1.1+1)<v+1-q1.1 from y6 (QM hl))))) (X9 F (Xl (XQ v []) (χ.sps v q1.1 (χ.nx (χ.ln s)))) (Xl (J7 x.k v) s) λ_ h=>h.imp λ_ h=>⟨(iS H.2 G.down hi).trans (Q3 (sW (QM hl) C.2 h.1)),h.2⟩)))) λhl=>(Zs (F:=F) (v:=.tuple #[]) (val:=λ_:{y:Hp×Hp // J7 x.k v s.fd=.ok (HGx x v s)}=>Value.tuple #[]) (R1:=Qk (Qk (Qh g 69 (mN m q1 s v x) M) HGb) (HGC q1 v s)) (R:=λy:{y:Hp×Hp // J7 x.k v s.fd=.ok (HGx x v s)}=>Qh g 69 (χ.cs (s.dom x.k v) (PC.l ⟨x.k,(v:Int),(Ω y.1.1.1 (Ko x.k v s).length y.1.1.2),(Ω y.1.2.1 (ZN x.k v s).length y.1.2.2),x.p,x.r,x.e,x.d,x.u,x.c⟩ m)) (Qk (Qk M (Qc 76 6 Jw (Ko x.k v s) y.1.1.1 y.1.1.2)) (Qt 57 1 (ZN x.k v s).length (Ae v s) y.1.2.1 y.1.2.2))) ⟨((none,0),q1.2),iR H.2 G.down hi (by have h:=C.2;rw[(show q1.1=v+1 from Rb C.1 (K8 hl)),U1]at h;exact h)⟩ rfl λ_ _ _ h=>eL H.2 hi (show q1.1=v+1 from Rb C.1 (K8 hl)) h)) λhi=>Gz (qV (HGe g)) (qI (v:Int)) (qI (v:Int)) (qI ((HGc.1:Nat):Int)) (Zo (Qk (Qk (Qh g 69 (χ.cs (χ.nx (χ.ln s)) (mM m v x)) M) HGb) HGj) (Qk (Qk (Qh g 69 (χ.cs (χ.sps 2 HGc.1 (χ.nx (χ.ln s))) (PC.l (x.D v (Ω HGc.2.1 (G7 (χ.nx (χ.ln s)) HGc.1).length HGc.2.2) HGA) m)) M) (Qc 76 6 Jw (G7 (χ.nx (χ.ln s)) HGc.1) HGc.2.1 HGc.2.2)) (HGu v s)) λ_ _ _ h=>(by exact BS (λ_ _ _ h=>BA _ _ _ qh _ _ _ _ h) h)) (Yu F)<|ai (show(((0,(none,0)):Nat×Hp).1<=v/\B6 v [] (χ.nx (χ.ln s)).fd=B6 (v-((0,(none,0)):Nat×Hp).1) (G7 (χ.nx (χ.ln s)) ((0,(none,0)):Nat×Hp).1) (χ.sps 2 ((0,(none,0)):Nat×Hp).1 (χ.nx (χ.ln s))).fd)from⟨La _,rfl⟩) λ(q1:Nat×Hp) (C:(HGv q1 v s))=>XA (decide ((q1.1:Int)<(v:Int))) (λhl=>Km (KU (Qk (Qh g 69 (HGk q1 s m v x) M) (HGm s q1)) (Qt 57 1 0 (Ae v s) none 0) PS) (KU (Qh g 69 (HGk q1 s m v x) M) (Qc 76 6 Jw (G7 (χ.nx (χ.ln s)) q1.1) q1.2.1 q1.2.2) Vd) (Qm W g 0) (Ep (gL m q1 s v x) g M (χ.sps 2 q1.1 (χ.nx (χ.ln s))) 2 (((O.ln (QP G.down)).nx).sps 2 q1.1) x4 W Q)<|ai (λ(j:{y:Hp // (XQ 2 []) (χ.sps 2 q1.1 (χ.nx (χ.ln s))).fd=.ok (HGr q1 s)})=>Zb (Jc g 69 (χ.cs (mO q1 s) (gL m q1 s v x)) M (Qc 32 3 YB (gM q1 s) j.1.1 j.1.2) Vd) (Qe W g 0) (Yq W g 4) (V8 W g 6) (QU (w0:=W) (g:=g) (t:=69) (cs:=(χ.cs (mO q1 s) (gL m q1 s v x))) (M:=M) (λz E=>Ww z 6 E rfl)) (JX (w0:=W) (e:=32) (k:=3) (c:=YB) (l:=Xb (χ.sps 2 q1.1 (χ.nx (χ.ln s))) 2) (A:=j.1.1) (cp:=j.1.2) ZE nm0 (λz K=>Ob j.1.2 z 0 K (by rw[VB];decide))) (JX (w0:=W) (e:=32) (k:=3) (c:=YB) (l:=Xb (χ.sps 2 q1.1 (χ.nx (χ.ln s))) 2) (A:=j.1.1) (cp:=j.1.2) ZE nm0 (λz K=>Db 0 0 (w0:=z) K (by rw[VB];decide) x4 rfl rfl)) (JX (w0:=W) (e:=32) (k:=3) (c:=YB) (l:=Xb (χ.sps 2 q1.1 (χ.nx (χ.ln s))) 2) (A:=j.1.1) (cp:=j.1.2) ZE nm0 (λz K=>Ob j.1.2 z 1 K (by rw[VB];decide)))<|ai (JX (w0:=W) (e:=32) (k:=3) (c:=YB) (l:=Xb (χ.sps 2 q1.1 (χ.nx (χ.ln s))) 2) (A:=j.1.1) (cp:=j.1.2) ZE nm0 (λz K=>Db 1 0 (w0:=z) K (by rw[VB];decide) x4 rfl rfl))<|ai (Yj (w0:=W) (ty:=23) (c:=Jw) (l:=G7 (χ.nx (χ.ln s)) q1.1) (l2:=[zU (χ.nx (χ.ln s)) q1.1]) (l':=G7 (χ.nx (χ.ln s)) (q1.1+1)) (A:=q1.2.1) (cp:=q1.2.2) (bt:=76) (m:=1) (cp2:=1) (cs:=[Ξ ((HGE q1 s).b),Ψ ((HGE q1 s).s),Θ ((HGE q1 s).e),Ξ ((HGF q1 s).b),Ψ ((HGF q1 s).s),Θ ((HGF q1 s).e)]) ac dE qH (Pl (χ.nx (χ.ln s)) q1.1) (show(G7 (χ.nx (χ.ln s)) (q1.1+1)).length*64<=140737488355328 from by rw[aT];have:=QM hl;omega) rfl rfl) λ(f:Hp)=>JH (Qe W g 0) (Yq W g 4) (V8 W g 6)<|ai (Yy W prog g 69 (χ.cs (mO q1 s) (gL m q1 s v x)) M 23 ([Ω f.1 (HGh s q1).length f.2]) 6 (Ω f.1 (HGh s q1).length f.2) (Qu 23 _ rfl) rfl rfl (L3 rfl) (Lc.1 (rfl:([Ω f.1 (HGh s q1).length f.2]:a8).all (λu=>u.oneCell')=true))) λ(B:Unit)=>DM (QQ q1.1 (y6 (QM hl))) (qV (HGe g)) (qI (v:Int)) (qI (v:Int)) (qI (((q1.1+1):Nat):Int)) (Zo (Qk (Qk (Qh g 69 (χ.cs (mO q1 s) (PC.l (x.D v (Ω f.1 (HGh s q1).length f.2) HGA) m)) M) (Qc 76 6 Jw (HGh s q1) f.1 f.2)) (HGu v s)) (Qk (Qk (Qh g 69 (χ.cs (χ.sps 2 (q1.1+1) (χ.nx (χ.ln s))) (PC.l (x.D v (Ω f.1 (HGh s q1).length f.2) HGA) m)) M) (Qc 76 6 Jw (HGh s q1) f.1 f.2)) (HGu v s)) λ_ _ _ h=>h) (Yu F)<|ai (show((q1.1+1)<=v/\B6 v [] (χ.nx (χ.ln s)).fd=B6 (v-(q1.1+1)) (G7 (χ.nx (χ.ln s)) (q1.1+1)) (χ.sps 2 (q1.1+1) (χ.nx (χ.ln s))).fd)from⟨QM hl,xy (QM hl) C.2 j.2⟩) (show v-(q1.1+1)<v-q1.1 from y6 (QM hl))) (X9 F (Xl (XQ 2 []) (χ.sps 2 q1.1 (χ.nx (χ.ln s)))) (Xl (J7 x.k v) s) λ_ h=>h.imp λ_ h=>⟨(se H.2 G.down hi).trans (Q3 (xw (QM hl) C.2 h.1)),h.2⟩)) λhl=>(Zs (F:=F) (v:=.tuple #[]) (val:=λ_:{y:Hp×Hp // J7 x.k v s.fd=.ok (HGx x v s)}=>Value.tuple #[]) (R1:=Qk (Qk (Qh g 69 (HGk q1 s m v x) M) (HGm s q1)) (HGu v s)) (R:=λy:{y:Hp×Hp // J7 x.k v s.fd=.ok (HGx x v s)}=>Qh g 69 (χ.cs (s.dom x.k v) (PC.l ⟨x.k,(v:Int),(Ω y.1.1.1 (Ko x.k v s).length y.1.1.2),(Ω y.1.2.1 (ZN x.k v s).length y.1.2.2),x.p,x.r,x.e,x.d,x.u,x.c⟩ m)) (Qk (Qk M (Qc 76 6 Jw (Ko x.k v s) y.1.1.1 y.1.1.2)) (Qt 57 1 (ZN x.k v s).length (Ae v s) y.1.2.1 y.1.2.2))) ⟨(q1.2,(none,0)),iQ H.2 G.down hi (by have h:=C.2;rw[(show q1.1=v from Rb C.1 (K8 hl)),U1]at h;exact h)⟩ rfl λ_ _ _ h=>eK H.2 hi (show q1.1=v from Rb C.1 (K8 hl)) h)) (X9 F (Xl (Qq (List.take q [G1,Yb])) s) (Xl (J7 x.k v) s) λ_ h=>h.imp λ_ h=>⟨t8 H.2 h.1,h.2⟩)) λF=>x5
def yV(_:Unit): a8:=List.replicate 6 undef
def DJ(s:χ): Bool:=Lib.idxOfS [Za,Jn] (Qf s.ln.l 0).s==0
def χ.nd(n:Nat)(s:χ): χ:=bif DJ s then s.ln.nx else(s.ln.nx.nx).trm n
def ndN(n:Nat)(s:χ): Nd:=bif DJ s then⟨1,nm0,di⟩else⟨0,QS s.ln.nx,QI n s.ln.nx.nx⟩
def χ.nds(n:Nat): Nat->χ->χ
 | 0,s=>s
 | k+1,s=>χ.nd n (χ.nds n k s)
def Fe(n:Nat)(s:χ)(j:Nat): Nd:=ndN n (χ.nds n j s)
def Ma(n:Nat)(s:χ)(k:Nat): List Nd:=(List.range k).map (Fe n s)
def Ju(n:Nat)(s:χ): Nat->Int
 | 0=>1
 | k+1=>bif DJ (χ.nds n k s)then Ju n s k+1 else Ju n s k-1
def D5(n:Nat)(s:χ)(m:Bool): Nat->Bool
 | 0=>m
 | k+1=>bif DJ (χ.nds n k s)then D5 n s m k else(D5 n s m k||XG n (χ.nds n k s).ln.nx.nx)
def Vn(nb a:Nat): Int:=bif (2*(nb:Int))==0 then(a:Int)else 2*(nb:Int)
def ed(n:Nat)(s:χ)(i:Nat): a8:=[.int .i64 (Fe n s i).split,.bool (Fe n s i).ο.b,.string (Fe n s i).ο.s,.int .i64 (Fe n s i).ο.e,.int .i64 (Fe n s i).sum.vars]
def xi(n:Nat)(s:χ)(i:Nat): List Tm:=(Fe n s i).sum.ts
def UB(n:Nat)(s:χ): LP:=wQ 56 4 QG (ed n s) (xi n s)
theorem RC(n:Nat)(s:χ)(k:Nat): Ma n s k++[Fe n s k]=Ma n s (k+1):=by simp[Ma,Td]
section
variable {n k:Nat} {s:χ} {x:Nd} (e:x=Fe n s k)
include e
theorem sA{A:u5}{c:Nat}: [.int .i64 x.split,.bool x.ο.b,.string x.ο.s,.int .i64 x.ο.e,.int .i64 x.sum.vars,.slice A x.sum.ts.length c]=ed n s k++[.slice A (xi n s k).length c]:=by subst e;rfl
theorem kg{A:u5}{c:Nat}(X:z0)(S:Nat->Prop)(w:y9)(h:(Qc 56 4 QG x.sum.ts A c).φ X S w): (E8 56 4 QG (xi n s k) A c).φ X S w:=by subst e;exact .inl h
end
section
variable {n k:Nat} {s:χ}
theorem cz(h:DJ (χ.nds n k s)=true): (⟨1,nm0,di⟩:Nd)=Fe n s k:=by unfold Fe ndN;rw[h];rfl
theorem cx(h:DJ (χ.nds n k s)=false): (⟨0,QS (χ.nds n k s).ln.nx,QI n (χ.nds n k s).ln.nx.nx⟩:Nd)=Fe n s k:=by unfold Fe ndN;rw[h];rfl
theorem kd:Ju n s (k+1)=bif DJ (χ.nds n k s)then Ju n s k+1 else Ju n s k-1:=rfl
theorem sy{m:Bool}: D5 n s m (k+1)=bif DJ (χ.nds n k s)then D5 n s m k else(D5 n s m k||XG n (χ.nds n k s).ln.nx.nx):=rfl
theorem FF(h:DJ (χ.nds n k s)=true): Ju n s (k+1)=Ju n s k+1:=by rw[kd,h,cond_true]
theorem FE(h:DJ (χ.nds n k s)=false): Ju n s (k+1)=Ju n s k-1:=by rw[kd,h,cond_false]
theorem kb{m:Bool}(h:DJ (χ.nds n k s)=true): D5 n s m (k+1)=D5 n s m k:=by rw[sy,h,cond_true]
theorem ka{m:Bool}(h:DJ (χ.nds n k s)=false): D5 n s m (k+1)=(D5 n s m k||XG n (χ.nds n k s).ln.nx.nx):=by rw[sy,h,cond_false]
theorem Ol(h:DJ (χ.nds n k s)=true): χ.nds n (k+1) s=(χ.nds n k s).ln.nx:=by show χ.nd n _=_;unfold χ.nd;rw[h];rfl
theorem Oj(h:DJ (χ.nds n k s)=false): χ.nds n (k+1) s=((χ.nds n k s).ln.nx.nx).trm n:=by show χ.nd n _=_;unfold χ.nd;rw[h];rfl
variable {g t:Nat} {x:PC} {m:Bool} {M:Res}
theorem fG(h:DJ (χ.nds n k s)=true){X:z0}{S:Nat->Prop}{w:y9}(a:(Qh g t (χ.cs (χ.nx (χ.ln (χ.nds n k s))) (PC.l x (D5 n s m k))) M).φ X S w): (Qh g t (χ.cs (χ.nds n (k+1) s) (PC.l x (D5 n s m (k+1)))) M).φ X S w:=by
 rw[Ol h,kb h];exact a
theorem fF(h:DJ (χ.nds n k s)=false){X:z0}{S:Nat->Prop}{w:y9}(a:(Qh g t (χ.cs (χ.trm n (χ.nx (χ.nx (χ.ln (χ.nds n k s))))) (PC.l x (D5 n s m k||XG n (χ.nx (χ.nx (χ.ln (χ.nds n k s))))))) M).φ X S w): (Qh g t (χ.cs (χ.nds n (k+1) s) (PC.l x (D5 n s m (k+1)))) M).φ X S w:=by
 rw[Oj h,ka h];exact a
end
theorem χ.In.trm{s:χ}{M:Res}(h:s.In M)(n:Nat): (s.trm n).In M:=h.rnds n _
theorem kt(s:χ): ∀n,(χ.nxs n s).ls=s.ls
 | 0=>rfl
 | n+1=>kt s n
theorem OJ(v:Nat)(s:χ): ∀k,(χ.rnds v k s).ls=s.ls
 | 0=>rfl
 | k+1=>(kt _ v).trans (OJ v s k)
theorem jQ(v f:Nat)(o:Int)(l:List Nd)(m:Bool): XO v (f+1) o l m=bif decide (o>0)then bnd (Qq [Za,Jn]) (λi=>bif i==0 then XO v f (o+1) (l++[⟨1,nm0,di⟩]) m else bnd XP λa=>bnd (Qz v) λp=>XO v f (o-1) (l++[⟨0,a,p.1⟩]) (m||p.2))else rtn (l,m):=rfl
theorem dU{v:Nat}{s:χ}{M:Res}(h:s.In M)(a:v<=1000): okP (QI v s):=o5 (l:=gy v s) (by unfold gy;rw[IS];exact L9 (Rn _ _) h.f.l.1) a (dR h _)
theorem RN:okN nm0:=⟨x4,x4,x4⟩
theorem yy:okP di:=⟨La _,λt h=>nomatch h⟩
theorem Iq{s:χ}{M:Res}(h:s.In M): okN (QS s):=(kn h).ok x4
structure NdI (V:Int) (n:Nat) (s:χ) (m:Bool) (M:Res) (k:Nat):Prop where
 v:V=(n:Int)
 e:XO V 70000 1 [] m s.fd=XO V (70000-k) (Ju n s k) (Ma n s k) (D5 n s m k) (χ.nds n k s).fd
 q:k+(χ.nds n k s).ls.length=s.ls.length
 lo:-(k:Int)<=Ju n s k
 hi:Ju n s k<=k+1
 i:(χ.nds n k s).In M
 b:n<=200
 o:∀j,j<k->okP (Fe n s j).sum/\okN (Fe n s j).ο
section
variable {V:Int} {n k:Nat} {s:χ} {m:Bool} {M:Res} (h:NdI V n s m M k) (hl:s.ls.length<=4001)
include h hl
theorem NdI.lt:k<=4001:=y6 h.q
theorem NdI.go(h0:decide (Ju n s k>0)=true): XO V 70000 1 [] m s.fd=bnd (Qq [Za,Jn]) (λi=>bif i==0 then XO V (70000-(k+1)) (Ju n s k+1) (Ma n s k++[⟨1,nm0,di⟩]) (D5 n s m k)else bnd XP λa=>bnd (Qz V) λp=>XO V (70000-(k+1)) (Ju n s k-1) (Ma n s k++[⟨0,a,p.1⟩]) (D5 n s m k||p.2)) (χ.nds n k s).fd:=by
 have d:=h.lt hl;have b:=h.e;have c:=h.v;subst c;rw[b,show 70000-k=(70000-(k+1))+1 by omega,jQ,h0];rfl
variable (h0:decide (Ju n s k>0)=true)
include h0
theorem NdI.line_e{z:Int}(e:Qq [Za,Jn] (χ.nds n k s).fd=.error z): XO V 70000 1 [] m s.fd=.error z:=by
 rw[h.go hl h0];exact Q3 e
variable (e1:Qq [Za,Jn] (χ.nds n k s).fd=.ok (Lib.idxOfS [Za,Jn] (Qf (χ.nds n k s).ln.l 0).s,(χ.nds n k s).ln.nx.fd))
include e1
theorem NdI.at_sp(hi:DJ (χ.nds n k s)=true): NdI V n s m M (k+1):=by
 have c:=QP e1;refine⟨h.v,?_,?_,?_,?_,?_,h.b,λj a=>?_⟩
 ·rw[h.go hl h0,Qv e1,show(Lib.idxOfS [Za,Jn] (Qf (χ.nds n k s).ln.l 0).s==0)=true from hi,Ol hi,FF hi,kb hi,<- RC,<- cz hi];rfl
 ·rw[Ol hi];show k+1+((χ.nds n k s).ls.drop 1).length=_;rw[Lf];have:=h.q;omega
 ·rw[FF hi];have:=h.lo;omega
 ·rw[FF hi];have:=h.hi;omega
 ·rw[Ol hi];exact(h.i.ln c).nx
 ·rcases Nat.lt_or_eq_of_le (Tt a)with a|rfl
  ·exact h.o j a
  ·rw[<- cz hi];exact⟨yy,RN⟩
variable (hi:DJ (χ.nds n k s)=false)
include hi
theorem NdI.go2:XO V 70000 1 [] m s.fd=bnd XP (λa=>bnd (Qz V) λp=>XO V (70000-(k+1)) (Ju n s k-1) (Ma n s k++[⟨0,a,p.1⟩]) (D5 n s m k||p.2)) (χ.nds n k s).ln.nx.fd:=by
 rw[h.go hl h0,Qv e1,show(Lib.idxOfS [Za,Jn] (Qf (χ.nds n k s).ln.l 0).s==0)=false from hi];rfl
theorem NdI.num_e{z:Int}(e:XP (χ.nds n k s).ln.nx.fd=.error z): XO V 70000 1 [] m s.fd=.error z:=by
 rw[h.go2 hl h0 e1 hi];exact Q3 e
variable (e2:XP (χ.nds n k s).ln.nx.fd=.ok (QS (χ.nds n k s).ln.nx,(χ.nds n k s).ln.nx.nx.fd))
include e2
theorem NdI.trm_e{z:Int}(e:Qz n (χ.nds n k s).ln.nx.nx.fd=.error z): XO V 70000 1 [] m s.fd=.error z:=by
 have a:=h.v;subst a;rw[h.go2 hl h0 e1 hi];exact(Qv e2).trans (Q3 e)
theorem NdI.at_lf(d:Qz n (χ.nds n k s).ln.nx.nx.fd=.ok ((QI n (χ.nds n k s).ln.nx.nx,XG n (χ.nds n k s).ln.nx.nx),((χ.nds n k s).ln.nx.nx.trm n).fd)): NdI V n s m M (k+1):=by
 have a:=QP e1;have e:=h.v;refine⟨h.v,?_,?_,?_,?_,?_,h.b,λj c=>?_⟩
 ·subst e;rw[h.go2 hl h0 e1 hi,Qv e2,Qv d,Oj hi,FE hi,ka hi,<- RC,<- cx hi]
 ·rw[Oj hi];show k+1+((χ.trm n (χ.nds n k s).ln.nx.nx).ls).length=_;unfold χ.trm;rw[OJ];show k+1+((χ.nds n k s).ls.drop 1).length=_;rw[Lf];have:=h.q;omega
 ·rw[FE hi];have:=h.lo;omega
 ·rw[FE hi];have:=h.hi;omega
 ·rw[Oj hi];exact(h.i.ln a).nx.nx.trm n
 ·rcases Nat.lt_or_eq_of_le (Tt c)with c|rfl
  ·exact h.o j c
  ·rw[<- cx hi];exact⟨dU (h.i.ln a).nx.nx (L9 h.b x4),Iq (h.i.ln a).nx⟩
end
theorem NdI.fin{V:Int}{n k:Nat}{s:χ}{m:Bool}{M:Res}(h:NdI V n s m M k)(hl:s.ls.length<=4001)(h0:decide (Ju n s k>0)=false): XO V 70000 1 [] m s.fd=.ok ((Ma n s k,D5 n s m k),(χ.nds n k s).fd):=by
 have c:=h.lt hl;have a:=h.e;have b:=h.v;subst b;rw[a,show 70000-k=(70000-(k+1))+1 by omega,jQ,h0];rfl
structure NX where
 x:PC
 A1:Option Addr
 nb:Nat
 c1:Nat
 A2:Option Addr
 ns:Nat
 c2:Nat
def NX.N(z:NX)(c:z0): PC:=⟨z.x.k,z.x.v,.slice z.A1 z.nb z.c1,.slice z.A2 z.ns z.c2,z.x.p,z.x.r,z.x.e,z.x.d,z.x.u,c⟩
def DF(n:Nat)(q1:Nat×Hp)(s:χ): χ:=χ.nx (χ.nx (χ.ln (χ.nds n q1.1 s)))
def zC(m:Bool)(n:Nat)(q1:Nat×Hp)(s:χ)(z:NX): a8:=χ.cs (χ.trm n (DF n q1 s)) (PC.l (z.N (.slice q1.2.1 q1.1 q1.2.2)) ((D5 n s m q1.1)||XG n (DF n q1 s)))
def nm(m:Bool)(n:Nat)(q1:Nat×Hp)(s:χ)(z:NX): a8:=PC.l (z.N (.slice q1.2.1 q1.1 q1.2.2)) (D5 n s m q1.1)
abbrev HGG(n:Nat)(q1:Nat×Hp)(s:χ):=(Qq (List.take 2 [Za,Jn])) (χ.nds n q1.1 s).fd=.ok ((Lib.idxOfS (List.take 2 [Za,Jn]) (Qf (χ.ln (χ.nds n q1.1 s)).l 0).s),(χ.nx (χ.ln (χ.nds n q1.1 s))).fd)
abbrev HGH(n:Nat)(q1:Nat×Hp)(s:χ):=XP (χ.nx (χ.ln (χ.nds n q1.1 s))).fd=.ok ((QS (χ.nx (χ.ln (χ.nds n q1.1 s)))),(DF n q1 s).fd)
abbrev HGI:Nat×Hp:=(0,(none,0))
abbrev HGJ(g:Nat):z0:=.pointer (some ⟨g,0,none⟩)
abbrev HGK(n:Nat)(q1:Nat×Hp)(s:χ):=((QI n (DF n q1 s),XG n (DF n q1 s)),(χ.trm n (DF n q1 s)).fd)
abbrev HGL(s:χ)(z:NX)(m:Bool):=χ.cs s (PC.l (z.N (.slice none 0 0)) m)
abbrev HGM(g:Nat):z0:=.pointer (some ⟨g,4,none⟩)
abbrev HGN(z:NX)(m:Bool):=XO (Vn z.nb z.ns) 70000 1 [] m
abbrev HGO(n:Nat)(q1:Nat×Hp)(s:χ):=χ.nds n q1.1 s
abbrev HGP:=Qc 54 6 yV ([]:List Unit) none 0
abbrev HGQ(g:Nat):z0:=.pointer (some ⟨g,17,none⟩)
abbrev HGR:=List.take 2 [Za,Jn]
abbrev HGS(n:Nat)(q1:Nat×Hp)(s:χ):=QS (χ.nx (χ.ln (HGO n q1 s)))
abbrev HGT(n:Nat)(q1:Nat×Hp)(s:χ)(z:NX)(r:Hp)(m:Bool):=χ.cs (χ.trm n (DF n q1 s)) (PC.l (z.N (.slice r.1 (q1.1+1) r.2)) ((D5 n s m q1.1)||XG n (DF n q1 s)))
theorem pi{g:Nat}{M:Res}{s:χ}(C:s.In M){z:NX}{m:Bool}(S:z.nb<=100)(T:z.ns<=200)(W:y9)(L:Q0 W): FxF prog W (Qh g 69 (χ.cs s (PC.l (z.N (x01)) m)) M) 77 #[x02 g] (λ_:{y:(Nat×Nat)×Hp // (XO (Vn z.nb z.ns) 70000 1 [] m) s.fd=.ok ((Ma y.1.1 s y.1.2,D5 y.1.1 s m y.1.2),(χ.nds y.1.1 y.1.2 s).fd)/\(χ.nds y.1.1 y.1.2 s).In M/\y.1.2<=4001/\∀j,j<y.1.2->okP (Fe y.1.1 s j).sum/\okN (Fe y.1.1 s j).ο}=>Value.tuple #[]) (λy:{y:(Nat×Nat)×Hp // (XO (Vn z.nb z.ns) 70000 1 [] m) s.fd=.ok ((Ma y.1.1 s y.1.2,D5 y.1.1 s m y.1.2),(χ.nds y.1.1 y.1.2 s).fd)/\(χ.nds y.1.1 y.1.2 s).In M/\y.1.2<=4001/\∀j,j<y.1.2->okP (Fe y.1.1 s j).sum/\okN (Fe y.1.1 s j).ο}=>Qh g 69 (χ.cs (χ.nds y.1.1.1 y.1.1.2 s) (PC.l (z.N (Ω y.1.2.1 y.1.1.2 y.1.2.2)) (D5 y.1.1.1 s m y.1.1.2))) (Qk M (Qt 54 6 y.1.1.2 (UB y.1.1.1 s) y.1.2.1 y.1.2.2))) (Xl (XO (Vn z.nb z.ns) 70000 1 [] m) s) :=
 Gb Qu QR (λa w=>call77 a w) func77 ntmps77 results77 _ rfl _ _ _ _ [.nil 0 0 54 6 yV,.o 0 2 (.set (HGM g)),.o 0 3 (.set (.pointer (some ⟨g,6,none⟩))),.o 0 4 (.set (.pointer (some ⟨g,6,none⟩))),.o 0 5 (.rd [0] (Ω z.A1 z.nb z.c1)),.o 0 7 (.eq (iV ((2*z.nb:Nat):Int))),.cut 3 (λ(n:Nat)=>(⟨67,[(0,.val (HGJ g)),(2,iV (n:Int))],[],[none,none,none]⟩:St)) (λ(n:Nat)=>(Vn z.nb z.ns=(n:Int)/\n<=200)) (λk u=>bif Nat.beq k 0 then z.ns else 2*z.nb) (λ(n:Nat)=>[.join 3 0 0 2,.lop (λ(q1:Nat×Hp)=>(⟨67,[(0,.val (HGJ g)),(2,iV (n:Int)),(3,iV (Ju n s q1.1))],[],[some (Qk (Qh g 69 (χ.cs (HGO n q1 s) (nm m n q1 s z)) M) (Qt 54 6 q1.1 (UB n s) q1.2.1 q1.2.2)),none]⟩:St)) (λ(q1:Nat×Hp)=>NdI (Vn z.nb z.ns) n s m M q1.1) (λ(q1:Nat×Hp)=>(HGO n q1 s).ls.length) (HGI:Nat×Hp) (λ(q1:Nat×Hp) (u:List Hp)=>(q1.1+1,u.headD (none,0))) (λ(q1:Nat×Hp)=>[.both [.spl 6 0 0 (Qh g 69 (χ.cs (HGO n q1 s) (nm m n q1 s z)) M) (Qt 54 6 q1.1 (UB n s) q1.2.1 q1.2.2),.o 6 2 (.set (HGJ g)),.fx 6 4 0 (λ(D:PLift (HGG n q1 s))=>Θ (Lib.idxOfS HGR (Qf (χ.ln (HGO n q1 s)).l 0).s)) (λ(D:PLift (HGG n q1 s))=>Qh g 69 (χ.cs (χ.nx (χ.ln (HGO n q1 s))) (nm m n q1 s z)) M) (Xl (Qq HGR) (HGO n q1 s)) (λ(D:PLift (HGG n q1 s))=>[.both [.o 7 3 (.set (HGM g)),.o 7 4 (.set (HGQ g)),.o 7 5 (.rd [0] (Ω q1.2.1 q1.1 q1.2.2)),.nil 7 8 56 4 QG,.join 7 8 2 3,.eff 7 8 2 (λ(d:Hp)=>Ω d.1 (q1.1+1) d.2) (λ(d:Hp)=>Qt 54 6 (q1.1+1) (UB n s) d.1 d.2) (λ(d:Hp)=>[.o 7 10 (.set (HGM g)),.o 7 11 (.set (HGQ g)),.eff 7 12 0 (λ(E:Unit)=>undef) (λ(E:Unit)=>Qh g 69 (χ.cs (χ.nx (χ.ln (HGO n q1 s))) (PC.l (z.N (Ω d.1 (q1.1+1) d.2)) (D5 n s m q1.1))) M) (λ(E:Unit)=>[.o 8 1 (.eq (iV (Ju n s q1.1+2))),.join 5 0 0 2,.o 5 1 (.eq (iV (Ju n s (q1.1+1)))),.nxt [d]])])] [.o 9 2 (.set (HGJ g)),.fx 9 3 0 (λ(d:PLift (HGH n q1 s))=>nA (HGS n q1 s)) (λ(d:PLift (HGH n q1 s))=>Qh g 69 (χ.cs (DF n q1 s) (nm m n q1 s z)) M) (Xl XP (χ.nx (χ.ln (HGO n q1 s)))) (λ(d:PLift (HGH n q1 s))=>[.fx 10 2 0 (λ(B:{y:Hp // (Qz n) (DF n q1 s).fd=.ok (HGK n q1 s)})=>Value.agg #[Θ ((QI n (DF n q1 s)).vars),Ω B.1.1 (QI n (DF n q1 s)).ts.length B.1.2]) (λ(B:{y:Hp // (Qz n) (DF n q1 s).fd=.ok (HGK n q1 s)})=>Qh g 69 (zC m n q1 s z) (Qk M (Qc 56 4 QG (QI n (DF n q1 s)).ts B.1.1 B.1.2))) (Xl (Qz n) (DF n q1 s)) (λ(B:{y:Hp // (Qz n) (DF n q1 s).fd=.ok (HGK n q1 s)})=>[.spl 10 3 0 (Qh g 69 (zC m n q1 s z) M) (Qc 56 4 QG (QI n (DF n q1 s)).ts B.1.1 B.1.2),.join 10 4 2 3,.reg 8 [0],.o 11 3 (.set (HGM g)),.o 11 4 (.set (HGQ g)),.o 11 5 (.rd [0] (Ω q1.2.1 q1.1 q1.2.2)),.eff 11 8 2 (λ(r:Hp)=>Ω r.1 (q1.1+1) r.2) (λ(r:Hp)=>Qt 54 6 (q1.1+1) (UB n s) r.1 r.2) (λ(r:Hp)=>[.o 11 10 (.set (HGM g)),.o 11 11 (.set (HGQ g)),.eff 11 12 0 (λ(E:Unit)=>undef) (λ(E:Unit)=>Qh g 69 (HGT n q1 s z r m) M) (λ(E:Unit)=>[.join 5 0 0 2,.o 5 1 (.eq (iV (Ju n s (q1.1+1)))),.nxt [r]])])])])]])] []])]),.both [.o 2 2 (.set (HGM g)),.o 2 3 (.set (.pointer (some ⟨g,6,none⟩))),.o 2 4 (.set (.pointer (some ⟨g,7,none⟩))),.o 2 5 (.rd [0] (Ω z.A2 z.ns z.c2)),.nxc 0 []] [.nxc 1 []]] (λF=>Kr (Qe W g 0) (Yq W g 4) (V8 W g 6) (QU (w0:=W) (g:=g) (t:=69) (cs:=(HGL s z m)) (M:=M) (λG H=>Ww G 6 H rfl)) (show IntKind.i64.wrap (2*(z.nb:Int))=((2*z.nb:Nat):Int)from by rw[Lg _ x3];omega)<|k0 (XA (((2*z.nb:Nat):Int)==0) (λI=>Zb (Qe W g 0) (Yq W g 4) (JV g 6 (w0:=W)) (QU (w0:=W) (g:=g) (t:=69) (cs:=(HGL s z m)) (M:=M) (λG H=>VO G 7 H rfl)) (qV (HGJ g)) (qI (z.ns:Int)) (Yu (Qh g 69 (HGL s z m) M)) (Yu F)<|ai (Yu HGP)<|(show(Vn z.nb z.ns=(z.ns:Int)/\z.ns<=200)from⟨by unfold Vn;rw[show(2*(z.nb:Int)==0)=true from I];rfl,x3⟩)) λI=>Kr (qV (HGJ g)) (qI ((2*z.nb:Nat):Int)) (Yu (Qh g 69 (HGL s z m) M)) (Yu F) (Yu HGP)<|(show(Vn z.nb z.ns=((2*z.nb:Nat):Int)/\2*z.nb<=200)from⟨by unfold Vn;rw[show(2*(z.nb:Int)==0)=false from I];rfl,x3⟩)) λ(n:Nat) (K:(Vn z.nb z.ns=(n:Int)/\n<=200))=>Kr (qV (HGJ g)) (qI (n:Int)) (qI (Ju n s HGI.1)) (Zo (Qk (Qh g 69 (HGL s z m) M) HGP) (Qk (Qh g 69 (χ.cs (χ.nds n HGI.1 s) (PC.l (z.N (Ω HGI.2.1 HGI.1 HGI.2.2)) (D5 n s m HGI.1))) M) (Qt 54 6 HGI.1 (UB n s) HGI.2.1 HGI.2.2)) λ_ _ _ h=>(by exact BS (λ_ _ _ h=>BA _ _ _ yV _ _ _ _ h) h)) (Yu F)<|ai (show NdI (Vn z.nb z.ns) n s m M 0 from⟨K.1,rfl,Lj _,(by show(0:Int)<=1;decide),(by show(1:Int)<=1;decide),C,K.2,λ_ h=>absurd h (R6 _)⟩) λ(q1:Nat×Hp) (p:NdI (Vn z.nb z.ns) n s m M q1.1)=>XA (decide ((Ju n s q1.1)>0)) (λh0=>JH (KU (Qh g 69 (χ.cs (HGO n q1 s) (nm m n q1 s z)) M) (Qt 54 6 q1.1 (UB n s) q1.2.1 q1.2.2) PS) (Qm W g 0) (Dd g M (HGO n q1 s) (nm m n q1 s z) ([Za,Jn]) 2 2 p.i 9 x4 x4 W)<|ai (λ(D:PLift (HGG n q1 s))=>XA ((Lib.idxOfS (List.take 2 [Za,Jn]) (Qf (χ.ln (χ.nds n q1.1 s)).l 0).s)==0) (λhi=>JH (Qe W g 0) (Jf W g 4) (QU (w0:=W) (g:=g) (t:=69) (cs:=(χ.cs (χ.nx (χ.ln (HGO n q1 s))) (nm m n q1 s z))) (M:=M) (λG H=>Cj G 17 H rfl))<|ai (Jh (w0:=W) (ty:=33) (bt:=54) (c:=QG) (pre:=(ed n s)) (ls:=(xi n s)) (A:=q1.2.1) (cp:=q1.2.2) (n:=q1.1) (n':=q1.1+1) (A2:=none) (cq:=0) (e2:=56) (k:=4) (cp2:=1) (cs:=[Θ 1,Ξ false,x00,Θ 0,Θ 0,x01]) (R3:=(Qc 56 4 QG ([]:List Tm) none 0)) (kg (n:=n) (s:=s) (cz hi)) Bc (by intro u J;simp only[ed,Ll,Rf,or_false]at J;first|exact J.elim|(rcases J with rfl|rfl|rfl|rfl|rfl<;>rfl)) rfl (y6 (p.lt C.f.n)) (sA (n:=n) (s:=s) (cz hi)) rfl) λ(d:Hp)=>X7 (Qe W g 0) (Jf W g 4)<|ai (Yy W prog g 69 (χ.cs (χ.nx (χ.ln (HGO n q1 s))) (nm m n q1 s z)) M 33 ([Ω d.1 (q1.1+1) d.2]) 17 (Ω d.1 (q1.1+1) d.2) (Qu 33 _ rfl) rfl rfl (L3 rfl) (Lc.1 (rfl:([Ω d.1 (q1.1+1) d.2]:a8).all (λu=>u.oneCell')=true))) λ(E:Unit)=>DM (show IntKind.i64.wrap (Ju n s q1.1+2)=Ju n s q1.1+2 from Lg _ (by have:=p.lo;have:=p.hi;have:=p.lt C.f.n;omega)) (show IntKind.i64.wrap (Ju n s q1.1+2-1)=Ju n s (q1.1+1)from by rw[Lg _ (by have:=p.lo;have:=p.hi;have:=p.lt C.f.n;omega),FF hi]<;>omega) (qV (HGJ g)) (qI (n:Int)) (qI (Ju n s (q1.1+1))) (Zo (Qk (Qh g 69 (χ.cs (χ.nx (χ.ln (HGO n q1 s))) (PC.l (z.N (Ω d.1 (q1.1+1) d.2)) (D5 n s m q1.1))) M) (Qt 54 6 (q1.1+1) (UB n s) d.1 d.2)) (Qk (Qh g 69 (χ.cs (χ.nds n (q1.1+1) s) (PC.l (z.N (Ω d.1 (q1.1+1) d.2)) (D5 n s m (q1.1+1)))) M) (Qt 54 6 (q1.1+1) (UB n s) d.1 d.2)) λ_ _ _ h=>(It (λ_ _ _ h=>fG hi h) h)) (Yu F)<|ai (show NdI (Vn z.nb z.ns) n s m M (q1.1+1)from p.at_sp C.f.n h0 D.down hi) (show(χ.nds n (q1.1+1) s).ls.length<(χ.nds n q1.1 s).ls.length from by have O:=p.q;have Q:=(p.at_sp C.f.n h0 D.down hi).q;omega)) λhi=>X7 (Qm W g 0) (D9 g M (χ.nx (χ.ln (HGO n q1 s))) (nm m n q1 s z) (p.i.ln (QP D.down)).nx W L)<|ai (λ(d:PLift (HGH n q1 s))=>ai (Dq M g (DF n q1 s) (z.N (Ω q1.2.1 q1.1 q1.2.2)) (D5 n s m q1.1) n (p.i.ln (QP D.down)).nx.nx K.2 W L)<|ai (λ(B:{y:Hp // (Qz n) (DF n q1 s).fd=.ok (HGK n q1 s)})=>Km (Jc g 69 (zC m n q1 s z) M (Qc 56 4 QG (QI n (DF n q1 s)).ts B.1.1 B.1.2) Vd) (Qe W g 0) (Jf W g 4) (QU (w0:=W) (g:=g) (t:=69) (cs:=(zC m n q1 s z)) (M:=M) (λG H=>Cj G 17 H rfl))<|ai (Jh (w0:=W) (ty:=33) (bt:=54) (c:=QG) (pre:=(ed n s)) (ls:=(xi n s)) (A:=q1.2.1) (cp:=q1.2.2) (n:=q1.1) (n':=q1.1+1) (A2:=B.1.1) (cq:=B.1.2) (e2:=56) (k:=4) (cp2:=1) (cs:=[Θ 0,Ξ ((HGS n q1 s).b),Ψ ((HGS n q1 s).s),Θ ((HGS n q1 s).e),Θ ((QI n (DF n q1 s)).vars),Ω B.1.1 (QI n (DF n q1 s)).ts.length B.1.2]) (R3:=(Qc 56 4 QG (QI n (DF n q1 s)).ts B.1.1 B.1.2)) (kg (n:=n) (s:=s) (cx hi)) Bc (by intro u J;simp only[ed,Ll,Rf,or_false]at J;first|exact J.elim|(rcases J with rfl|rfl|rfl|rfl|rfl<;>rfl)) rfl (y6 (p.lt C.f.n)) (sA (n:=n) (s:=s) (cx hi)) rfl) λ(r:Hp)=>X7 (Qe W g 0) (Jf W g 4)<|ai (Yy W prog g 69 (zC m n q1 s z) M 33 ([Ω r.1 (q1.1+1) r.2]) 17 (Ω r.1 (q1.1+1) r.2) (Qu 33 _ rfl) rfl rfl (L3 rfl) (Lc.1 (rfl:([Ω r.1 (q1.1+1) r.2]:a8).all (λu=>u.oneCell')=true))) λ(E:Unit)=>Gz (show IntKind.i64.wrap (Ju n s q1.1-1)=Ju n s (q1.1+1)from by rw[Lg _ (by have:=p.lo;have:=p.hi;have:=p.lt C.f.n;omega),FE hi]<;>omega) (qV (HGJ g)) (qI (n:Int)) (qI (Ju n s (q1.1+1))) (Zo (Qk (Qh g 69 (HGT n q1 s z r m) M) (Qt 54 6 (q1.1+1) (UB n s) r.1 r.2)) (Qk (Qh g 69 (χ.cs (χ.nds n (q1.1+1) s) (PC.l (z.N (Ω r.1 (q1.1+1) r.2)) (D5 n s m (q1.1+1)))) M) (Qt 54 6 (q1.1+1) (UB n s) r.1 r.2)) λ_ _ _ h=>(It (λ_ _ _ h=>fF hi h) h)) (Yu F)<|ai (show NdI (Vn z.nb z.ns) n s m M (q1.1+1)from p.at_lf C.f.n h0 D.down hi d.down B.2) (show(χ.nds n (q1.1+1) s).ls.length<(χ.nds n q1.1 s).ls.length from by have O:=p.q;have Q:=(p.at_lf C.f.n h0 D.down hi d.down B.2).q;omega)) (X9 F (Xl (Qz n) (DF n q1 s)) (Xl (HGN z m) s) λ_ h=>h.imp λ_ h=>⟨p.trm_e C.f.n h0 D.down hi d.down h.1,h.2⟩)) (X9 F (Xl XP (χ.nx (χ.ln (HGO n q1 s)))) (Xl (HGN z m) s) λ_ h=>h.imp λ_ h=>⟨p.num_e C.f.n h0 D.down hi h.1,h.2⟩)) (X9 F (Xl (Qq HGR) (HGO n q1 s)) (Xl (HGN z m) s) λ_ h=>h.imp λ_ h=>⟨p.line_e C.f.n h0 h.1,h.2⟩)) λh0=>(Zs (F:=F) (v:=.tuple #[]) (val:=λ_:{y:(Nat×Nat)×Hp // (HGN z m) s.fd=.ok ((Ma y.1.1 s y.1.2,D5 y.1.1 s m y.1.2),(χ.nds y.1.1 y.1.2 s).fd)/\(χ.nds y.1.1 y.1.2 s).In M/\y.1.2<=4001/\∀j,j<y.1.2->okP (Fe y.1.1 s j).sum/\okN (Fe y.1.1 s j).ο}=>Value.tuple #[]) (R1:=Qk (Qh g 69 (χ.cs (HGO n q1 s) (nm m n q1 s z)) M) (Qt 54 6 q1.1 (UB n s) q1.2.1 q1.2.2)) (R:=λy:{y:(Nat×Nat)×Hp // (HGN z m) s.fd=.ok ((Ma y.1.1 s y.1.2,D5 y.1.1 s m y.1.2),(χ.nds y.1.1 y.1.2 s).fd)/\(χ.nds y.1.1 y.1.2 s).In M/\y.1.2<=4001/\∀j,j<y.1.2->okP (Fe y.1.1 s j).sum/\okN (Fe y.1.1 s j).ο}=>Qh g 69 (χ.cs (χ.nds y.1.1.1 y.1.1.2 s) (PC.l (z.N (Ω y.1.2.1 y.1.1.2 y.1.2.2)) (D5 y.1.1.1 s m y.1.1.2))) (Qk M (Qt 54 6 y.1.1.2 (UB y.1.1.1 s) y.1.2.1 y.1.2.2))) ⟨((n,q1.1),q1.2),p.fin C.f.n h0,p.i,p.lt C.f.n,p.o⟩ rfl λ_ _ _ h=>KL Bz h)) λF=>x5
def JA(s:χ): Nm:=QS s.ln.nx
def χ.l2(s:χ): χ:=s.ln.nx.nx
def Jz(b:Bool)(s:χ): Nm:=bif b then QS s.l2.ln.nx else nm0
def G0(b:Bool)(s:χ): Int:=Xf (Qf (χ.nx (χ.ln (bif b then s.l2.l2 else s.l2))).l 0).s
def XS(b:Bool)(s:χ): χ:=χ.l2 (bif b then s.l2.l2 else s.l2)
def PC.T(x:PC)(e d:Nm)(u:Int): PC:=⟨x.k,x.v,x.b,x.s,x.p,x.r,e,d,u,x.c⟩
section
variable {k:Int} {t t2 t3:FD} {z:Int} {a:Int} {n:Nm}
theorem zx(hk:(k==4)=true)(h:Qq [Zx] t=.error z): (bif k==4 then bnd (Qq [Zx]) λ_=>XP else rtn nm0) t=.error z:=by rw[hk];exact Q3 h
theorem zy(hk:(k==4)=true)(h:Qq [Zx] t=.ok (a,t2))(b:XP t2=.error z): (bif k==4 then bnd (Qq [Zx]) λ_=>XP else rtn nm0) t=.error z:=by rw[hk];exact(Qv h).trans b
theorem mA(hk:(k==4)=true)(h:Qq [Zx] t=.ok (a,t2))(b:XP t2=.ok (n,t3)): (bif k==4 then bnd (Qq [Zx]) λ_=>XP else rtn nm0) t=.ok (n,t3):=by rw[hk];exact(Qv h).trans b
theorem mB(hk:(k==4)=false): (bif k==4 then bnd (Qq [Zx]) λ_=>XP else rtn nm0) t=.ok (nm0,t):=by rw[hk];rfl
end
section
variable {x:PC} {s:χ} {b:Bool} (hk:(x.k==4)=b)
include hk
theorem mC(h:K1 x.k s.fd=.ok ((JA s,Jz b s,G0 b s),(XS b s).fd)){M:Res}(i:(XS b s).In M)(a:okN (JA s))(c:okN (Jz b s)): K1 x.k s.fd=.ok ((JA s,Jz (x.k==4) s,G0 (x.k==4) s),(XS (x.k==4) s).fd)/\(XS (x.k==4) s).In M/\okN (JA s)/\okN (Jz (x.k==4) s):=by subst hk;exact⟨h,i,a,c⟩
theorem dS{g:Nat}{M:Res}{m:Bool}{X:z0}{S:Nat->Prop}{w:y9}(h:(Qh g 69 (χ.cs (XS b s) (PC.l (x.T (JA s) (Jz b s) (G0 b s)) m)) M).φ X S w): (Qh g 69 (χ.cs (XS (x.k==4) s) (PC.l (x.T (JA s) (Jz (x.k==4) s) (G0 (x.k==4) s)) m)) M).φ X S w:=by subst hk;exact h
end
abbrev HGU(s:χ):=QS (χ.nx (χ.ln (χ.nx (χ.nx (χ.ln s)))))
abbrev HGV(s:χ):=(Qq (List.take 1 [XU])) (χ.nx (χ.nx (χ.ln (χ.nx (χ.nx (χ.ln s)))))).fd=.ok ((Lib.idxOfS (List.take 1 [XU]) (Qf (χ.ln (χ.nx (χ.nx (χ.ln (χ.nx (χ.nx (χ.ln s))))))).l 0).s),(χ.nx (χ.ln (χ.nx (χ.nx (χ.ln (χ.nx (χ.nx (χ.ln s)))))))).fd)
abbrev HGW(s:χ):=(QL 999999999) (χ.nx (χ.ln (χ.nx (χ.nx (χ.ln (χ.nx (χ.nx (χ.ln s)))))))).fd=.ok ((Xf (Qf (χ.nx (χ.ln (χ.nx (χ.nx (χ.ln (χ.nx (χ.nx (χ.ln s)))))))).l 0).s),(χ.nx (χ.nx (χ.ln (χ.nx (χ.nx (χ.ln (χ.nx (χ.nx (χ.ln s))))))))).fd)
abbrev HGX(s:χ):=(Qq (List.take 1 [Zx])) (χ.nx (χ.nx (χ.ln s))).fd=.ok ((Lib.idxOfS (List.take 1 [Zx]) (Qf (χ.ln (χ.nx (χ.nx (χ.ln s)))).l 0).s),(χ.nx (χ.ln (χ.nx (χ.nx (χ.ln s))))).fd)
abbrev HGY(s:χ):=(Qq (List.take 1 [XU])) (χ.nx (χ.nx (χ.ln s))).fd=.ok ((Lib.idxOfS (List.take 1 [XU]) (Qf (χ.ln (χ.nx (χ.nx (χ.ln s)))).l 0).s),(χ.nx (χ.ln (χ.nx (χ.nx (χ.ln s))))).fd)
abbrev HGZ(s:χ):=(QL 999999999) (χ.nx (χ.ln (χ.nx (χ.nx (χ.ln s))))).fd=.ok ((Xf (Qf (χ.nx (χ.ln (χ.nx (χ.nx (χ.ln s))))).l 0).s),(χ.nx (χ.nx (χ.ln (χ.nx (χ.nx (χ.ln s)))))).fd)
abbrev HG0(s:χ):=QS (χ.nx (χ.ln s))
abbrev HG1(s:χ):=Xf (Qf (χ.nx (χ.ln (χ.nx (χ.nx (χ.ln (χ.nx (χ.nx (χ.ln s)))))))).l 0).s
abbrev HG2(s:χ):=XP (χ.nx (χ.ln (χ.nx (χ.nx (χ.ln s))))).fd=.ok ((HGU s),(χ.nx (χ.nx (χ.ln (χ.nx (χ.nx (χ.ln s)))))).fd)
abbrev HG3(x:PC)(s:χ)(M:Res):=K1 x.k s.fd=.ok ((JA s,Jz (x.k==4) s,G0 (x.k==4) s),(XS (x.k==4) s).fd)/\(XS (x.k==4) s).In M/\okN (JA s)/\okN (Jz (x.k==4) s)
abbrev HG4(s:χ):=(Qq (List.take 1 [EL])) s.fd=.ok ((Lib.idxOfS (List.take 1 [EL]) (Qf (χ.ln s).l 0).s),(χ.nx (χ.ln s)).fd)
abbrev HG5(s:χ):=Xf (Qf (χ.nx (χ.ln (χ.nx (χ.nx (χ.ln s))))).l 0).s
abbrev HG6(s:χ)(x:PC)(m:Bool):=χ.cs (χ.nx (χ.nx (χ.ln (χ.nx (χ.nx (χ.ln s)))))) (PC.l (x.T (HG0 s) nm0 0) m)
abbrev HG7(s:χ):=XP (χ.nx (χ.ln s)).fd=.ok ((HG0 s),(χ.nx (χ.nx (χ.ln s))).fd)
abbrev HG8(g:Nat):z0:=.pointer (some ⟨g,0,none⟩)
abbrev HG9(x:PC)(s:χ)(m:Bool):=PC.l (x.T (HG0 s) nm0 0) m
abbrev HGaa(g:Nat):z0:=.pointer (some ⟨g,4,none⟩)
abbrev HGab(s:χ)(x:PC)(m:Bool):=χ.cs (χ.nx (χ.nx (χ.ln (χ.nx (χ.nx (χ.ln (χ.nx (χ.nx (χ.ln s))))))))) (PC.l (x.T (HG0 s) (HGU s) (HG1 s)) m)
abbrev HGac(x:PC)(s:χ)(m:Bool):=PC.l (x.T (HG0 s) (HGU s) 0) m
abbrev HGad:=List.take 1 [XU]
abbrev HGae(s:χ)(x:PC)(m:Bool):=χ.cs (χ.nx (χ.nx (χ.ln (χ.nx (χ.nx (χ.ln (χ.nx (χ.nx (χ.ln s))))))))) (HGac x s m)
abbrev HGaf(s:χ)(x:PC)(m:Bool):=χ.cs (χ.nx (χ.nx (χ.ln (χ.nx (χ.nx (χ.ln s)))))) (PC.l (x.T (HG0 s) nm0 (HG5 s)) m)
abbrev HGag(x:PC)(m:Bool):=PC.l (x.T nm0 nm0 0) m
abbrev HGah(x:PC)(s:χ)(m:Bool):=χ.cs (XS (x.k==4) s) (PC.l (x.T (JA s) (Jz (x.k==4) s) (G0 (x.k==4) s)) m)
abbrev HGai(s:χ):a8:=[.bool ((HG0 s).b),.string ((HG0 s).s),.int .i64 ((HG0 s).e)]
abbrev HGaj(s:χ):a8:=[.bool ((HGU s).b),.string ((HGU s).s),.int .i64 ((HGU s).e)]
abbrev HGak:=List.take 1 [EL]
abbrev HGal:=List.take 1 [Zx]
theorem zz(g:Nat)(M:Res)(s:χ)(x:PC)(m:Bool)(i:s.In M)(W:y9)(B:Q0 W): FxF prog W (Qh g 69 (χ.cs s (PC.l (x.T nm0 nm0 0) m)) M) 78 #[x02 g] (λ_:PLift (K1 x.k s.fd=.ok ((JA s,Jz (x.k==4) s,G0 (x.k==4) s),(XS (x.k==4) s).fd)/\(XS (x.k==4) s).In M/\okN (JA s)/\okN (Jz (x.k==4) s))=>Value.tuple #[]) (λ_:PLift (K1 x.k s.fd=.ok ((JA s,Jz (x.k==4) s,G0 (x.k==4) s),(XS (x.k==4) s).fd)/\(XS (x.k==4) s).In M/\okN (JA s)/\okN (Jz (x.k==4) s))=>Qh g 69 (χ.cs (XS (x.k==4) s) (PC.l (x.T (JA s) (Jz (x.k==4) s) (G0 (x.k==4) s)) m)) M) (Xl (K1 x.k) s) :=
 Gb Qu QR (λa w=>call78 a w) func78 ntmps78 results78 _ rfl _ _ _ _ [.o 0 2 (.set (HG8 g)),.fx 0 4 0 (λ(d:PLift (HG4 s))=>Θ (Lib.idxOfS HGak (Qf (χ.ln s).l 0).s)) (λ(d:PLift (HG4 s))=>Qh g 69 (χ.cs (χ.nx (χ.ln s)) (HGag x m)) M) (Xl (Qq HGak) s) (λ(d:PLift (HG4 s))=>[.o 1 3 (.set (HG8 g)),.fx 1 4 0 (λ(j:PLift (HG7 s))=>nA (HG0 s)) (λ(j:PLift (HG7 s))=>Qh g 69 (χ.cs (χ.nx (χ.nx (χ.ln s))) (HGag x m)) M) (Xl XP (χ.nx (χ.ln s))) (λ(j:PLift (HG7 s))=>[.o 1 6 (.set (HGaa g)),.o 1 7 (.set (.pointer (some ⟨g,10,none⟩))),.eff 1 8 0 (λ(z:Unit)=>undef) (λ(z:Unit)=>Qh g 69 (χ.cs (χ.nx (χ.nx (χ.ln s))) (HG9 x s m)) M) (λ(z:Unit)=>[.o 2 2 (.set (HGaa g)),.o 2 3 (.set (HGaa g)),.o 2 4 (.rd [0] (Θ x.k)),.both [.o 3 2 (.set (HG8 g)),.fx 3 4 0 (λ(f:PLift (HGX s))=>Θ (Lib.idxOfS HGal (Qf (χ.ln (χ.nx (χ.nx (χ.ln s)))).l 0).s)) (λ(f:PLift (HGX s))=>Qh g 69 (χ.cs (χ.nx (χ.ln (χ.nx (χ.nx (χ.ln s))))) (HG9 x s m)) M) (Xl (Qq HGal) (χ.nx (χ.nx (χ.ln s)))) (λ(f:PLift (HGX s))=>[.o 4 3 (.set (HG8 g)),.fx 4 4 0 (λ(p:PLift (HG2 s))=>nA (HGU s)) (λ(p:PLift (HG2 s))=>Qh g 69 (HG6 s x m) M) (Xl XP (χ.nx (χ.ln (χ.nx (χ.nx (χ.ln s)))))) (λ(p:PLift (HG2 s))=>[.o 4 6 (.set (HGaa g)),.o 4 7 (.set (.pointer (some ⟨g,13,none⟩))),.eff 4 8 0 (λ(q:Unit)=>undef) (λ(q:Unit)=>Qh g 69 (χ.cs (χ.nx (χ.nx (χ.ln (χ.nx (χ.nx (χ.ln s)))))) (HGac x s m)) M) (λ(q:Unit)=>[.o 5 2 (.set (HG8 g)),.fx 5 4 0 (λ(r:PLift (HGV s))=>Θ (Lib.idxOfS HGad (Qf (χ.ln (χ.nx (χ.nx (χ.ln (χ.nx (χ.nx (χ.ln s))))))).l 0).s)) (λ(r:PLift (HGV s))=>Qh g 69 (χ.cs (χ.nx (χ.ln (χ.nx (χ.nx (χ.ln (χ.nx (χ.nx (χ.ln s)))))))) (HGac x s m)) M) (Xl (Qq HGad) (χ.nx (χ.nx (χ.ln (χ.nx (χ.nx (χ.ln s))))))) (λ(r:PLift (HGV s))=>[.o 6 3 (.set (HG8 g)),.fx 6 4 0 (λ(y:PLift (HGW s))=>Θ (HG1 s)) (λ(y:PLift (HGW s))=>Qh g 69 (HGae s x m) M) (Xl (QL 999999999) (χ.nx (χ.ln (χ.nx (χ.nx (χ.ln (χ.nx (χ.nx (χ.ln s))))))))) (λ(y:PLift (HGW s))=>[.o 6 6 (.set (HGaa g)),.o 6 7 (.set (.pointer (some ⟨g,16,none⟩))),.eff 6 8 0 (λ(A:Unit)=>undef) (λ(A:Unit)=>Qh g 69 (HGab s x m) M) (λ(A:Unit)=>[])])])])])])] [.o 5 2 (.set (HG8 g)),.fx 5 4 0 (λ(f:PLift (HGY s))=>Θ (Lib.idxOfS HGad (Qf (χ.ln (χ.nx (χ.nx (χ.ln s)))).l 0).s)) (λ(f:PLift (HGY s))=>Qh g 69 (χ.cs (χ.nx (χ.ln (χ.nx (χ.nx (χ.ln s))))) (HG9 x s m)) M) (Xl (Qq HGad) (χ.nx (χ.nx (χ.ln s)))) (λ(f:PLift (HGY s))=>[.o 6 3 (.set (HG8 g)),.fx 6 4 0 (λ(p:PLift (HGZ s))=>Θ (HG5 s)) (λ(p:PLift (HGZ s))=>Qh g 69 (HG6 s x m) M) (Xl (QL 999999999) (χ.nx (χ.ln (χ.nx (χ.nx (χ.ln s)))))) (λ(p:PLift (HGZ s))=>[.o 6 6 (.set (HGaa g)),.o 6 7 (.set (.pointer (some ⟨g,16,none⟩))),.eff 6 8 0 (λ(q:Unit)=>undef) (λ(q:Unit)=>Qh g 69 (HGaf s x m) M) (λ(q:Unit)=>[])])])]])])])] (λF=>X7 (Qm W g 0) (Dd g M s (HGag x m) ([EL]) 1 1 i 9 x4 x4 W)<|ai (λ(d:PLift (HG4 s))=>X7 (Qm W g 0) (D9 g M (χ.nx (χ.ln s)) (HGag x m) (i.ln (QP d.down)).nx W B)<|ai (λ(j:PLift (HG7 s))=>X7 (Qe W g 0) (AY W g 4)<|ai (Yy W prog g 69 (χ.cs (χ.nx (χ.nx (χ.ln s))) (HGag x m)) M 32 (HGai s) 10 (nA (HG0 s)) (Qu 32 _ rfl) rfl rfl (L3 rfl) (Lc.1 (rfl:((HGai s):a8).all (λu=>u.oneCell')=true))) λ(z:Unit)=>JH (Qe W g 0) (ZB W g 4) (QU (w0:=W) (g:=g) (t:=69) (cs:=(χ.cs (χ.nx (χ.nx (χ.ln s))) (HG9 x s m))) (M:=M) (λC D=>Y7 C 4 D rfl))<|XA (x.k==4) (λhk=>X7 (Qm W g 0) (Dd g M (χ.nx (χ.nx (χ.ln s))) (HG9 x s m) ([Zx]) 1 1 (i.ln (QP d.down)).nx.nx 9 x4 x4 W)<|ai (λ(f:PLift (HGX s))=>X7 (Qm W g 0) (D9 g M (χ.nx (χ.ln (χ.nx (χ.nx (χ.ln s))))) (HG9 x s m) ((i.ln (QP d.down)).nx.nx.ln (QP f.down)).nx W B)<|ai (λ(p:PLift (HG2 s))=>X7 (Qe W g 0) (AZ W g 4)<|ai (Yy W prog g 69 (HG6 s x m) M 32 (HGaj s) 13 (nA (HGU s)) (Qu 32 _ rfl) rfl rfl (L3 rfl) (Lc.1 (rfl:((HGaj s):a8).all (λu=>u.oneCell')=true))) λ(q:Unit)=>X7 (Qm W g 0) (Dd g M (χ.nx (χ.nx (χ.ln (χ.nx (χ.nx (χ.ln s)))))) (HGac x s m) ([XU]) 1 1 ((i.ln (QP d.down)).nx.nx.ln (QP f.down)).nx.nx 9 x4 x4 W)<|ai (λ(r:PLift (HGV s))=>X7 (Qm W g 0) (Fq (HGac x s m) g M (χ.nx (χ.ln (χ.nx (χ.nx (χ.ln (χ.nx (χ.nx (χ.ln s)))))))) (((i.ln (QP d.down)).nx.nx.ln (QP f.down)).nx.nx.ln (QP r.down)).nx 999999999 W)<|ai (λ(y:PLift (HGW s))=>X7 (Qe W g 0) (A7 W g 4)<|ai (Yy W prog g 69 (HGae s x m) M 3 ([Θ (HG1 s)]) 16 (Θ (HG1 s)) (Qu 3 _ rfl) rfl rfl (L3 rfl) (Lc.1 (rfl:([Θ (HG1 s)]:a8).all (λu=>u.oneCell')=true))) λ(A:Unit)=>(Zs (F:=F) (v:=.tuple #[]) (val:=λ_:PLift (HG3 x s M)=>Value.tuple #[]) (R1:=Qh g 69 (HGab s x m) M) (R:=λ_:PLift (HG3 x s M)=>Qh g 69 (HGah x s m) M) ⟨mC hk ((Qv d.down).trans ((Qv j.down).trans ((Qv (mA hk f.down p.down)).trans ((Qv r.down).trans (Qv y.down))))) (((i.ln (QP d.down)).nx.nx.ln (QP f.down)).nx.nx.ln (QP r.down)).nx.nx (Iq (i.ln (QP d.down)).nx) (Iq ((i.ln (QP d.down)).nx.nx.ln (QP f.down)).nx)⟩ rfl λ_ _ _ h=>dS hk h)) (X9 F (Xl (QL 999999999) (χ.nx (χ.ln (χ.nx (χ.nx (χ.ln (χ.nx (χ.nx (χ.ln s))))))))) (Xl (K1 x.k) s) λ_ h=>h.imp λ_ h=>⟨(Qv d.down).trans ((Qv j.down).trans ((Qv (mA hk f.down p.down)).trans ((Qv r.down).trans (Q3 h.1)))),h.2⟩)) (X9 F (Xl (Qq HGad) (χ.nx (χ.nx (χ.ln (χ.nx (χ.nx (χ.ln s))))))) (Xl (K1 x.k) s) λ_ h=>h.imp λ_ h=>⟨(Qv d.down).trans ((Qv j.down).trans ((Qv (mA hk f.down p.down)).trans (Q3 h.1))),h.2⟩)) (X9 F (Xl XP (χ.nx (χ.ln (χ.nx (χ.nx (χ.ln s)))))) (Xl (K1 x.k) s) λ_ h=>h.imp λ_ h=>⟨(Qv d.down).trans ((Qv j.down).trans (Q3 (zy hk f.down h.1))),h.2⟩)) (X9 F (Xl (Qq HGal) (χ.nx (χ.nx (χ.ln s)))) (Xl (K1 x.k) s) λ_ h=>h.imp λ_ h=>⟨(Qv d.down).trans ((Qv j.down).trans (Q3 (zx hk h.1))),h.2⟩)) λhk=>X7 (Qm W g 0) (Dd g M (χ.nx (χ.nx (χ.ln s))) (HG9 x s m) ([XU]) 1 1 (i.ln (QP d.down)).nx.nx 9 x4 x4 W)<|ai (λ(f:PLift (HGY s))=>X7 (Qm W g 0) (Fq (HG9 x s m) g M (χ.nx (χ.ln (χ.nx (χ.nx (χ.ln s))))) ((i.ln (QP d.down)).nx.nx.ln (QP f.down)).nx 999999999 W)<|ai (λ(p:PLift (HGZ s))=>X7 (Qe W g 0) (A7 W g 4)<|ai (Yy W prog g 69 (HG6 s x m) M 3 ([Θ (HG5 s)]) 16 (Θ (HG5 s)) (Qu 3 _ rfl) rfl rfl (L3 rfl) (Lc.1 (rfl:([Θ (HG5 s)]:a8).all (λu=>u.oneCell')=true))) λ(q:Unit)=>(Zs (F:=F) (v:=.tuple #[]) (val:=λ_:PLift (HG3 x s M)=>Value.tuple #[]) (R1:=Qh g 69 (HGaf s x m) M) (R:=λ_:PLift (HG3 x s M)=>Qh g 69 (HGah x s m) M) ⟨mC hk ((Qv d.down).trans ((Qv j.down).trans ((Qv (mB hk)).trans ((Qv f.down).trans (Qv p.down))))) ((i.ln (QP d.down)).nx.nx.ln (QP f.down)).nx.nx (Iq (i.ln (QP d.down)).nx) RN⟩ rfl λ_ _ _ h=>dS hk h)) (X9 F (Xl (QL 999999999) (χ.nx (χ.ln (χ.nx (χ.nx (χ.ln s)))))) (Xl (K1 x.k) s) λ_ h=>h.imp λ_ h=>⟨(Qv d.down).trans ((Qv j.down).trans ((Qv (mB hk)).trans ((Qv f.down).trans (Q3 h.1)))),h.2⟩)) (X9 F (Xl (Qq HGad) (χ.nx (χ.nx (χ.ln s)))) (Xl (K1 x.k) s) λ_ h=>h.imp λ_ h=>⟨(Qv d.down).trans ((Qv j.down).trans ((Qv (mB hk)).trans (Q3 h.1))),h.2⟩)) (X9 F (Xl XP (χ.nx (χ.ln s))) (Xl (K1 x.k) s) λ_ h=>h.imp λ_ h=>⟨(Qv d.down).trans (Q3 h.1),h.2⟩)) (X9 F (Xl (Qq HGak) s) (Xl (K1 x.k) s) λ_ h=>h.imp λ_ h=>⟨Q3 h.1,h.2⟩)) λF=>x5
def Sy(M:Res)(Q:y9->Prop): Prop:=∀(x:z0) (S:Nat->Prop) (w:y9),M.φ x S w->Q w
def Up(M a:Res): Prop:=∀(x:z0) (S:Nat->Prop) (w:y9),a.φ x S w->∃b c,M.φ b c w
theorem Up.refl(M:Res): Up M M:=λ_ _ _ h=>⟨_,_,h⟩
theorem Up.trans{A B C:Res}(h:Up A B)(k:Up B C): Up A C:=λ_ _ _ a=>by
 obtain⟨_,_,b⟩:=k _ _ _ a;exact h _ _ _ b
theorem Up.pair(M N:Res): Up M (Qk M N):=λ_ _ _ b=>by
 obtain⟨a,_,_,c,_⟩:=(show ∃a d e,_ from b)
 exact⟨_,a,c⟩
theorem Up.snd(M N:Res): Up N (Qk M N):=λ_ _ _ c=>by
 obtain⟨_,a,b,_,d,_⟩:=(show ∃e a b,_ from c)
 exact⟨b,a,d⟩
theorem Sy.up{M a:Res}{Q:y9->Prop}(h:Sy M Q)(b:Up M a): Sy a Q:=λx S w c=>by
 obtain⟨_,_,d⟩:=b x S w c;exact h _ _ _ d
theorem χ.In.up{s:χ}{M a:Res}(h:s.In M)(b:Up M a): s.In a:=⟨Sy.up (Q:=s.ok) h.ok b,h.f,h.ca,h.na⟩
theorem FxF.to{β γ:Type}{P:u7}{b:y9}{c:Res}{f:FuncId}{args:b7}{val:β->z0}{R:β->Res}{d:z0->Prop}{a:γ->z0}{g:γ->Res}(h:FxF P b c f args val R d)(k:β->γ)(i:∀y,val y=a (k y))(j:∀y (x:z0) (S:Nat->Prop) (w:y9),(R y).φ x S w->(g (k y)).φ x S w): FxF P b c f args a g d :=
 ⟨h.1,λW l x S m n=>(h.2 W l x S m n).mono λe s o=>o.imp (λ⟨y,p,e1,e2,q,r⟩=>⟨k y,p,by rw[e1,i],e2,j y _ _ _ q,r⟩) id⟩
theorem wq{α:Type}{e m:Nat}{c:α->a8}{l:List α}{A:u5}{a:Nat}(b:∀x,(c x).length=m)(d:α): Sy (Qc e m c l A a) λw=>SlV 0 m (λ_ x cs=>cs=c x) w l (.slice A l.length a):=λ_ _ _ h=>du b d h λ_ _=>La _
structure DmY where
 t:χ
 A1:Option Addr
 c1:Nat
 bx:List (Nm×Nm)
 A2:Option Addr
 c2:Nat
 κ:List (List Nm)
 M':Res
structure DmY.Ok (y:DmY) (δ:Int) (v:Nat) (s:χ) (M:Res):Prop where
 e:J7 δ v s.fd=.ok ((y.bx,y.κ),y.t.fd)
 i:y.t.In y.M'
 u:Up M y.M'
 b:Sy y.M' λw=>SlV 0 6 xb w y.bx (.slice y.A1 y.bx.length y.c1)
 s:Sy y.M' λw=>SlV 0 1 (kU 0) w y.κ (.slice y.A2 y.κ.length y.c2)
 n1:y.bx.length<=v
 n2:y.κ.length<=v+1
 o1:∀x,x∈y.bx->okN x.1/\okN x.2
 o2:∀p,p∈y.κ->p.length<=v/\∀x,x∈p->okN x
theorem cK{s:χ}{M:Res}(h:s.In M){n:Nat}: ∀x,x∈Xb s n->okN x:=λx a=>by
 obtain⟨j,_,rfl⟩:=Ri.1 a;exact Iq (h.nxs j)
theorem cE{l:List Nm}(h:∀x,x∈l->okN x)(k:Nat): okN (Xn l k):=by
 unfold Xn;rcases Lx k l.length with a|a
 ·rw[List.getD,m0 a];exact h _ (Sq a)
 ·rw[List.getD,m1 a];exact RN
theorem n5{s:χ}{M:Res}(h:s.In M)(hl:0<s.ls.length){δ:Int}{v:Nat}: ∀x,x∈Ko δ v s->okN x.1/\okN x.2:=λx a=>by
 unfold Ko at a;cases e:DG δ s with
 | true=>rw[e]at a;cases a
 | false =>
  rw[e]at a;obtain⟨j,_,rfl⟩:=Ri.1 (show x∈(List.range v).map (zU s.ln.nx)from a);have b:=cK (n:=2) ((h.ln hl).nx.sps 2 j);exact⟨cE b 0,cE b 1⟩
theorem n7{s:χ}{M:Res}(h:s.In M)(hl:0<s.ls.length){δ:Int}{v:Nat}: ∀p,p∈ZN δ v s->p.length<=v/\∀x,x∈p->okN x:=λp a=>by
 unfold ZN at a;cases e:DG δ s with
 | false=>rw[e]at a;cases a
 | true =>
  rw[e]at a;obtain⟨j,_,rfl⟩:=Ri.1 (show p∈(List.range (v+1)).map (nj v s.ln.nx)from a);exact⟨Rx (VB _ _),cK ((h.ln hl).nx.sps v j)⟩
theorem We{δ:Int}{v:Nat}{s:χ}{a:(List (Nm×Nm)×List (List Nm))×FD}(h:J7 δ v s.fd=.ok a): 0<s.ls.length:=by
 cases e:Qq (GH δ) s.fd with
 | error z=>unfold J7 at h;rw[Q3 e]at h;cases h
 | ok x=>exact QP e
theorem iO(δ:Int)(v:Nat)(s:χ): (Ko δ v s).length<=v:=by
 unfold Ko;cases DG δ s
 ·exact Rx (aT _ _)
 ·exact La _
theorem iP(δ:Int)(v:Nat)(s:χ): (ZN δ v s).length<=v+1:=by
 unfold ZN;cases DG δ s
 ·exact La _
 ·exact Rx (Ix _ _ _)
theorem n6{δ:Int}{v:Nat}{s:χ}{j:Nat}(h:j<(ZN δ v s).length): (ZN δ v s)[j]=nj v s.ln.nx j:=by
 have e:DG δ s=true:=by
  cases e:DG δ s with
  | true=>rfl
  | false=>unfold ZN at h;rw[e]at h;exact absurd h (R6 _)
 have e2:ZN δ v s=DK v s.ln.nx (v+1):=by unfold ZN;rw[e];rfl
 have a:(ZN δ v s)[j]?=some (nj v s.ln.nx j):=by
  rw[e2,DK,List.getElem?_map,List.getElem?_range (by rw[e2,Ix]at h;exact h)];rfl
 rw[m0 h]at a;exact hW a
theorem sy_pts{δ:Int}{v:Nat}{s:χ}{A:u5}{c:Nat}: Sy (Qt 57 1 (ZN δ v s).length (Ae v s) A c) λw=>SlV 0 1 (kU 0) w (ZN δ v s) (.slice A (ZN δ v s).length c):=λ_ _ _ h =>
 UG ZE nm0 rfl h (λ_ _=>La _) λj a b d=>⟨b,rfl,by rw[n6 a];exact d⟩
theorem iT(g:Nat)(M:Res)(s:χ)(x:PC)(v:Nat)(m:Bool)(a:s.In M)(b:v<=200)(W:y9)(c:Q0 W): FxF prog W (Qh g 69 (χ.cs s (PC.l (x.D v (.slice none 0 0) (.slice none 0 0)) m)) M) 74 #[.pointer (some ⟨g,0,none⟩)] (λ_:{y:DmY // y.Ok x.k v s M}=>Value.tuple #[])
  (λy:{y:DmY // y.Ok x.k v s M}=>Qh g 69 (χ.cs y.1.t (PC.l (x.D v (.slice y.1.A1 y.1.bx.length y.1.c1) (.slice y.1.A2 y.1.κ.length y.1.c2)) m)) y.1.M') (Xl (J7 x.k v) s) :=
 (iU a b W c).to (λy=>⟨⟨s.dom x.k v,y.1.1.1,y.1.1.2,Ko x.k v s,y.1.2.1,y.1.2.2,ZN x.k v s,Qk (Qk M (Qc 76 6 Jw (Ko x.k v s) y.1.1.1 y.1.1.2)) (Qt 57 1 (ZN x.k v s).length (Ae v s) y.1.2.1 y.1.2.2)⟩,
  ⟨y.2,(a.dom (We y.2) x.k v).up ((Up.pair _ _).trans (Up.pair _ _)),(Up.pair _ _).trans (Up.pair _ _),((wq dE (nm0,nm0)).up (Up.snd _ _)).up (Up.pair _ _),sy_pts.up (Up.snd _ _),iO _ _ _,iP _ _ _,n5 a (We y.2),n7 a (We y.2)⟩⟩) (λ_=>rfl) λ_ _ _ _ h=>h
structure NdY where
 t:χ
 A:Option Addr
 c:Nat
 l:List Nd
 m:Bool
 M':Res
structure NdY.Ok (y:NdY) (z:NX) (m:Bool) (s:χ) (M:Res):Prop where
 e:XO (Vn z.nb z.ns) 70000 1 [] m s.fd=.ok ((y.l,y.m),y.t.fd)
 i:y.t.In y.M'
 u:Up M y.M'
 c:Sy y.M' λw=>SlV 0 6 (nh 0) w y.l (.slice y.A y.l.length y.c)
 n:y.l.length<=4001
 o:∀p,p∈y.l->okP p.sum/\okN p.ο
theorem FC(n:Nat)(s:χ)(k:Nat): (Ma n s k).length=k:=by simp[Ma]
theorem sy_nds{n k:Nat}{s:χ}{A:u5}{c:Nat}: Sy (Qt 54 6 k (UB n s) A c) λw=>SlV 0 6 (nh 0) w (Ma n s k) (.slice A (Ma n s k).length c):=λ_ _ w h=>by
 rw[FC];exact UG QW DL (FC n s k).symm h (λ_ _=>La _) λj d a b=>by
  have e:(Ma n s k)[j]=Fe n s j:=by simp only[Ma,List.getElem_map,Tq]
  rw[e];exact⟨a,rfl,b⟩
theorem pd{g t n k:Nat}{z:NX}{A:u5}{c:Nat}{s u:χ}{m:Bool}{M:Res}{X:z0}{S:Nat->Prop}{w:y9}(h:(Qh g t (χ.cs u (PC.l (z.N (.slice A k c)) m)) M).φ X S w): (Qh g t (χ.cs u (PC.l (z.N (.slice A (Ma n s k).length c)) m)) M).φ X S w:=by
 rw[FC];exact h
theorem ph(g:Nat)(M:Res)(s:χ)(z:NX)(m:Bool)(a:s.In M)(b:z.nb<=100)(d:z.ns<=200)(W:y9)(e:Q0 W): FxF prog W (Qh g 69 (χ.cs s (PC.l (z.N (.slice none 0 0)) m)) M) 77 #[.pointer (some ⟨g,0,none⟩)] (λ_:{y:NdY // y.Ok z m s M}=>Value.tuple #[])
  (λy:{y:NdY // y.Ok z m s M}=>Qh g 69 (χ.cs y.1.t (PC.l (z.N (.slice y.1.A y.1.l.length y.1.c)) y.1.m)) y.1.M') (Xl (XO (Vn z.nb z.ns) 70000 1 [] m) s) :=
 (pi a b d W e).to (λy=>⟨⟨χ.nds y.1.1.1 y.1.1.2 s,y.1.2.1,y.1.2.2,Ma y.1.1.1 s y.1.1.2,D5 y.1.1.1 s m y.1.1.2,Qk M (Qt 54 6 y.1.1.2 (UB y.1.1.1 s) y.1.2.1 y.1.2.2)⟩,
  ⟨y.2.1,y.2.2.1.up (Up.pair _ _),Up.pair _ _,sy_nds.up (Up.snd _ _),(show(Ma _ _ _).length<=4001 from(FC _ _ _).symm▸y.2.2.2.1),λp f=>by obtain⟨j,i,rfl⟩:=Ri.1 (show p∈(List.range y.1.1.2).map (Fe y.1.1.1 s)from f);exact y.2.2.2.2 j (Lr.1 i)⟩⟩) (λ_=>rfl) λ_ _ _ _ h=>pd h
