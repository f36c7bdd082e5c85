/- Laws beneath the statement. -/
import Derived.Test.YtoibldcmoapgbaaGreatDoorQP19
import Derived.Test.YtoibldcmoapgbaaGreatDoorQP25
import Derived.Test.YtoibldcmoapgbaaGreatDoorQP9
import Derived.SliceStrings
namespace Go.Proofs.YtoibldcmoapgbaaGreatDoor
open Tryz
set_option maxHeartbeats 4000000
set_option maxRecDepth 100000
open Go Go.RowKit
variable{E:Code->St->Prop}
def lM:Nat->Code->Option Code
 | 0,c=>some c
 | n+1,.seq _ b=>lM n b
 | _+1,_=>none
def K9(n:Nat)(fn:Func): Option Code:=match fn.body with
 | some c=>lM n c
 | none=>none
def oc(n:Nat)(d:List Dir)(p q:Prop): Prop:=match d with
 | .esc k::_=>(match Nat.beq k n with
  | true=>p
  | false=>q)
 | _=>q
theorem MD{n:Nat}{d:List Dir}{p q:Prop}(h:oc n d p q): p\/q:=by
 unfold oc at h;split at h
 ·split at h
  ·exact .inl h
  ·exact .inr h
 ·exact .inr h
def ME(P:u7)(tt:List (Nat×TI))(H:Cx)(f:Nat×Nat)(w0:y9)(E:Code->St->Prop): Code->St->List Dir->(Ex->St->List Dir->Prop)->Prop
 | .seq a b,σ,d,K=>Xu P tt H f w0 a σ d λe σ d=>match e with
  | .normal=>(match xZ d with
   | true=>Jo (Ho b) 99999 4 σ d λσ d=>oc (Ho b) d (E b σ) (ME P tt H f w0 E b σ d K)
   | false=>oc (Ho b) d (E b σ) (ME P tt H f w0 E b σ d K))
  | .exit id=>K (.exit id) σ d
  | .ret=>K .ret σ d
 | c,σ,d,K=>Xu P tt H f w0 c σ d K
section
variable {P:Program} {tt:List (Nat×TI)} {w0:World}
theorem jc{V:Code->(Exit->Act->y9->Prop)->Act->y9->Prop}(G:Rules P V)(R:YF P tt){H:Cx}(S:I0 P w0 H.inl)(k:Nat×Nat){Q:Exit->Act->y9->Prop}(T:G3 Q)(U:∀b σ r a w,E b σ->Sat w0 σ r a w->V b Q a w): ∀(c:Code) (σ:St) (d:List Dir) (K:Ex->St->List Dir->Prop),ME P tt H k w0 E c σ d K->FlOk k σ->∀r a w,Sat w0 σ r a w->PanN w0 H k r Q ->
  (∀e l F m i j,K e l F->Sat w0 l m i j->FlOk k l->AgN k r m->Q e.to i j)->V c Q a w:=by
 intro c;induction c with
 | seq x y Y C =>
  intro σ d K h I r a w J D z;refine G.seq (V6 G R S k x σ d _ h I r a w J _ (λd v c a w Z=>T d v c a w Z) (λs l F m i j=>D s l F m i j) λe l F m i j A g f B=>?_);cases e with
  | normal =>
   dsimp only at A;split at A
   ·obtain⟨σ1,d1,r1,k1,W,X,k4⟩:=GJ 4 A m i j g;rcases MD k1 with o|o
    ·exact U _ _ _ _ _ o W
    ·exact C _ _ K o (f.le k4) r1 i j W (D.later (B.trans (X.n f))) λe L d3 M N O p q t u=>z e L d3 M N O p q t (B.trans ((X.n f).trans u))
   ·rcases MD A with o|o
    ·exact U _ _ _ _ _ o g
    ·exact C l _ K o f m i j g (D.later B) λe L d3 M N O p q t u=>z e L d3 M N O p q t (B.trans u)
  | exit id=>exact z _ _ _ _ _ _ A g f B
  | ret=>exact z _ _ _ _ _ _ A g f B
 | _ =>
  intro σ d K h I r a w J D z;exact V6 G R S k _ σ d K h I r a w J Q T D z
theorem Hl(l:YF P tt)(m:P.follows .mixedOrders=true){H:Cx}(n:I0 P w0 H.inl)(f:Nat×Nat){Q:Exit->Act->y9->Prop}(o:G3 Q)(p:∀b σ r a w,E b σ->Sat w0 σ r a w->b.wp P Q a w)(c:Code)(σ:St)(d:List Dir)(K:Ex->St->List Dir->Prop)(h:ME P tt H f w0 E c σ d K)(q:FlOk f σ)(r:Env)(a:Act)(w:y9)(s:Sat w0 σ r a w)(t:PanN w0 H f r Q)(u:∀e g v i j k,K e g v->Sat w0 g i j k->FlOk f g->AgN f r i->Q e.to j k): c.wp P Q a w:=jc (Jv m) l n f o p c σ d K h q r a w s t u
end
def D7(Q:Exit->Act->y9->Prop)(e:Exit)(a:Act)(w:y9): Prop:=match e with
 | .panic _=>False
 | e=>Q e a w
theorem RF(Q:Exit->Act->y9->Prop): G3 (D7 Q):=λ_ _ _ _ _ h=>h
theorem RG{Q:Exit->Act->y9->Prop}{e:Exit}{a:Act}{w:y9}(h:D7 Q e a w): Q e a w:=by
 cases e<;>first|exact h|exact h.elim
theorem Vq:RowT prog 48 48 32 3 32:=⟨x5,⟨32,x5⟩,x5,x4,x4⟩
theorem Mg:RowT prog 48 57 32 3 32:=⟨x5,⟨32,x5⟩,x5,x4,x4⟩
theorem IC:RowT prog 166 166 48 1 24:=⟨x5,⟨48,x5⟩,x5,x4,x4⟩
theorem JO:RowT prog 25 25 57 1 24:=⟨x5,⟨57,x5⟩,x5,x4,x4⟩
theorem ac:RowT prog 23 23 76 6 64:=⟨x5,⟨76,x5⟩,x5,x4,x4⟩
theorem Xx:RowT prog 28 28 52 2 32:=⟨x5,⟨52,x5⟩,x5,x4,x4⟩
theorem Bc:RowT prog 33 33 54 6 72:=⟨x5,⟨54,x5⟩,x5,x4,x4⟩
theorem Xy:RowT prog 50 50 56 4 48:=⟨x5,⟨56,x5⟩,x5,x4,x4⟩
theorem OL:RowT prog 231 231 3 1 8:=⟨x5,⟨3,x5⟩,x5,x4,x4⟩
def dN(x:Dyadic): Nm:=⟨neg (dm x),Qx (dm x),de x⟩
def E9(κ:List (List Nm))(i j:Nat): Nm:=dN (nv (Xn (QC κ (i+1)) j)-nv (Xn (QC κ 0) j))
def B7(κ:List (List Nm))(N i:Nat): List Nm:=(List.range N).map (E9 κ i)
def Bq(κ:List (List Nm))(N:Nat): List (List Nm):=(List.range N).map (B7 κ N)
theorem sM{α:Type}(f:Nat->α)(k:Nat): (List.range k).map f++[f k]=(List.range (k+1)).map f:=by
 rw[Td,Th];rfl
def AI(A:u5)(c b:Nat): u5:=A.map λa=>⟨a.block,if c=1 then a.off else a.off+b,none⟩
theorem sN{t e a n c:Nat}{i:Option Bool}{A:u5}{d:TI}{w0:y9}{f:Nat->a8}(j:YH prog t=some d)(m:d.k=.slice e a i)(p:a≠0)(q:n+1<=c)(r:RdK w0 A (n+1) a f):
  Qn prog w0 (Instr.sliceAt t (.slice A (n+1) c) (some (.int .i64 1)) none none) (.slice (AI A c a) n (c-1)):=λW _=>by
 obtain⟨b,off,rfl,_⟩:=r (S6 _);have h:=J0 prog W b off (n+1) c 1 (n+1) (some (.int .i64 1)) none j m p (.inr ⟨.i64,rfl⟩) (.inl ⟨rfl,rfl⟩) x3 q;rw[h,Tg];rfl
theorem lh{n c a:Nat}{A:u5}{w:y9}{f:Nat->a8}(l:n+1<=c)(e:RdK w A (n+1) a f): RdK w (AI A c a) n a (λj=>f (j+1)):=λm=>by
 obtain⟨b,off,rfl,g⟩:=e (S6 _);have d:c≠1:=x3;refine⟨b,off+a,by simp[AI,d],λj o i k=>?_⟩;have h:=g (j+1) x3 i k;rw[Rm]at h;rw[<- h];congr 2;omega
def r8(v:z0): a8:=[v]
theorem mc{α:Type}{P:u7}{w0:y9}{t d ty e a k bytes bt cp3:Nat}{c:α->a8}{ll ll':List (List α)}{l l':List α}{A A2:u5}{cp cp2:Nat}(f:RowT P t d a 1 bytes)(h:∀x,(c x).length=k)(i:l=l')(b:ll++[l']=ll')(j:ll'.length*bytes<=140737488355328):
  ∀W,Below w0.heap.size w0 W->∀g,Bx W g bt #[.slice A2 l.length cp2]->∀x S,(Qk (V1 a k c ll A cp) (Qc e k c l A2 cp2)).φ x S W ->
   G2 P W (λy:Hp=>.slice y.1 ll'.length y.2) (λy:Hp=>V1 a k c ll' y.1 y.2) x S (VG .append #[t,d] ty [.slice A ll.length cp,.slice (some ⟨g,0,none⟩) 1 cp3]):=by
 subst i;subst b;exact rh f h j
abbrev HAa:Nat×Hp:=(0,none,0)
abbrev HAb(q1:Nat×Hp)(κ:List (List Nm))(N:Nat):=(List.range q1.1).map (B7 κ N)
abbrev HAc(d:Nat×Hp)(κ:List (List Nm))(q1:Nat×Hp):=(List.range (d.1+1)).map (E9 κ q1.1)
abbrev HAd(q1:Nat×Hp)(κ:List (List Nm))(N:Nat):=(List.range (q1.1+1)).map (B7 κ N)
abbrev HAe:=List.range (HAa.1)
theorem rq{As:u5}{cs:Nat}{Au:Nat->u5}{cu:Nat->Nat}{κ:List (List Nm)}{N:Nat}(L:N<=1048576)(t:N+1<=cs)(hpN:κ.length=N+1)(hpl:∀j,j<N+1->(QC κ j).length=N)(hok:∀p,p∈κ->∀x,x∈p->okS x)(w:y9)(z:Q0 w)(D:RdK w As (N+1) 1 (λj=>[Ω (Au j) N (cu j)]))(F:∀j,j<N+1->RdK w (Au j) N 3 (λk=>YB (Xn (QC κ j) k))): NewIn prog w [] 96 #[Ω As (N+1) cs] (λ(y:Hp)=>Ω y.1 (Bq κ N).length y.2) (λ(y:Hp)=>V1 48 3 YB (Bq κ N) y.1 y.2) :=
 El Hp Qu QR (λa w=>call96 a w) func96 ntmps96 results96 _ rfl 0 _ _ [.o 2 1 (.set (Ω (AI As cs 1) N (cs-1))),.nil 3 99999 48 1 r8,.cnv 3 99999 0 (V1 48 3 YB ((List.range 0).map (B7 κ N)) none 0),P0 (λ(q1:Nat×Hp)=>(⟨41,[(0,lV As (N+1) cs),(3,lV q1.2.1 ((HAb q1 κ N)).length q1.2.2),(9,lV (AI As cs 1) N (cs-1)),(10,iV (N:Int)),(11,iV (q1.1:Int))],[],[some (V1 48 3 YB (HAb q1 κ N) q1.2.1 q1.2.2)]⟩:St)) N HAa (λ(q1:Nat×Hp)=>[.both [.o 4 0 (.set (.pointer (some (Xi (AI As cs 1) (q1.1*1+0))))),.o 4 1 (.set (Ω (Au (q1.1+1)) N (cu (q1.1+1)))),.nil 7 99999 32 3 YB,P0 (λ(d:Nat×Hp)=>(⟨41,[(0,lV As (N+1) cs),(3,lV q1.2.1 ((HAb q1 κ N)).length q1.2.2),(5,lV (Au (q1.1+1)) N (cu (q1.1+1))),(6,lV d.2.1 (((List.range d.1).map (E9 κ q1.1))).length d.2.2),(9,lV (AI As cs 1) N (cs-1)),(10,iV (N:Int)),(11,iV (q1.1:Int)),(16,iV (N:Int)),(17,iV (d.1:Int))],[],[none,some (Qc 32 3 YB ((List.range d.1).map (E9 κ q1.1)) d.2.1 d.2.2)]⟩:St)) N HAa (λ(d:Nat×Hp)=>[.both [.reg 13 [],.o 9 3 (.set (.pointer (some (Xi (Au (q1.1+1)) (d.1*3+0))))),.o 9 4 (.set (nA (Xn (QC κ (q1.1+1)) d.1))),.o 9 6 (.set (.pointer (some (Xi As (0*1+0))))),.o 9 7 (.set (Ω (Au 0) N (cu 0))),.o 9 9 (.set (.pointer (some (Xi (Au 0) (d.1*3+0))))),.o 9 10 (.set (nA (Xn (QC κ 0) d.1))),.o 9 11 (.ret (.agg [bV ((E9 κ q1.1 d.1).b),sV ((E9 κ q1.1 d.1).s),iV ((E9 κ q1.1 d.1).e)])),.eff 9 13 1 (λ(g:Hp)=>Ω g.1 ((HAc d κ q1)).length g.2) (λ(g:Hp)=>Qc 32 3 YB (HAc d κ q1) g.1 g.2) (λ(g:Hp)=>[.o 10 0 (.eq (iV ((d.1+1:Nat):Int))),.nxt [g]])] [.join 11 3 0 1,.eff 11 3 0 (λ(g:Hp)=>Ω g.1 ((HAd q1 κ N)).length g.2) (λ(g:Hp)=>V1 48 3 YB (HAd q1 κ N) g.1 g.2) (λ(g:Hp)=>[.o 12 0 (.eq (iV ((q1.1+1:Nat):Int))),.nxt [g]])]])] []])] (λW u=>have G:=Ql z u;have B:=D.up u (λ_=>rfl);have E:=(lh (f:=λj=>[Ω (Au j) N (cu j)]) t D).up u (λ_=>rfl);(λ(v:∀j,j<N+1->RdK W (Au j) N 3 (λk=>YB (Xn (QC κ j) k)))=>Zb (sN (Qu 25 _ rfl) rfl x4 t B) (show ∀(x:z0) (S:Nat->Prop) (w:y9),(Qc 48 1 r8 ([]:a8) none 0).φ x S w->(V1 48 3 YB ((List.range 0).map (B7 κ N)) none 0).φ x S w from ri _ 3 YB _) (qV (Ω As (N+1) cs)) (qV (Ω HAa.2.1 ((HAe.map (B7 κ N))).length HAa.2.2)) (qV (Ω (AI As cs 1) N (cs-1))) (qI (N:Int)) (qI ((HAa.1:Nat):Int)) (Zo (V1 48 3 YB ((List.range 0).map (B7 κ N)) none 0) (V1 48 3 YB (HAe.map (B7 κ N)) HAa.2.1 HAa.2.2) λ_ _ _ h=>h)<|ai (show 0<=N from La _) λ(q1:Nat×Hp) (H:(q1.1<=N))=>XA (decide ((q1.1:Int)<(N:Int))) (λq=>Zb (JN (cs-1) q1.1 E (XD q)) (VM q1.1 0 E (XD q) x4 rfl) (qV (Ω As (N+1) cs)) (qV (Ω q1.2.1 ((HAb q1 κ N)).length q1.2.2)) (qV (Ω (Au (q1.1+1)) N (cu (q1.1+1)))) (qV (Ω HAa.2.1 ((HAe.map (E9 κ q1.1))).length HAa.2.2)) (qV (Ω (AI As cs 1) N (cs-1))) (qI (N:Int))<|Kr (qI (q1.1:Int)) (qI (N:Int)) (qI ((HAa.1:Nat):Int)) (Yu (V1 48 3 YB (HAb q1 κ N) q1.2.1 q1.2.2)) (Zo (Qc 32 3 YB ([]:List Nm) none 0) (Qc 32 3 YB (HAe.map (E9 κ q1.1)) (HAa.2.1) (HAa.2.2)) λ_ _ _ h=>h)<|ai (show 0<=N from La _) λ(d:Nat×Hp) (I:(d.1<=N))=>XA (decide ((d.1:Int)<(N:Int))) (λr=>DM (Cg (cu (q1.1+1)) d.1 (v (q1.1+1) (Uo (XD q))) (XD r)) (Db d.1 0 (v (q1.1+1) (Uo (XD q))) (XD r) x4 rfl rfl) (JN cs 0 B (S6 N)) (VM 0 0 B (S6 N) x4 rfl) (Cg (cu 0) d.1 (v 0 (S6 N)) (XD r)) (Db d.1 0 (v 0 (S6 N)) (XD r) x4 rfl rfl) (show RetAt prog W 127 #[nA (Xn (QC κ (q1.1+1)) d.1),nA (Xn (QC κ 0) d.1)] (nA (E9 κ q1.1 d.1))from⟨λa w=>call127 a w,λJ C=>iB J (hok _ (VS (show q1.1+1<κ.length by rw[hpN];have:=L1 q;omega)) _ (GN (show d.1<(QC κ (q1.1+1)).length by rw[hpl (q1.1+1) (y6 (L1 q))];exact(XD r)))).nd (hok _ (VS (show 0<κ.length by rw[hpN];omega)) _ (GN (show d.1<(QC κ 0).length by rw[hpl 0 x3];exact(XD r)))).nd (hok _ (VS (show q1.1+1<κ.length by rw[hpN];have:=L1 q;omega)) _ (GN (show d.1<(QC κ (q1.1+1)).length by rw[hpl (q1.1+1) (y6 (L1 q))];exact(XD r)))).db (hok _ (VS (show 0<κ.length by rw[hpN];omega)) _ (GN (show d.1<(QC κ 0).length by rw[hpl 0 x3];exact(XD r)))).db x4 (Ql G C)⟩)<|ai (Yj (w0:=W) (ty:=48) (c:=YB) (l:=((List.range d.1).map (E9 κ q1.1))) (l2:=[E9 κ q1.1 d.1]) (l':=(HAc d κ q1)) (A:=d.2.1) (cp:=d.2.2) (bt:=32) (m:=1) (cp2:=1) (cs:=[Ξ ((E9 κ q1.1 d.1).b),Ψ ((E9 κ q1.1 d.1).s),Θ ((E9 κ q1.1 d.1).e)]) Vq ZE Ct (sM (E9 κ q1.1) d.1) (show(((List.range (d.1+1)).map (E9 κ q1.1))).length*32<=140737488355328 from by rw[Sk,Sz];have:=L1 r;omega) rfl rfl) λ(g:Hp)=>Zb (QQ d.1 x3) (qV (Ω As (N+1) cs)) (qV (Ω q1.2.1 ((HAb q1 κ N)).length q1.2.2)) (qV (Ω (Au (q1.1+1)) N (cu (q1.1+1)))) (qV (Ω g.1 ((HAc d κ q1)).length g.2)) (qV (Ω (AI As cs 1) N (cs-1))) (qI (N:Int)) (qI (q1.1:Int))<|Km (qI (N:Int)) (qI (((d.1+1):Nat):Int)) (Yu (V1 48 3 YB (HAb q1 κ N) q1.2.1 q1.2.2)) (Zo (Qc 32 3 YB (HAc d κ q1) g.1 g.2) (Qc 32 3 YB (HAc d κ q1) g.1 g.2) λ_ _ _ h=>h)<|ai (show d.1+1<=N from XD r) (show N-(d.1+1)<N-d.1 from y6 (L1 r))) λr=>ai (mc (w0:=W) (e:=32) (ty:=166) (bt:=48) (cp3:=1) (ll:=(HAb q1 κ N)) (l:=((List.range d.1).map (E9 κ q1.1))) (l':=B7 κ N q1.1) (ll':=(HAd q1 κ N)) (A:=q1.2.1) (A2:=d.2.1) (cp:=q1.2.2) (cp2:=d.2.2) IC ZE (show((List.range d.1).map (E9 κ q1.1))=B7 κ N q1.1 from by rw[(show d.1=N from y6 (L7 r))];rfl) (sM (B7 κ N) q1.1) (show(((List.range (q1.1+1)).map (B7 κ N))).length*24<=140737488355328 from by rw[Sk,Sz];have:=L1 q;omega)) λ(g:Hp)=>DM (QQ q1.1 x3) (qV (Ω As (N+1) cs)) (qV (Ω g.1 ((HAd q1 κ N)).length g.2)) (qV (Ω (AI As cs 1) N (cs-1))) (qI (N:Int)) (qI (((q1.1+1):Nat):Int)) (Zo (V1 48 3 YB (HAd q1 κ N) g.1 g.2) (V1 48 3 YB (HAd q1 κ N) g.1 g.2) λ_ _ _ h=>h)<|ai (show q1.1+1<=N from XD q) (show N-(q1.1+1)<N-q1.1 from y6 (L1 q))) λq=>(show ∃y:Hp,SV.val (Ω q1.2.1 (((List.range q1.1).map (B7 κ N))).length q1.2.2)=SV.val ((λ(y:Hp)=>Ω y.1 (Bq κ N).length y.2) y)/\∀(x:z0) (S:Nat->Prop) (w:y9),(V1 48 3 YB ((List.range q1.1).map (B7 κ N)) q1.2.1 q1.2.2).φ x S w->((λ(y:Hp)=>V1 48 3 YB (Bq κ N) y.1 y.2) y).φ x S w from⟨q1.2,(by rw[(show q1.1=N from y6 (L7 q))];rfl),λx S w h=>(by rw[(show q1.1=N from y6 (L7 q))]at h;exact h)⟩)) (λj K=>(F j K).below (λ_=>rfl) u)) λW=>x5
theorem uT:ND nm0.b nm0.s nm0.e (nv nm0):=⟨rfl,x4,x4,x4⟩
theorem nm0_ok:okS nm0:=⟨x4,x4,x4⟩
def Gx(κ:List (List Nm))(N i j:Nat): Dyadic:=nv (Xn ((Bq κ N).getD i []) j)
theorem xK{x:Dyadic}{L T:Nat}(h:DB L T x)(a:L+T<=4000000): nv (dN x)=x:=(RD h a).val
section
variable {As:Option Addr} {cs:Nat} {Au:Nat->Option Addr} {cu:Nat->Nat} {κ:List (List Nm)} {N:Nat} (hpN:κ.length=N+1) (hpl:∀j,j<N+1->(QC κ j).length=N) (hok:∀p,p∈κ->∀x,x∈p->okS x)
include hpN hpl hok
theorem sc{i j:Nat}(d:i<N)(a:j<N): DB 200 361 (nv (Xn (QC κ (i+1)) j)-nv (Xn (QC κ 0) j)):=by
 have b:=hok _ (VS (show i+1<κ.length by omega)) _ (GN (show j<(QC κ (i+1)).length by rw[hpl (i+1) x3];exact a));have c:=hok _ (VS (show 0<κ.length by omega)) _ (GN (show j<(QC κ 0).length by rw[hpl 0 x3];exact a));exact tU b.db c.db
omit hpN hpl hok in
theorem ma{i j:Nat}(a:i<N)(b:j<N): Xn ((Bq κ N).getD i []) j=E9 κ i j:=by
 have c:i<(Bq κ N).length:=by simp[Bq,a]
 rw[YM c];have d:(Bq κ N)[i]=B7 κ N i:=by simp[Bq]
 rw[d];have e:j<(B7 κ N i).length:=by simp[B7,b]
 unfold Xn;rw[YM e];simp[B7]
theorem rf{i j:Nat}(a:i<N)(b:j<N): Gx κ N i j=nv (Xn (QC κ (i+1)) j)-nv (Xn (QC κ 0) j):=by
 unfold Gx;rw[ma a b];exact xK (sc hpN hpl hok a b) x4
theorem mb(i j:Nat): ND (Xn ((Bq κ N).getD i []) j).b (Xn ((Bq κ N).getD i []) j).s (Xn ((Bq κ N).getD i []) j).e (Gx κ N i j)/\DB 200 361 (Gx κ N i j):=by
 by_cases h:i<N/\j<N
 ·have a:=sc hpN hpl hok h.1 h.2;have c:=RD a x4;rw[rf hpN hpl hok h.1 h.2,ma h.1 h.2];exact⟨c,a⟩
 ·have d:Xn ((Bq κ N).getD i []) j=nm0:=by
   by_cases f:i<N
   ·have a:i<(Bq κ N).length:=by simp[Bq,f]
    rw[YM a];have c:(Bq κ N)[i]=B7 κ N i:=by simp[Bq]
    rw[c];unfold Xn;rw[List.getD,m1 (by simp[B7];omega)];rfl
   ·rw[List.getD,m1 (by simp[Bq];omega)];rfl
  unfold Gx;rw[d];exact⟨uT,EO nm0_ok.db x4 x4⟩
omit hpN hpl hok in
theorem zu{A:u5}{l:Nat}{x:z0}{S:Nat->Prop}{w:y9}(h:(V1 48 3 YB (Bq κ N) A l).φ x S w): RdM w A N (λ_=>N) (λi j=>(Xn ((Bq κ N).getD i []) j).b) (λi j=>(Xn ((Bq κ N).getD i []) j).s) (λi j=>(Xn ((Bq κ N).getD i []) j).e):=by
 have f:=wv ZE nm0 h;have g:(Bq κ N).length=N:=by simp[Bq]
 rw[g]at f;intro m;obtain⟨b,off,e,n⟩:=f m;refine⟨b,off,e,λi k=>?_⟩;obtain⟨o,ci,k1,a,c,d⟩:=n i k;have p:((Bq κ N).getD i []).length=N:=by
  rw[YM (show i<(Bq κ N).length by rw[g];exact k)];simp[Bq,B7]
 dsimp only at k1 a c d;rw[p]at k1 a c d;exact⟨o,ci,k1,a,c,d⟩
omit hok in
theorem ru(c:1<=N)(d:N<=8): TH κ=(N:Int):=by
 unfold TH;have b:((κ.length:Int)-1)=(N:Int):=by rw[hpN];omega
 rw[b,Lh (by omega:¬(N:Int)<1),Lh (by omega:¬(N:Int)>8),J2]
 ·rfl
 ·intro j a;rw[hpN]at a;unfold Q6;rw[hpl j a];simp
omit hok in
theorem wF{a:Nat}{w:y9}(b:1<=N)(c:N<=4)(d:RdK w As (N+1) 1 (λj=>[.slice (Au j) N (cu j)]))(f:∀j,j<N+1->SlV a 3 V0 w (QC κ j) (.slice (Au j) N (cu j))): RetAt prog w 94 #[.slice As (N+1) cs] (.int .i64 (N:Int)):=by
 have h:=zA (cs:=cs) (vs:=λj=>.slice (Au j) N (cu j)) (l:=κ) x3 w (by rw[hpN];exact d) (by rw[hpN];exact f);rw[hpN]at h;have e:=ru hpN hpl b (L9 c x4);rw[e]at h;exact h
end
theorem rx{l:Nat}{As:u5}{cs:Nat}{Au:Nat->u5}{cu:Nat->Nat}{κ:List (List Nm)}{N:Nat}(r:N<=1048576)(d:N+1<=cs)(hpN:κ.length=N+1)(hpl:∀j,j<N+1->(QC κ j).length=N)(hok:∀p,p∈κ->∀x,x∈p->okS x)(s:1<=N)(m:N<=4)(w:y9)(e:Q0 w)(t:RdK w As (N+1) 1 (λj=>[Ω (Au j) N (cu j)]))(u:∀j,j<N+1->RdK w (Au j) N 3 (λk=>YB (Xn (QC κ j) k)))(v:∀j,j<N+1->SlV l 3 V0 w (QC κ j) (Ω (Au j) N (cu j))): RetAt prog w 57 #[Ω As (N+1) cs] (.tuple #[nA (dN (ZS N (Gx κ N))),Θ 0]) :=
 rk [.o 1 1 (.ret (iV (N:Int))),.br false,.mk 3 1 [] (λ(b:Hp)=>Ω b.1 (Bq κ N).length b.2) (λ(b:Hp)=>V1 48 3 YB (Bq κ N) b.1 b.2) (λ(b:Hp)=>[.o 3 2 (.retr [0] (.tuple #[nA (dN (ZS N (Gx κ N))),Θ 0]))])] λW c C=>have n:=Ql e c;have q:=t.up c (λ_=>rfl);(λ(y:∀j,j<N+1->RdK W (Au j) N 3 (λk=>YB (Xn (QC κ j) k)))=>(λ(z:∀j,j<N+1->SlV l 3 V0 W (QC κ j) (Ω (Au j) N (cu j)))=>X7 (wF (cs:=cs) hpN hpl s m q z) (show((N:Int)==0)=false from R7.2 x3)<|ai (rq r d hpN hpl hok W n q y) λ(b:Hp)=>ai (show AQ prog W [V1 48 3 YB (Bq κ N) b.1 b.2] 95 #[Ω b.1 (Bq κ N).length b.2] (.tuple #[nA (dN (ZS N (Gx κ N))),Θ 0])from⟨λa w=>call95 a w,λA f x S B=>(by have h:=jZ 200 361 x4 N m b.1 b.2 _ _ _ (Gx κ N) A (λi j=>(mb hpN hpl hok i j).1) (λi j=>(mb hpN hpl hok i j).2) (zu B) (Ql n f);rw[show(Bq κ N).length=N from by simp[Bq]];exact h)⟩)<|(show(.tuple #[nA (dN (ZS N (Gx κ N))),Θ 0]:z0)=.tuple #[nA (dN (ZS N (Gx κ N))),Θ 0]from rfl)) (λj g=>(v j g).below YR c)) (λj g=>(u j g).below (λ_=>rfl) c)
def TF(κ:List (List Nm))(N:Nat): Int:=bif sg (dN (ZS N (Gx κ N)))==0 then 5 else 0
abbrev HAf(N:Nat)(κ:List (List Nm)):=dN (ZS N (Gx κ N))
theorem mf{h:Nat}{As:u5}{cs:Nat}{Au:Nat->u5}{cu:Nat->Nat}{κ:List (List Nm)}{N:Nat}(l:N<=1048576)(c:N+1<=cs)(hpN:κ.length=N+1)(hpl:∀j,j<N+1->(QC κ j).length=N)(hok:∀p,p∈κ->∀x,x∈p->okS x)(m:1<=N)(n:N<=4)(w:y9)(d:Q0 w)(q:RdK w As (N+1) 1 (λj=>[Ω (Au j) N (cu j)]))(r:∀j,j<N+1->RdK w (Au j) N 3 (λk=>YB (Xn (QC κ j) k)))(t:∀j,j<N+1->SlV h 3 V0 w (QC κ j) (Ω (Au j) N (cu j))): RetAt prog w 27 #[Ω As (N+1) cs] (Θ (TF κ N)) :=
 have i:=eI (TF κ N);rk [.o 1 1 (.ret (.tup [.agg [bV ((HAf N κ).b),sV ((HAf N κ).s),iV ((HAf N κ).e)],iV 0])),.o 2 4 (.ret (iV (sg (HAf N κ)))),.both [] []] λW a A=>have u:=Ql d a;have v:=q.up a (λ_=>rfl);(λ(y:∀j,j<N+1->RdK W (Au j) N 3 (λk=>YB (Xn (QC κ j) k)))=>(λ(z:∀j,j<N+1->SlV h 3 V0 W (QC κ j) (Ω (Au j) N (cu j)))=>X7 (rx l c hpN hpl hok m n W u v y z) (rc W call58 λW=>Vx (HAf N κ).s (HAf N κ).b (HAf N κ).e W)<|XA ((sg (dN (ZS N (Gx κ N))))==0) (λf=>(i 5 (by unfold TF;rw[f];rfl))) λf=>(i 0 (by unfold TF;rw[f];rfl))) (λj g=>(t j g).below YR a)) (λj g=>(r j g).below (λ_=>rfl) a)
theorem kX{b:Nat}{κ:List (List Nm)}{v:z0}{w:y9}{N:Nat}(hpN:κ.length=N+1)(hpl:∀j,j<N+1->(QC κ j).length=N)(h:SlV b 1 (kU b) w κ v):
  ∃(As:u5) (cs:Nat) (Au:Nat->u5) (cu:Nat->Nat),v=.slice As (N+1) cs/\N+1<=cs/\RdK w As (N+1) 1 (λj=>[.slice (Au j) N (cu j)])/\(∀j,j<N+1->RdK w (Au j) N 3 (λk=>YB (Xn (QC κ j) k)))/\∀j,j<N+1->SlV b 3 V0 w (QC κ j) (.slice (Au j) N (cu j)):=by
 obtain⟨As,cs,l,rfl,f,_,g,d⟩:=h.rdPt;rw[hpN]at f g d ⊢;have key:∀j,∃(A:u5) (c:Nat),j<N+1->l j=.slice A N c/\RdK w A N 3 (λk=>YB (Xn (QC κ j) k)):=λj=>by
  by_cases a:j<N+1
  ·obtain⟨A,c,e,_,_,i⟩:=(d j a).enc nm0;rw[hpl j a]at e i;exact⟨A,c,λ_=>⟨e,i⟩⟩
  ·exact⟨none,0,λh=>absurd h a⟩
 refine⟨As,cs,λj=>Classical.choose (key j),λj=>Classical.choose (Lp (key j)),rfl,f,g.congr λj a=>?_,λj a=>?_,λj a=>?_⟩
 ·rw[(Lp (Lp (key j)) a).1]
 ·exact(Lp (Lp (key j)) a).2
 ·rw[<- (Lp (Lp (key j)) a).1];exact d j a
theorem mh{lo:Nat}{κ:List (List Nm)}{v:z0}{N:Nat}(hpN:κ.length=N+1)(hpl:∀j,j<N+1->(QC κ j).length=N)(hok:∀p,p∈κ->∀x,x∈p->okS x)(a:1<=N)(b:N<=4)(w:y9)(c:Q0 w)(h:SlV lo 1 (kU lo) w κ v): RetAt prog w 27 #[v] (.int .i64 (TF κ N)):=by
 obtain⟨As,cs,Au,cu,rfl,k1,d,e,f⟩:=kX hpN hpl h;exact mf x3 k1 hpN hpl hok a b w c d e f
open Go.Sort
def Tab10(w:y9): Prop:=Lib.TabIs prog w "internal/strconv.uint64pow10" .u64 Lib.pow10Tab
theorem Tab10.later{w c:y9}(h:Tab10 w)(e:Below w.heap.size w c): Tab10 c:=by
 unfold Tab10 Lib.TabIs World.var? at *;cases d:prog.globalNamed "internal/strconv.uint64pow10" with
 | none=>simp[d]at h
 | some g =>
  simp only[d,Su]at h ⊢;have a:g<w.heap.size:=by
   rcases Lx g w.heap.size with b | b
   ·exact b
   ·rw[Δ b]at h;simp at h
  rw[e.block g a];exact h
open Go.Lib
theorem fw(s:u4)(h:0<s.size): ∃c l,s.data.toList=c::l/\c.toNat=byt s 0:=by
 have a:0<s.data.toList.length:=y8 h;cases e:s.data.toList with
 | nil=>rw[e]at a;cases a
 | cons c l=>refine⟨c,l,rfl,?_⟩;unfold byt;rw[e];rfl
theorem FP(W:World)(x y:Operand)(a b:ByteArray): Qn prog W (do eqGuard .eql 9 x y (.string a) (.string b);binOp .eql 9 (.string a) (.string b)) (.bool (decide (a=b))):=λd _=>by
 have h:(a.toList=b.toList)↔a=b:=by
  rw[Rp,Rp];exact⟨λh=>ByteArray.ext (y8 h),λh=>by rw[h]⟩
 simp[go_sem];by_cases e:a=b
 ·subst e;simp
 ·have:¬ a.toList=b.toList:=λc=>e (h.1 c)
  simp[e,this]
theorem qU(W:World)(x y:Operand)(a b:ByteArray): Qn prog W (do eqGuard .neq 9 x y (.string a) (.string b);binOp .neq 9 (.string a) (.string b)) (.bool (!decide (a=b))):=λd _=>by
 have h:(a.toList=b.toList)↔a=b:=by
  rw[Rp,Rp];exact⟨λh=>ByteArray.ext (y8 h),λh=>by rw[h]⟩
 simp[go_sem];by_cases e:a=b
 ·subst e;simp
 ·have:¬ a.toList=b.toList:=λc=>e (h.1 c)
  simp[e,this]
theorem qO(W:World)(x y:Operand)(a b:ByteArray)(c:a.size+b.size<=9223372036854775807): Qn prog W (do eqGuard .add 9 x y (.string a) (.string b);binOp .add 9 (.string a) (.string b)) (.string (a++b)):=λd _=>by
 have h:¬ 9223372036854775807<a.size+b.size:=x3;simp[go_sem,h]
theorem CJ(W:y9)(s:u4)(i:Nat)(h:i<s.size): Qn prog W (Instr.index 9 (.string s) (.int .i64 (i:Int))) (.int .u8 (byt s i:Nat)):=λa _=>dv s Tryz.underlying9 i h a
theorem zD{n:Nat}(h:n<=1099511627776): IntKind.i64.wrap ((n:Int)+1)=((n+1:Nat):Int):=by rw[Lg _ x3];omega
theorem zT{a b:Int}(h:(a==b)=true): a=b:=y8 h
theorem tw{a b:Int}(h:(a==b)=false): a≠b:=y8 h
def Zw(z:Int): z0:=if -9223372036854775808<=z/\z<=9223372036854775807 then .tuple #[.int .i64 z,.bool true]else .tuple #[.int .i64 0,.bool false]
def pre(s:u4)(k:Nat): Nat:=J1 (s.data.toList.take k)
theorem kO(s:u4){k:Nat}(h:k<s.data.toList.length): pre s (k+1)=pre s k*256+(s.data.toList[k]).toNat:=by
 unfold pre;rw[Rr h,CW]
theorem kN(s:u4){k:Nat}(h:k<s.size): pre s (k+1)=pre s k*256+(s.data.toList.getD k 0).toNat:=by
 have a:k<s.data.toList.length:=y8 h;rw[kO s a,List.getD,m0 a];rfl
theorem dd(s:u4): pre s s.size=Qa s:=by
 unfold pre;rw[Rj x6];rfl
theorem vm(s:u4)(k:Nat): pre s k<256^k:=by
 unfold pre;exact Lb (Bn _) (Li x4 x7)
theorem or8(p d:Nat)(b:p<72057594037927936)(a:d<256): bits .or .u64 ((p:Int)*256) (d:Int)=((p*256+d:Nat):Int):=by
 rw[show(p:Int)*256=((p*256:Nat):Int)by simp,Ow _ _ (by rw[ZW];omega) (by rw[ZW];omega)];have h:=Nat.two_pow_add_eq_or_of_lt (i:=8) a p;rw[show 2^8*p=p*256 by omega]at h;rw[<- h]
theorem wM(v:Nat)(a:v<18446744073709551616): ∃O:Int,IntKind.i64.wrap (v:Int)=O/\-9223372036854775808<=O/\O<=9223372036854775807/\Zw (Qi false v)=if O=Qi false v then .tuple #[.int .i64 O,.bool true]else .tuple #[.int .i64 0,.bool false]:=by
 have e:Qi false v=(v:Int):=rfl;rw[e];refine⟨_,rfl,?_⟩;rw[IntKind.wrap_i64];unfold Zw;generalize b:((v:Int)+9223372036854775808) % 18446744073709551616-9223372036854775808=O;refine⟨x3,x3,?_⟩;by_cases h:O=(v:Int)
 ·rw[if_pos h,if_pos x3,h]
 ·rw[if_neg h,if_neg x3]
theorem wL(v:Nat)(a:v<18446744073709551616): ∃O:Int,IntKind.i64.wrap (IntKind.u64.wrap (-(v:Int)))=O/\-9223372036854775808<=O/\O<=9223372036854775807/\Zw (Qi true v)=if O=Qi true v then .tuple #[.int .i64 O,.bool true]else .tuple #[.int .i64 0,.bool false]:=by
 have e:Qi true v=-(v:Int):=rfl;rw[e];refine⟨_,rfl,?_⟩;rw[o0,IntKind.wrap_i64];unfold Zw;generalize b:(-(v:Int) % 18446744073709551616+9223372036854775808) % 18446744073709551616-9223372036854775808=O;refine⟨x3,x3,?_⟩;by_cases h:O=-(v:Int)
 ·rw[if_pos h,if_pos x3,h]
 ·rw[if_neg h,if_neg x3]
open Go.Shelf
def za:Ren:=⟨λ|166=>64|240=>101|276=>132|n=>n,λ|0=>0|3=>3|4=>4|5=>5|9=>9|20=>20|37=>82|70=>83|72=>85|75=>139|80=>96|164=>203|n=>n,λ|n=>n⟩
theorem laysW:Go.Proofs.Lays.n166 prog za:=by repeat'(first|kernel_rfl|decide|intro w|constructor)
theorem extraW:Builder.Extra prog za:=by repeat'(first|kernel_rfl|decide|intro w|constructor)
def Gq(s:u4): Bool:=hasPrefix s.data.toList [45]
def Q8(s:u4): u4:=⟨(trimPrefix s.data.toList [45]).toArray⟩
theorem ip(s:u4)(W:y9): b9 prog 237 #[.string s,.string ⟨#[45]⟩] W (.tuple #[.string (Q8 s),.bool (Gq s)]) :=
 (Tryz.strings_CutPrefix s ⟨#[45]⟩ W).mono λe a ⟨b,c⟩=>⟨b,by rw[c];exact l3 _ _⟩
theorem eE(s:u4): (Q8 s).data.toList=trimPrefix s.data.toList [45]:=by simp[Q8]
theorem ba{s:u4}(h:Gq s=true): ∃l,s.data.toList=45::l/\(Q8 s).data.toList=l:=by
 rw[eE];unfold Gq at h;unfold trimPrefix;rw[if_pos h];unfold hasPrefix at h;cases e:s.data.toList with
 | nil=>rw[e]at h;cases h
 | cons c l =>
  rw[e]at h;have a:c=45:=by
   have b:(45==c)=true:=y8 h;exact(Sv.1 b).symm
  subst a;exact⟨l,rfl,rfl⟩
theorem iq{s:u4}(h:Gq s=false): Q8 s=s/\∀c l,s.data.toList=c::l->(c==45)=false:=by
 unfold Gq at h;refine⟨?_,λc l e=>?_⟩
 ·unfold Q8 trimPrefix;rw[if_neg (by rw[h];decide)]
 ·unfold hasPrefix at h;rw[e]at h;cases a:c==45 with
  | false=>rfl
  | true =>
   have:c=45:=y8 a;subst this;simp at h
theorem NO{s:u4}{n:Nat}(b:s.size<=n): (Q8 s).size<=n:=by
 have c:(Q8 s).data.toList.length=(Q8 s).size:=x6;have a:s.data.toList.length=s.size:=x6;cases h:Gq s with
 | true =>
  obtain⟨l,d,e⟩:=ba h;rw[e]at c;rw[d]at a;simp at a;omega
 | false=>rw[(iq h).1];exact b
def NS(l:List UInt8): z0:=match XX l with
 | some i=>.tuple #[.agg #[.bool false,.string ⟨#[]⟩],.int .i64 i,.int .i64 2]
 | none=>.tuple #[.agg #[.bool (neg (YT l)),.string (Qx (YT l))],.int .i64 0,.int .i64 0]
theorem KF(l:List UInt8): (∃i:Nat,KW l=some i/\ZL l=i)\/(KW l=none/\ZL l=-1):=by
 unfold ZL;cases h:KW l with
 | some i=>exact .inl ⟨i,rfl,rfl⟩
 | none=>exact .inr ⟨rfl,rfl⟩
theorem IN{l:List UInt8}{i:Nat}(h:KW l=some i): i<=l.length:=by
 unfold KW at h;split at h
 ·rename_i j a;have b:=List.mem_of_find?_eq_some a;have c:=Lr.1 b;injection h with h;omega
 ·split at h
  ·injection h with h;omega
  ·cases h
theorem qK(s:u4): -1<=ZL s.data.toList/\ZL s.data.toList<=s.size:=by
 rcases KF s.data.toList with⟨i,a,b⟩|⟨_,b⟩
 ·have:=IN a;have c:s.data.toList.length=s.size:=x6;omega
 ·omega
theorem lO{s:u4}(a:s.size<=65536): IntKind.i64.wrap (ZL (Q8 s).data.toList+1)=ZL (Q8 s).data.toList+1:=by
 have h:=qK (Q8 s);have b:=NO a;exact Lg _ x3
theorem NN{s:u4}(h:(ZL (Q8 s).data.toList != 0)=true): 0<(Q8 s).size:=by
 rcases So (Q8 s).size with a|a
 ·have:(Q8 s).data.toList=[]:=List.length_eq_zero_iff.1 (y8 a);rw[this]at h;exact absurd h x4
 ·exact a
theorem Pu{s:u4}(h:decide (ZL (Q8 s).data.toList>=0)=false): tX (Q8 s):=by
 have e:=L7 h;rcases KF (Q8 s).data.toList with⟨i,_,a⟩|⟨a,_⟩
 ·omega
 ·have b:=spoil_none.1 a;intro j c;have d:=isDig_iff.1 (O9 (b.2 j (y8 c)));exact d
theorem Wq{s:u4}(b:0<s.size): (s.data.toList.head?==some 48)=decide (byt s 0=48):=by
 obtain⟨c,l,e,a⟩:=fw s b;rw[e];by_cases h:byt s 0=48
 ·have:c=48:=UInt8.toNat_inj.1 (by rw[a,h];rfl);rw[Lz h,this];rfl
 ·have:¬ c=48:=λd=>h (by rw[<- a,d];rfl)
  rw[Lh h];simpa using this
theorem Er{s:u4}(h:Gq s=true): XX s.data.toList=(match (Q8 s).data.toList.head?==some 48 with|true=>some 1|false=>(KW (Q8 s).data.toList).map (· + 1))/\YT s.data.toList=-(JK (Q8 s).data.toList:Int):=by
 obtain⟨l,a,b⟩:=ba h;rw[a,b];exact⟨rfl,rfl⟩
theorem Nb{s:u4}(h:Gq s=false): XX s.data.toList=KW (Q8 s).data.toList/\YT s.data.toList=(JK (Q8 s).data.toList:Int):=by
 obtain⟨a,b⟩:=iq h;rw[a];cases e:s.data.toList with
 | nil=>exact⟨rfl,rfl⟩
 | cons c l =>
  simp only[XX,YT,b c l e];exact⟨trivial,trivial⟩
theorem Qah{s:u4}(c:Gq s=true)(d:(ZL (Q8 s).data.toList != 0)=true)(a:((byt (Q8 s) 0:Int)==48)=true): (.tuple #[.agg #[.bool false,.string ⟨#[]⟩],.int .i64 1,.int .i64 2]:z0)=NS s.data.toList:=by
 have b:=(Er c).1;have e:=zT a;rw[Wq (NN d),Lz x3]at b;unfold NS;rw[b];rfl
theorem xO{s:u4}(k:Gq s=true)(l:¬((ZL (Q8 s).data.toList != 0)=true/\byt (Q8 s) 0=48))(m:decide (ZL (Q8 s).data.toList>=0)=true): (.tuple #[.agg #[.bool false,.string ⟨#[]⟩],.int .i64 (ZL (Q8 s).data.toList+1),.int .i64 2]:z0)=NS s.data.toList:=by
 have d:=(Er k).1;have x:=L1 m;rcases KF (Q8 s).data.toList with⟨i,a,f⟩|⟨_,f⟩
 ·have n:((Q8 s).data.toList.head?==some 48)=false:=by
   by_cases o:0<(Q8 s).size
   ·rw[Wq o];by_cases e:byt (Q8 s) 0=48
    ·have q:¬(ZL (Q8 s).data.toList != 0)=true:=λh=>l ⟨h,e⟩
     have r:ZL (Q8 s).data.toList=0:=y8 q;have t:i=0:=x3;subst t;exfalso;unfold KW at a;split at a
     ·rename_i j u;obtain rfl:j=0:=by injection a
      have g:=List.find?_some u;have c:VF (Q8 s).data.toList 0=false:=by
       have v:=aM (Q8 s) 0 x3 x3;rw[v];rfl
      rw[c]at g;cases g
     ·split at a
      ·rename_i b;have y:(Q8 s).data.toList.length=0:=by rw[b];rfl
       have w:(Q8 s).data.toList.length=(Q8 s).size:=x6;omega
      ·cases a
    ·exact Lh e
   ·have w:(Q8 s).data.toList.length=(Q8 s).size:=x6;have:(Q8 s).data.toList=[]:=List.length_eq_zero_iff.1 x3;rw[this];rfl
  rw[n,a]at d;unfold NS;rw[d,f]
  rfl
 ·omega
theorem Qai{s:u4}(c:Gq s=false)(d:decide (ZL (Q8 s).data.toList>=0)=true): (.tuple #[.agg #[.bool false,.string ⟨#[]⟩],.int .i64 (ZL (Q8 s).data.toList),.int .i64 2]:z0)=NS s.data.toList:=by
 have a:=(Nb c).1;have f:=L1 d;rcases KF (Q8 s).data.toList with⟨i,e,b⟩|⟨_,b⟩
 ·rw[e]at a;unfold NS;rw[a,b]
 ·omega
theorem Qaj{s:u4}(f:Gq s=true)(g:¬((ZL (Q8 s).data.toList != 0)=true/\byt (Q8 s) 0=48))(h:decide (ZL (Q8 s).data.toList>=0)=false): (.tuple #[.agg #[.bool (neg (Qi true (JK (Q8 s).data.toList))),.string (Qx (Qi true (JK (Q8 s).data.toList)))],.int .i64 0,.int .i64 0]:z0)=NS s.data.toList:=by
 obtain⟨b,j⟩:=Er f;have l:=L7 h;rcases KF (Q8 s).data.toList with⟨i,c,d⟩|⟨c,d⟩
 ·omega
 ·have a:(ZL (Q8 s).data.toList != 0)=true:=by rw[d];rfl
  have k:((Q8 s).data.toList.head?==some 48)=false:=by
   rw[Wq (NN a)];exact Lh λe=>g ⟨a,e⟩
  rw[k,c]at b;unfold NS;rw[b,j];rfl
theorem Qak{s:u4}(c:Gq s=false)(d:decide (ZL (Q8 s).data.toList>=0)=false): (.tuple #[.agg #[.bool (neg (Qi false (JK (Q8 s).data.toList))),.string (Qx (Qi false (JK (Q8 s).data.toList)))],.int .i64 0,.int .i64 0]:z0)=NS s.data.toList:=by
 obtain⟨a,e⟩:=Nb c;have g:=L7 d;rcases KF (Q8 s).data.toList with⟨i,b,f⟩|⟨b,f⟩
 ·omega
 ·rw[b]at a;unfold NS;rw[a,e];rfl
theorem mR(b:Bool)(v:Nat)(W:y9): b9 prog 128 #[.agg #[.bool b,.string (QK v)]] W (.agg #[.bool (neg (Qi b v)),.string (Qx (Qi b v))]):=by
 have c:=Ny (QK v) b W;rwa [Yl]at c
theorem ut(W:World)(p q:Operand)(x y:Int): Qn prog W (do eqGuard .eql 30 p q (vI x) (vI y);binOp .eql 30 (vI x) (vI y)) (.bool (decide (x=y))):=λa _=>by
 have h:(neg x=neg y/\(Qx x).toList=(Qx y).toList)↔x=y:=by
  rw[Rp,Rp];exact⟨λh=>uM h.1 (ByteArray.ext (y8 h.2)),λh=>by rw[h];exact⟨rfl,rfl⟩⟩
 unfold vI;simp[go_sem];by_cases e:x=y
 ·subst e;simp
 ·have b:=mt h.1 e;by_cases c:neg x=neg y<;>by_cases d:(Qx x).toList=(Qx y).toList<;>simp_all
def HAg(s:u4):List Dir:=[.br false,.br false,.o 9 2 (.ret (sV (QK (JK (Q8 s).data.toList)))),.o 9 4 (.ret (.val (vI (Qi (Gq s) (JK (Q8 s).data.toList)))))]
theorem pG{s:u4}(e:s.size<=65536)(w:y9): RetAt prog w 209 #[Ψ s] (NS s.data.toList) :=
 rk [.o 1 1 (.ret (.tup [sV (Q8 s),bV (Gq s)])),.o 2 1 (.ret (iV (ZL (Q8 s).data.toList))),.gb 3 2 [.gb 3 6 [.o 3 7 (.set (.int .u8 (byt (Q8 s) 0:Int))),.both [.br true,.o 6 2 (.eq (iV 1))] [.gb 5 3 [.br true,.o 6 2 (.eq (iV (ZL (Q8 s).data.toList+1)))] (HAg s)]] [.g 5 3 true,.br true,.o 6 2 (.eq (iV (ZL (Q8 s).data.toList+1)))]] [.gb 5 3 [.br false,.br true] (HAg s)]] λW f i=>X7 (rc W call237 λW=>ip s W) (rc W call238 λW=>an (Q8 s) W (y6 (NO e)))<|ZG (Gq s) true (λa=>ZG ((ZL (Q8 s).data.toList) != 0) true (λd=>ai (CJ W (Q8 s) 0 (NN d))<|XA ((byt (Q8 s) 0:Int)==48) (λc=>X7 a (show IntKind.i64.wrap (0+1)=1 from x4)<|(show(.tuple #[.agg #[Ξ false,x00],Θ 1,Θ 2]:z0)=NS s.data.toList from Qah a d c)) λc=>ZG (decide ((ZL (Q8 s).data.toList)>=0)) true (λb=>X7 a (lO e)<|(show(.tuple #[.agg #[Ξ false,x00],Θ (ZL (Q8 s).data.toList+1),Θ 2]:z0)=NS s.data.toList from xO a (λh=>tw c x3) b)) λb=>Km (rfl:false=false) b (rc W call239 λW=>Nx (Q8 s) W (NO e) (Pu b)) (rc W call128 λW=>mR (Gq s) (JK (Q8 s).data.toList) W)<|(show(.tuple #[vI (Qi (Gq s) (JK (Q8 s).data.toList)),Θ 0,Θ 0]:z0)=NS s.data.toList from by rw[a];exact Qaj a (λh=>tw c x3) b)) λd=>JH (show decide ((ZL (Q8 s).data.toList)>=0)=true from Lz (by have:=d;simp at this;omega)) a (lO e)<|(show(.tuple #[.agg #[Ξ false,x00],Θ (ZL (Q8 s).data.toList+1),Θ 2]:z0)=NS s.data.toList from xO a (λh=>absurd h.1 (by rw[d];decide)) (Lz (by have:=d;simp at this;omega)))) λa=>ZG (decide ((ZL (Q8 s).data.toList)>=0)) true (λb=>X7 a b<|(show(.tuple #[.agg #[Ξ false,x00],Θ (ZL (Q8 s).data.toList),Θ 2]:z0)=NS s.data.toList from Qai a b)) λb=>Km (rfl:false=false) b (rc W call239 λW=>Nx (Q8 s) W (NO e) (Pu b)) (rc W call128 λW=>mR (Gq s) (JK (Q8 s).data.toList) W)<|(show(.tuple #[vI (Qi (Gq s) (JK (Q8 s).data.toList)),Θ 0,Θ 0]:z0)=NS s.data.toList from by rw[a];exact Qak a b)
theorem Yt(W:y9)(x y:b8)(a b c:u4)(d:a.size+b.size<=9223372036854775807)(h:a++b=c): Qn prog W (do eqGuard .add 9 x y (.string a) (.string b);binOp .add 9 (.string a) (.string b)) (.string c):=h▸qO W x y a b d
theorem Pf(z:Int): Zq z<=(itoa z).length:=by
 refine G6 ?_
 have b:=lt_pow_nDigits z.natAbs;have a:nDigits z.natAbs<=(itoa z).length:=by
  unfold itoa;split
  ·rw[Rc,bh];omega
  ·rw[bh,show z.toNat=z.natAbs by omega];exact L8 _
 have c:10^nDigits z.natAbs<=256^nDigits z.natAbs:=Nat.pow_le_pow_left x4 _;have d:256^nDigits z.natAbs<=256^(itoa z).length:=Li x4 a;omega
theorem em{l:u4}{n:Nat}(a:XX l.data.toList=none)(b:l.size<=n): Zq (YT l.data.toList)<=n:=by
 have h:=Pf (YT l.data.toList);rw[H8 a]at h;have c:l.data.toList.length=l.size:=x6;omega
theorem sb{m e:Int}{n:Nat}(h:m.natAbs<256^n): (dy m e=0/\de (dy m e)=0)\/(e<=de (dy m e)/\de (dy m e)<=e+8*n):=by
 by_cases b:m=0
 ·subst b;rw[JD];exact .inl ⟨rfl,rfl⟩
 ·right;rw[(bn e b).2];obtain⟨k,c⟩:=B5 (v:=m.natAbs) x3;have d:2^tz m.natAbs<=m.natAbs:=by
   have f:2^tz m.natAbs*1<=2^tz m.natAbs*(2*k+1):=R4 _ x3;omega
  have g:(256:Nat)^n=2^(8*n):=by rw[show(256:Nat)=2^8 from rfl,<- Sn]
  have i:tz m.natAbs<8*n:=(Nat.pow_lt_pow_iff_right (a:=2) x4).1 x3;omega
def Ey(c:UInt8): Bool:=c==112||c==47
def Xr(l:List UInt8): Nat:=l.findIdx Ey
def CC(l:List UInt8): Int:=if Xr l=l.length then 0 else((l.getD (Xr l) 0).toNat:Int)
theorem vS(l:List UInt8): Xr l<=l.length:=List.findIdx_le_length
theorem lA{l:List UInt8}{k:Nat}(b:k<l.length)(c:∀j,j<k->Ey (l.getD j 0)=false)(d:Ey (l.getD k 0)=true): Xr l=k:=by
 have e:∀j (a:j<l.length),l.getD j 0=l[j]:=λj a=>by rw[List.getD,m0 a];rfl
 unfold Xr;rw[List.findIdx_eq b];refine⟨by rw[<- e k b];exact d,λj a=>by rw[<- e j x3];exact c j a⟩
theorem lz{l:List UInt8}(b:∀j,j<l.length->Ey (l.getD j 0)=false): Xr l=l.length:=by
 unfold Xr;rw[List.findIdx_eq_length];intro c d;obtain⟨j,a,rfl⟩:=List.mem_iff_getElem.1 d;have:=b j a;rwa [List.getD,m0 a]at this
theorem ly{l:List UInt8}(h:Xr l<l.length): CC l=((l.getD (Xr l) 0).toNat:Int)/\(CC l=112\/CC l=47):=by
 have b:CC l=((l.getD (Xr l) 0).toNat:Int):=by unfold CC;rw[if_neg x3]
 refine⟨b,?_⟩;have a:Ey (l.getD (Xr l) 0)=true:=by
  rw[List.getD,m0 h];exact List.findIdx_getElem (w:=h)
 rw[b];unfold Ey at a;rw[Uu]at a;rcases a with a|a
 ·left;rw[Sv.1 a];rfl
 ·right;rw[Sv.1 a];rfl
def pz(l:List UInt8): Int:=match XX l with|none=>YT l|some _=>0
def pI(l:List UInt8): Int:=match XX l with|none=>0|some i=>i
def pE(l:List UInt8): Int:=match XX l with|none=>0|some _=>2
theorem eM(l:List UInt8): NS l=.tuple #[vI (pz l),.int .i64 (pI l),.int .i64 (pE l)]:=by
 unfold NS pz pI pE;cases XX l<;>rfl
theorem sF{l:List UInt8}(h:(pE l != 0)=true): pE l=2/\∃i,XX l=some i/\pI l=i:=by
 unfold pE pI at *;cases e:XX l with
 | none=>rw[e]at h;exact absurd h x4
 | some i=>exact⟨rfl,i,rfl,rfl⟩
theorem cT{l:List UInt8}(h:(pE l != 0)=false): XX l=none/\pz l=YT l:=by
 unfold pE pz at *;cases e:XX l with
 | none=>exact⟨rfl,rfl⟩
 | some i=>rw[e]at h;exact absurd h (by show ¬((2:Int) != 0)=false;decide)
theorem WQ{l:List UInt8}{i:Nat}(h:XX l=some i): i<=l.length+1:=by
 cases l with
 | nil=>injection h with h;omega
 | cons c l =>
  simp only[XX]at h;split at h
  ·split at h
   ·injection h with h;simp;omega
   ·cases e:KW l with
    | none=>rw[e]at h;cases h
    | some j=>rw[e]at h;have:=IN e;simp at h;simp;omega
  ·have:=IN h;simp at this;simp;omega
theorem yF(l:List UInt8): 0<=pI l/\pI l<=l.length+1:=by
 unfold pI;cases e:XX l with
 | none=>show(0:Int)<=0/\(0:Int)<=l.length+1;omega
 | some i=>have:=WQ e;show(0:Int)<=i/\(i:Int)<=l.length+1;omega
def Np(z:Int): Int:=if -9223372036854775808<=z/\z<=9223372036854775807 then z else 0
def nl(z:Int): Bool:=decide (-9223372036854775808<=z/\z<=9223372036854775807)
theorem OP(z:Int): Zw z=.tuple #[.int .i64 (Np z),.bool (nl z)]:=by
 unfold Zw Np nl;split
 ·rename_i h;rw[Lz h]
 ·rename_i h;rw[Lh h]
def ZJ(l:List UInt8): Dyadic×Int×Int :=
 match XX (l.take (Xr l))with
 | some i=>(0,(i:Int),2)
 | none=>if CC l=0 then(dy (YT (l.take (Xr l))) 0,0,0)else
  match XX (l.drop (Xr l+1))with
  | some i=>(0,(Xr l:Int)+1+i,2)
  | none=>if CC l=47 then(if dm (dy (YT (l.drop (Xr l+1))) 0)=1 then(dy (YT (l.take (Xr l))) (-de (dy (YT (l.drop (Xr l+1))) 0)),0,0)else(0,0,1))
   else if -32768<=YT (l.drop (Xr l+1))/\YT (l.drop (Xr l+1))<=32768 then(dy (YT (l.take (Xr l))) (YT (l.drop (Xr l+1))),0,0)else(0,0,3)
def Fd(l:List UInt8): z0:=.tuple #[vN (ZJ l).1,.int .i64 (ZJ l).2.1,.int .i64 (ZJ l).2.2]
theorem UY(s:u4)(p:Nat)(a:¬(s.get! (p+0)).toNat<128): (Utf8.decode s p).2<=4/\(2<=(Utf8.decode s p).2->(decide (p+1<s.size)&&((s.get! (p+1)).toNat / 64==2))=true)/\(3<=(Utf8.decode s p).2->(decide (p+2<s.size)&&((s.get! (p+2)).toNat / 64==2))=true)/\(4<=(Utf8.decode s p).2->(decide (p+3<s.size)&&((s.get! (p+3)).toNat / 64==2))=true):=by
 simp only[Utf8.decode,a,if_false];generalize (decide (p+1<s.size)&&((s.get! (p+1)).toNat / 64==2))=b;generalize (decide (p+2<s.size)&&((s.get! (p+2)).toNat / 64==2))=c;generalize (decide (p+3<s.size)&&((s.get! (p+3)).toNat / 64==2))=d
 repeat' split
 all_goals simp_all
theorem PA(s:u4)(p:Nat)(h:p<s.size)(f:128<=byt s p): ∀j,j<(Utf8.decode s p).2->p+j<s.size/\128<=byt s (p+j):=by
 have c:∀k,p+k<s.size->(s.get! (p+k)).toNat=byt s (p+k):=λk a=>by
  rw[<- KH s (p+k) a];have e:s.get! (p+k)=s[p+k]'a:=by simp[ByteArray.get!,getElem!_pos,a];rfl
  rw[e]
 have g:(s.get! (p+0)).toNat=byt s p:=c 0 h;have i:¬ byt s p<128:=x3;have b:∀k,(decide (p+k<s.size)&&((s.get! (p+k)).toNat / 64==2))=true->p+k<s.size/\128<=byt s (p+k):=λk a=>by
  obtain⟨l,m⟩:=L6.1 a;have d:=L1 l;have n:(s.get! (p+k)).toNat / 64=2:=y8 m;rw[c k d]at n;exact⟨d,x3⟩
 have key:=UY s p (by rw[g];exact i);obtain⟨r,k1,o,q⟩:=key;intro j t;rcases j with _|_|_|_|j
 ·exact⟨h,f⟩
 ·exact b 1 (k1 x3)
 ·exact b 2 (o x3)
 ·exact b 3 (q x3)
 ·omega
theorem vR{s:u4}{j:Nat}(h:128<=byt s j): Ey (s.data.toList.getD j 0)=false:=by
 unfold Ey;have e:∀d:UInt8,d.toNat<128->(s.data.toList.getD j 0==d)=false:=λd a=>by
  cases e:s.data.toList.getD j 0==d with
  | false=>rfl
  | true =>
   have b:byt s j=d.toNat:=Ly UInt8.toNat (Sv.1 e);omega
 rw[e 112 x4,e 47 x4];rfl
theorem vQ{s:u4}{j:Nat}: Ey (s.data.toList.getD j 0)=(decide (byt s j=112)||decide (byt s j=47)):=by
 unfold Ey byt;have e:∀(c d:UInt8),(c==d)=decide (c.toNat=d.toNat):=λc d=>by
  by_cases h:c=d
  ·subst h;simp
  ·have a:¬ c.toNat=d.toNat:=λe=>h (UInt8.toNat_inj.1 e)
   rw[Lh a];simpa using h
 rw[e,e];rfl
theorem lF(s:ByteArray)(w:World)(K:s.size<=1099511627776):
  b9 prog 208 #[.string s] w (.tuple #[.int .i32 (CC s.data.toList),.int .i64 (Xr s.data.toList:Nat)]):=by
 have y:=hV (show s.data.toList.length=s.size by simp);go_enter func208,ntmps208
 go_wp2
 go_loopw [2] (λr wr=>∃p:Nat,r=.int .i32 0/\p<=s.size/\wr=w.iter s p/\Hid (∀j,j<p->Ey (s.data.toList.getD j 0)=false)) (λ_ wr=>s.size-wr.iterPos w.heap.size)
 case atStart=>exact⟨0,rfl,La _,rfl,hV (λ_ h=>absurd h (R6 _))⟩
 case round =>
  obtain⟨p,rfl,L,rfl,f⟩:=hrel;by_cases a:p<s.size
  ·have D:(p:Int)<=1099511627776:=x3;by_cases g:byt s p<128
   ·have i:∀k,(Instr.next (.pointer (some ⟨w.heap.size,0,none⟩)) true k).run prog (w.iter s p)=_:=λk=>run_next_ascii (P:=prog) w s p k a (by rw[KH];exact g)
    simp only[KH]at i;have z:Hid (p<s.data.toList.length):=hV (by rw[y.out];exact a);have n:=hV (vQ (s:=s) (j:=p));by_cases u:byt s p=112
    ·have m:=hV (lA z.out f.out (by rw[n.out,Lz u];rfl));have l:=hV (show CC s.data.toList=112 by rw[(ly (by rw[m.out];exact z.out)).1,m.out];show((byt s p:Nat):Int)=112;rw[u];rfl);have b:((byt s p:Nat):Int)=112:=x3;rw[b]at i;clear a g u b;go_wp2
     exact bodyPost_ret (v:=.tuple #[.int .i32 112,.int .i64 (p:Nat)]) (by simp[results,results208,go_sem]) rfl ⟨by rw[m.out,l.out],Zm _ _ _⟩
    by_cases x:byt s p=47
    ·have m:=hV (lA z.out f.out (by rw[n.out,Lz x,Bool.or_true]));have l:=hV (show CC s.data.toList=47 by rw[(ly (by rw[m.out];exact z.out)).1,m.out];show((byt s p:Nat):Int)=47;rw[x];rfl);have b:((byt s p:Nat):Int)=47:=x3;rw[b]at i;clear a g u x b;go_wp2
     exact bodyPost_ret (v:=.tuple #[.int .i32 47,.int .i64 (p:Nat)]) (by simp[results,results208,go_sem]) rfl ⟨by rw[m.out,l.out],Zm _ _ _⟩
    have A:=hV (show ∀j,j<p+1->Ey (s.data.toList.getD j 0)=false from λj G=>by
     by_cases e:j=p
     ·rw[e,n.out,Lh u,Lh x];rfl
     ·exact f.out j x3)
    have b:¬((byt s p:Nat):Int)=112:=x3;have H:(((byt s p:Nat):Int)==112)=false:=y8 b;have o:¬((byt s p:Nat):Int)=47:=x3;have I:(((byt s p:Nat):Int)==47)=false:=y8 o;clear g u x;generalize byt s p=d at *;go_wp2
    go_roundw
    case rel=>exact⟨p+1,rfl,a,rfl,A⟩
    case measure=>simp;omega
   ·have t:=(decode_high s p a (by rw[KH];omega))
    have c:=PA s p a x3;have i:∀k,(Instr.next (.pointer (some ⟨w.heap.size,0,none⟩)) true k).run prog (w.iter s p)=_:=λk=>run_next_any (P:=prog) w s p k a
    obtain⟨d,hd⟩:∃d,d=(Utf8.decode s p).1:=⟨_,rfl⟩
    obtain⟨q,B⟩:∃q,q=(Utf8.decode s p).2:=⟨_,rfl⟩
    rw[<- hd,<- B]at i t;rw[<- B]at c;have C:p+q<=s.size:=by have:=(c (q-1) x3).1;omega
    have A:=hV (show ∀j,j<p+q->Ey (s.data.toList.getD j 0)=false from λj G=>by
     by_cases e:j<p
     ·exact f.out j e
     ·have E:=(c (j-p) x3).2;rw[show p+(j-p)=j by omega]at E;exact vR E)
    have b:¬(d:Int)=112:=x3;have H:((d:Int)==112)=false:=y8 b;have o:¬(d:Int)=47:=x3;have I:((d:Int)==47)=false:=y8 o;have J:1<=q:=t.2;clear g t c hd B;go_wp2
    go_roundw
    case rel=>exact⟨p+q,rfl,C,rfl,A⟩
    case measure=>simp;omega
  ·obtain rfl:p=s.size:=x3;have i:∀k,(Instr.next (.pointer (some ⟨w.heap.size,0,none⟩)) true k).run prog (w.iter s s.size)=_:=λk=>run_next_end (P:=prog) w s s.size k a
   have m:=hV (show Xr s.data.toList=s.size by rw[<- y.out];exact lz (by rw[y.out];exact f.out));have l:=hV (show CC s.data.toList=0 by unfold CC;rw[m.out,y.out,if_pos rfl]);go_wp2
   exact bodyPost_ret (v:=.tuple #[.int .i32 0,.int .i64 (s.size:Nat)]) (by simp[results,results208,go_sem]) rfl ⟨by rw[m.out,l.out],Zm _ _ _⟩
theorem fu(n:Int)(W:y9)(h:-1000000<=n/\n<=1000000)(c:Tab10 W): b9 prog 32 #[.int .i64 n] W (.string (tg n)):=by
 refine(Tryz.strconv_Itoa n x3 x3 W c).mono ?_
 rintro e b ⟨rfl,k,a,rfl⟩;have d:Below W.heap.size W (grow (W.drewN k) a):=⟨rfl,rfl,rfl,by show W.heap.size<=(W.heap++a).size;rw[Array.size_append];omega,λj f=>by show(W.heap++a)[j]?=_;rw[Array.getElem?_append_left f]⟩
 exact⟨rfl,d⟩
theorem bO(z e:Int)(W:y9)(d:Zq z<=65536)(f:-1000000<=e/\e<=1000000)(a:Q0 W): b9 prog 90 #[.agg #[.bool (neg z),.string (Qx z)],.int .i64 e] W (vN (dy z e)):=by
 have c:=GG (Qx z) (neg z) e W (by rw[XF];omega) x3 x3 a;rwa [Xg]at c
def QN(s:u4)(k:Nat): u4:=⟨(s.data.toList.take k).toArray⟩
def QY(s:u4)(k:Nat): u4:=⟨(s.data.toList.drop k).toArray⟩
theorem VX(s:u4)(k:Nat): (QN s k).data.toList=s.data.toList.take k:=by simp[QN]
theorem Az(s:u4)(k:Nat): (QY s k).data.toList=s.data.toList.drop k:=by simp[QY]
theorem IQ(s:u4)(k:Nat): (QN s k).size<=s.size:=by
 have h:(QN s k).data.toList.length=(QN s k).size:=x6;have a:s.data.toList.length=s.size:=x6;rw[VX,Lk]at h;omega
theorem Hf(s:u4)(k:Nat): (QY s k).size<=s.size:=by
 have h:(QY s k).data.toList.length=(QY s k).size:=x6;have a:s.data.toList.length=s.size:=x6;rw[Az,Lf]at h;omega
def I2(s:u4)(A:u5): Res where
 φ x S w:=x=.bool false/\∃g,A=some ⟨g,0,none⟩/\(∀j,j<s.size->w.cell? ⟨g,j,none⟩=some (.int .u8 ((bt s j:Nat):Int)))/\∀b,S b↔b=g
 one _ _ _ h:=by rw[h.1];rfl
 loc x S w w' h hφ:=by
  obtain⟨c,g,d,e,a⟩:=hφ;exact⟨c,g,d,λj f=>(World.cell?_of_block (h g ((a g).2 rfl))).trans (e j f),a⟩
section
variable {P:Program} {w0:World}
theorem ia{s:u4}{A:u5}{x:z0}{S:Nat->Prop}{w:y9}(h:(I2 s A).φ x S w): RdK w A s.size 1 (λj=>[.int .u8 ((bt s j:Nat):Int)]):=λ_=>by
 obtain⟨_,g,rfl,a,_⟩:=(show _/\_ from h)
 refine⟨g,0,rfl,λj b i c=>?_⟩;obtain rfl:i=0:=x3;rw[Sm,Lj,Sw,a j b];rfl
theorem Cn(P:u7)(w0:y9)(src dst e:u6)(f:P.underlying src=some .string)(g:P.underlying dst=some (.slice e))(h:P.underlying e=some (.int .u8))(s:u4): FU P w0 [] (λy:Hp=>.slice y.1 s.size y.2) (λy:Hp=>I2 s y.1) (Go.convert src dst (.string s)):=λW _=>by
 show O6 P W _ _ _;have a:=run_bytes_of_string (P:=P) W src dst e s f g h;refine⟨(some ⟨W.heap.size,0,none⟩,grownCap W s.size 0 e),.bool false,λb=>b=W.heap.size,_,a,((l3 _ W).drew).alloc (L8 _) _,(show _/\_ from⟨rfl,W.heap.size,rfl,λj d=>?_,λb=>Iff.rfl⟩),λb i=>?_⟩
 ·have k:(W.drew.alloc (.cells (bytesRow s (grownCap W s.size 0 e)) e ((bytesRow s (grownCap W s.size 0 e)).size,(bytesRow s (grownCap W s.size 0 e)).size+1))).heap[W.heap.size]?=some (.cells (bytesRow s (grownCap W s.size 0 e)) e ((bytesRow s (grownCap W s.size 0 e)).size,(bytesRow s (grownCap W s.size 0 e)).size+1)):=heap_alloc_new W.drew _;unfold World.cell?;rw[k];show(bytesRow s (grownCap W s.size 0 e))[j]?=_;rw[bytesRow_at s _ j d];congr 2;unfold bt;have c:j<s.data.toList.length:=y8 d;rw[List.getD,m0 c];simp
 ·subst i;simp
end
theorem QaL(W:World)(p q:Operand)(v:Nat)(a:v<72057594037927936): Qn prog W (do eqGuard .shl 206 p q (.int .u64 (v:Int)) (.int .u64 8);binOp .shl 206 (.int .u64 (v:Int)) (.int .u64 8)) (.int .u64 ((v:Int)*256)):=λb _=>by
 have h:IntKind.u64.wrap ((v:Int)*256)=(v:Int)*256:=by rw[o0];omega
 simp[go_sem,h]
theorem QaE(a:Int)(s:ByteArray)(k:Nat)(W:World)(p q:Operand)(b:pre s k<72057594037927936)(c:k<s.size)(d:a=((bt s k:Nat):Int)): Qn prog W (do eqGuard .or 206 p q (.int .u64 (((pre s k:Nat):Int)*256)) (.int .u64 a);binOp .or 206 (.int .u64 (((pre s k:Nat):Int)*256)) (.int .u64 a)) (.int .u64 ((pre s (k+1):Nat):Int)):=λe _=>by
 subst d;have h:=or8 (pre s k) (bt s k) b (UInt8.toNat_lt _);rw[show pre s k*256+bt s k=pre s (k+1)from(kN s c).symm]at h;simp[go_sem,h]
theorem CX(s:u4)(A:u5)(w0:y9){P:u7}{m:Sem z0}{R:z0}(h:∀W,RdK W A s.size 1 (λj=>[.int .u8 ((bt s j:Nat):Int)])->Qn P W m R): GC P w0 [I2 s A] m R:=λW _ _ _ a=>h W (ia a) W (l3 _ _)
section
variable {s:ByteArray} {b:Bool}
theorem wf(h:decide ((((nd 1 (Qa s):Nat):Int))>64)=true): Value.tuple #[.int .i64 0,.bool false]=Zw (Qi b (Qa s)):=by
 have a:=L1 h;have c:=Il 1 (Qa s) (λh=>by rw[h,Cs]at a;omega);have d:(2^1)^64<=(2^1)^(nd 1 (Qa s)-1):=Li (show 2^1>0 by decide) x3;have e:18446744073709551616<=Qa s:=L9 d c;unfold Zw;rw[if_neg];have:=Xv b (Qa s);omega
variable (h:decide ((((nd 1 (Qa s):Nat):Int))>64)=false)
include h
theorem sQ:Qa s<18446744073709551616:=Lb (D6 1 x4 (Qa s)) (Li (show 2^1>0 by decide) (show nd 1 (Qa s)<=64 by have:=L7 h;omega))
theorem sS:(QK (Qa s)).size<=8:=by
 rw[Eo];exact Xd (k:=8) x4 (sQ h)
theorem lJ{k:Nat}(a:k<(QK (Qa s)).size): pre (QK (Qa s)) k<72057594037927936:=Lb (vm _ k) (L9 (Li x4 (show k<=7 by have:=sS h;omega)) x4)
def CS(b:Bool)(v:Nat): Int:=if b then IntKind.i64.wrap (IntKind.u64.wrap (0-(v:Int)))else IntKind.i64.wrap (v:Int)
omit h in
theorem Ez(b:Bool)(v:Nat): -9223372036854775808<=CS b v/\CS b v<=9223372036854775807:=by
 unfold CS;split<;>(rw[IntKind.wrap_i64];omega)
theorem sO:Zw (Qi b (Qa s))=if CS b (Qa s)=Qi b (Qa s)then .tuple #[.int .i64 (CS b (Qa s)),.bool true]else .tuple #[.int .i64 0,.bool false]:=by
 have c:=sQ h;cases b with
 | true =>
  obtain⟨O,a,_,_,e⟩:=wL (Qa s) c;rw[show CS true (Qa s)=O from by rw[<- a,<- Int.zero_sub];rfl];exact e
 | false =>
  obtain⟨O,a,_,_,e⟩:=wM (Qa s) c;rw[show CS false (Qa s)=O from a];exact e
theorem sR(a:(JZ (CS b (Qa s)-Qi b (Qa s)) != 0)=true): Value.tuple #[.int .i64 0,.bool false]=Zw (Qi b (Qa s)):=by
 rw[sO h,if_neg λe=>by rw[e,Int.sub_self]at a;cases a]
theorem lK(a:(JZ (CS b (Qa s)-Qi b (Qa s)) != 0)=false): Value.tuple #[.int .i64 (CS b (Qa s)),.bool true]=Zw (Qi b (Qa s)):=by
 rw[sO h,if_pos];have c:=bne_eq_false_iff_eq.1 a;have:=sgn_eq.1 c;omega
end
theorem sa(O:Int)(b:Bool)(s:u4)(e:s.size<=16777216)(d:-9223372036854775808<=O/\O<=9223372036854775807)(w:y9): RetAt prog w 99 #[.agg #[.bool (neg O),.string (Qx O)],.agg #[.bool b,.string s]] (.int .i64 (JZ (O-Qi b (Qa s)))):=⟨λa w=>call99 a w,λW _=>by
 have c:=TR (Qx O) s (neg O) b W (by rw[XF];exact L9 (ep d.1 d.2) x4) x3;rw[Xg]at c;exact c⟩
abbrev HAh(s:u4):=CS false (Qa s)
abbrev HAi(s:u4):=CS true (Qa s)
theorem mV{s:u4}{b:Bool}(q:s.size<=16777216)(w:y9): RetAt prog w 192 #[.agg #[Ξ b,Ψ s]] (Zw (Qi b (Qa s))) :=
 let r:OB:=some (30,[bV b,sV s]);rk [.o 1 2 (.ret (iV ((nd 1 (Qa s):Nat):Int))),.both [] [.o 4 2 (.ret (sV (QK (Qa s)))),.mk 4 3 [] (λ(d:Hp)=>Ω d.1 (QK (Qa s)).size d.2) (λ(d:Hp)=>I2 (QK (Qa s)) d.1) (λ(d:Hp)=>[.lop (λ(k:Nat)=>(⟨39,[(1,.ptr 0 0),(4,.val (.int .u64 ((pre (QK (Qa s)) k:Nat):Int))),(15,lV d.1 (QK (Qa s)).size d.2),(16,iV (((QK (Qa s)).size:Nat):Int)),(17,iV (k:Int))],[none],[none]⟩:St)) (λ(k:Nat)=>(k<=(QK (Qa s)).size)) (λ(k:Nat)=>((QK (Qa s)).size-k)) (0:Nat) (λ(k:Nat) (u:List Hp)=>k+1) (λ(k:Nat)=>[.both [.o 6 0 (.rd [0] (.pointer (some (Xi d.1 (k*1+0))))),.o 6 1 (.rd [0] (.int .u8 ((bt (QK (Qa s)) k:Nat):Int))),.o 7 1 (.set (.int .u64 (((pre (QK (Qa s)) k:Nat):Int)*256))),.o 7 3 (.eq (.val (.int .u64 ((bt (QK (Qa s)) k:Nat):Int)))),.o 7 4 (.set (.int .u64 ((pre (QK (Qa s)) (k+1):Nat):Int))),.o 8 0 (.eq (iV ((k+1:Nat):Int))),.nxt []] [.both [.o 11 1 (.eq (iV (HAi s))),.reg 5 [],.o 12 1 (.ret (.agg [bV (neg (HAi s)),sV (Qx (HAi s))])),.o 12 3 (.ret (iV (JZ ((HAi s)-Qi b (Qa s))))),.both [] []] [.o 11 1 (.eq (iV (HAh s))),.reg 5 [],.o 12 1 (.ret (.agg [bV (neg (HAh s)),sV (Qx (HAh s))])),.o 12 3 (.ret (iV (JZ ((HAh s)-Qi b (Qa s))))),.both [] []]]])])]] λW t v=>ai (O3 W λW=>Cq s W x3)<|XA (decide (((nd 1 (Qa s):Nat):Int)>64)) (λg=>(show(.tuple #[Θ 0,Ξ false]:z0)=Zw (Qi b (Qa s))from wf g)) λg=>ai (O3 W λW=>(M6 s W).mono λ_ _ h=>⟨h.1,h.2▸l3 _ _⟩)<|ai (Cn prog W 9 82 5 x5 x5 x5 (QK (Qa s))) λ(d:Hp)=>Gz (rfl:(0:Int)=((pre (QK (Qa s)) 0:Nat):Int)) (qV (Ω d.1 (QK (Qa s)).size d.2)) (qI (((QK (Qa s)).size:Nat):Int)) (rfl:(0:Int)=((0:Nat):Int)) (qk r) (Yu (I2 (QK (Qa s)) d.1))<|ai (show 0<=(QK (Qa s)).size from La _) λ(k:Nat) (x:(k<=(QK (Qa s)).size))=>XA (decide ((k:Int)<(((QK (Qa s)).size:Nat):Int))) (λf=>Zb (CX (QK (Qa s)) d.1 W (λm p=>BD m d.2 k p (show k<(QK (Qa s)).size from XD f))) (CX (QK (Qa s)) d.1 W (λm p=>C9 m k 0 p (show k<(QK (Qa s)).size from XD f) x4 rfl)) (QaL W (.tmp 21) (.const (.int .u64 8)) (pre (QK (Qa s)) k) (lJ g (show k<(QK (Qa s)).size from XD f))) (show IntKind.u64.wrap ((bt (QK (Qa s)) k:Nat):Int)=((bt (QK (Qa s)) k:Nat):Int)from by rw[o0];have:=UInt8.toNat_lt ((QK (Qa s)).data.toList.getD k 0);unfold bt;omega) (QaE ((bt (QK (Qa s)) k:Nat):Int) (QK (Qa s)) k W (.tmp 22) (.tmp 24) (lJ g (show k<(QK (Qa s)).size from XD f)) (show k<(QK (Qa s)).size from XD f) rfl) (QQ k (y7 (sS g) (L1 f))) (qI ((pre (QK (Qa s)) (k+1):Nat):Int)) (qV (Ω d.1 (QK (Qa s)).size d.2))<|Km (qI (((QK (Qa s)).size:Nat):Int)) (qI (((k+1):Nat):Int)) (qk r) (Yu (I2 (QK (Qa s)) d.1))<|ai (show k+1<=(QK (Qa s)).size from(show k<(QK (Qa s)).size from XD f)) (show(QK (Qa s)).size-(k+1)<(QK (Qa s)).size-k from y6 (L1 f))) λf=>XA b (λl=>JH (show IntKind.i64.wrap (IntKind.u64.wrap (0-((pre (QK (Qa s)) k:Nat):Int)))=(CS true (Qa s))from by rw[(show pre (QK (Qa s)) k=Qa s from by rw[show k=(QK (Qa s)).size from y6 (L7 f),dd,Yl])];rfl) (O3 W λW=>Dv (HAi s) W (Ez _ _).1 (Ez _ _).2) (sa (HAi s) b s q (Ez _ _) W)<|XA ((JZ ((CS true (Qa s))-Qi b (Qa s))) != 0) (λj=>(show(.tuple #[Θ 0,Ξ false]:z0)=Zw (Qi b (Qa s))from by subst l;exact sR g j)) λj=>(show(.tuple #[Θ (CS true (Qa s)),Ξ true]:z0)=Zw (Qi b (Qa s))from by subst l;exact lK g j)) λl=>JH (show IntKind.i64.wrap ((pre (QK (Qa s)) k:Nat):Int)=(CS false (Qa s))from by rw[(show pre (QK (Qa s)) k=Qa s from by rw[show k=(QK (Qa s)).size from y6 (L7 f),dd,Yl])];rfl) (O3 W λW=>Dv (HAh s) W (Ez _ _).1 (Ez _ _).2) (sa (HAh s) b s q (Ez _ _) W)<|XA ((JZ ((CS false (Qa s))-Qi b (Qa s))) != 0) (λj=>(show(.tuple #[Θ 0,Ξ false]:z0)=Zw (Qi b (Qa s))from by subst l;exact sR g j)) λj=>(show(.tuple #[Θ (CS false (Qa s)),Ξ true]:z0)=Zw (Qi b (Qa s))from by subst l;exact lK g j)
theorem TU(s:u4)(b:Bool)(w:y9)(a:s.size<=16777216): b9 prog 192 #[.agg #[.bool b,.string s]] w (Zw (Qi b (Qa s))):=(mV a w).at
theorem me(s:u4)(k:Nat): s.extract 0 k=QN s k:=by
 apply ByteArray.ext;rw[ByteArray.data_extract];unfold QN;apply Array.ext';simp
theorem iW(s:u4)(k:Nat): s.extract k s.size=QY s k:=by
 apply ByteArray.ext;rw[ByteArray.data_extract];unfold QY;apply Array.ext';have h:s.data.toList.length=s.size:=x6;simp;rw[Rj x6]
theorem CI(W:y9)(s:u4)(k:Nat)(h:k<=s.size): Qn prog W (Instr.sliceAt 9 (.string s) none (some (.int .i64 (k:Int))) none) (.string (QN s k)):=λa _=>by
 rw[run_sliceAt_string (h:=Tryz.underlying9),run_slice_string_h (ht:=Tryz.underlying9) (h0:=x3) (h2:=x3),<- me];rfl
theorem SW(W:y9)(s:u4)(k:Nat)(h:k<=s.size): Qn prog W (Instr.sliceAt 9 (.string s) (some (.int .i64 (k:Int))) none none) (.string (QY s k)):=λa _=>by
 rw[run_sliceAt_string (h:=Tryz.underlying9),run_slice_string_l (ht:=Tryz.underlying9) (h0:=x3) (h1:=x3),<- iW];rfl
theorem bc(s:u4)(W:y9)(a:s.size<=65536): b9 prog 209 #[.string s] W (.tuple #[vI (pz s.data.toList),.int .i64 (pI s.data.toList),.int .i64 (pE s.data.toList)]):=by
 have c:=(pG a W).at
 rwa [eM]at c
theorem rJ(z:Int)(W:y9)(b:Zq z<=65536): b9 prog 192 #[.agg #[.bool (neg z),.string (Qx z)]] W (.tuple #[.int .i64 (Np z),.bool (nl z)]):=by
 have c:=TU (Qx z) (neg z) W (by rw[XF];omega);rwa [Xg,OP]at c
theorem AF{l:List UInt8}{n:Nat}(h:l.length<=n): Zq (pz l)<=n:=by
 unfold pz;cases e:XX l with
 | some i=>exact L9 (show Zq 0<=0 by decide) (La _)
 | none =>
  have a:=Pf (YT l);rw[H8 e]at a;exact L9 a h
theorem OW(s:u4)(k:Nat): (QN s k).data.toList.length<=s.size:=by
 have h:=IQ s k;simpa using h
theorem He(s:u4)(k:Nat): (QY s k).data.toList.length<=s.size:=by
 have h:=Hf s k;simpa using h
theorem OM(s:u4): Xr s.data.toList<=s.size:=by
 have h:=vS s.data.toList;simpa using h
theorem zg{s:u4}(h:(CC s.data.toList==0)=false): Xr s.data.toList+1<=s.size:=by
 have b:=tw h;have c:=OM s;rcases Lx (Xr s.data.toList) s.size with a|a
 ·exact a
 ·exact absurd (by unfold CC;rw[if_pos (by have d:s.data.toList.length=s.size:=x6;omega)]) b
theorem kI1{s:u4}(a:s.size<=60000): IntKind.i64.wrap ((Xr s.data.toList:Int)+1)=((Xr s.data.toList+1:Nat):Int):=zD (y6 (OM s))
theorem kI2{s:u4}(a:s.size<=60000): IntKind.i64.wrap (((Xr s.data.toList+1:Nat):Int)+pI (QY s (Xr s.data.toList+1)).data.toList)=(Xr s.data.toList:Int)+1+pI (QY s (Xr s.data.toList+1)).data.toList:=by
 have b:=OM s;have c:=yF (QY s (Xr s.data.toList+1)).data.toList;have d:=He s (Xr s.data.toList+1);rw[Lg _ x3];omega
theorem nde{z:Int}{n:Nat}(h:Zq z<=n)(c:n<=60000): IntKind.i64.wrap (0-de (dy z 0))=-de (dy z 0):=by
 have b:z.natAbs<256^n:=Lb (D0 z) (Li x4 h);have a:=sb (e:=0) b;rw[Lg _ (by rcases a with a|a<;>omega)];omega
theorem tV{z:Int}{n:Nat}(h:Zq z<=n)(c:n<=60000): -1000000<= -de (dy z 0)/\-de (dy z 0)<=1000000:=by
 have b:z.natAbs<256^n:=Lb (D0 z) (Li x4 h);have a:=sb (e:=0) b;rcases a with a|a<;>omega
theorem Vm{l:List UInt8}{x:Dyadic}{i e:Int}(h:ZJ l=(x,i,e)): (.tuple #[vN x,.int .i64 i,.int .i64 e]:z0)=Fd l:=by unfold Fd;rw[h]
section
variable {s:ByteArray}
theorem lw1(h:(pE (QN s (Xr s.data.toList)).data.toList != 0)=true): ZJ s.data.toList=(0,pI (QN s (Xr s.data.toList)).data.toList,pE (QN s (Xr s.data.toList)).data.toList):=by
 obtain⟨b,i,a,c⟩:=sF h;rw[b,c];rw[VX]at a;unfold ZJ;rw[a]
theorem lw2(h:(pE (QN s (Xr s.data.toList)).data.toList != 0)=false)(b:(CC s.data.toList==0)=true): ZJ s.data.toList=(dy (pz (QN s (Xr s.data.toList)).data.toList) 0,0,0):=by
 obtain⟨a,c⟩:=cT h;rw[c];rw[VX]at a ⊢;unfold ZJ;rw[a,if_pos (zT b)]
theorem lw3(h:(pE (QN s (Xr s.data.toList)).data.toList != 0)=false)(c:(CC s.data.toList==0)=false)(d:(pE (QY s (Xr s.data.toList+1)).data.toList != 0)=true): ZJ s.data.toList=(0,(Xr s.data.toList:Int)+1+pI (QY s (Xr s.data.toList+1)).data.toList,pE (QY s (Xr s.data.toList+1)).data.toList):=by
 obtain⟨a,_⟩:=cT h;obtain⟨e,i,b,f⟩:=sF d;rw[e,f];rw[VX]at a;rw[Az]at b;unfold ZJ;rw[a,if_neg (tw c),b]
theorem bZ(h:(pE (QN s (Xr s.data.toList)).data.toList != 0)=false)(c:(CC s.data.toList==0)=false)(d:(pE (QY s (Xr s.data.toList+1)).data.toList != 0)=false): ZJ s.data.toList=if CC s.data.toList=47 then(if dm (dy (pz (QY s (Xr s.data.toList+1)).data.toList) 0)=1 then(dy (pz (QN s (Xr s.data.toList)).data.toList) (-de (dy (pz (QY s (Xr s.data.toList+1)).data.toList) 0)),0,0)else(0,0,1))
  else if -32768<=pz (QY s (Xr s.data.toList+1)).data.toList/\pz (QY s (Xr s.data.toList+1)).data.toList<=32768 then(dy (pz (QN s (Xr s.data.toList)).data.toList) (pz (QY s (Xr s.data.toList+1)).data.toList),0,0)else(0,0,3):=by
 obtain⟨a,e⟩:=cT h;obtain⟨b,f⟩:=cT d;rw[e,f];rw[VX]at a ⊢;rw[Az]at b ⊢
 conv=>lhs;unfold ZJ
 rw[a,if_neg (tw c),b]
theorem lw4(h:(pE (QN s (Xr s.data.toList)).data.toList != 0)=false)(a:(CC s.data.toList==0)=false)(b:(pE (QY s (Xr s.data.toList+1)).data.toList != 0)=false)(c:(CC s.data.toList==47)=true)(d:decide (dm (dy (pz (QY s (Xr s.data.toList+1)).data.toList) 0)=1)=true): ZJ s.data.toList=(dy (pz (QN s (Xr s.data.toList)).data.toList) (-de (dy (pz (QY s (Xr s.data.toList+1)).data.toList) 0)),0,0):=by
 rw[bZ h a b,if_pos (zT c),if_pos (L1 d)]
theorem lw5(h:(pE (QN s (Xr s.data.toList)).data.toList != 0)=false)(a:(CC s.data.toList==0)=false)(b:(pE (QY s (Xr s.data.toList+1)).data.toList != 0)=false)(c:(CC s.data.toList==47)=true)(d:decide (dm (dy (pz (QY s (Xr s.data.toList+1)).data.toList) 0)=1)=false): ZJ s.data.toList=(0,0,1):=by
 rw[bZ h a b,if_pos (zT c),if_neg (L7 d)]
theorem sP{z:Int}(a:nl z=true): Np z=z:=by
 unfold nl at a;unfold Np;rw[if_pos (L1 a)]
theorem lw6(h:(pE (QN s (Xr s.data.toList)).data.toList != 0)=false)(c:(CC s.data.toList==0)=false)(d:(pE (QY s (Xr s.data.toList+1)).data.toList != 0)=false)(e:(CC s.data.toList==47)=false)(f:nl (pz (QY s (Xr s.data.toList+1)).data.toList)=true)(a:decide ((Np (pz (QY s (Xr s.data.toList+1)).data.toList))>32768)=false)(b:decide ((Np (pz (QY s (Xr s.data.toList+1)).data.toList))<(-32768))=false): ZJ s.data.toList=(dy (pz (QN s (Xr s.data.toList)).data.toList) (Np (pz (QY s (Xr s.data.toList+1)).data.toList)),0,0):=by
 rw[sP f]at a b ⊢;have:=L7 a;have:=L7 b;rw[bZ h c d,if_neg (tw e),if_pos x3]
theorem lw7(h:(pE (QN s (Xr s.data.toList)).data.toList != 0)=false)(c:(CC s.data.toList==0)=false)(d:(pE (QY s (Xr s.data.toList+1)).data.toList != 0)=false)(e:(CC s.data.toList==47)=false)(a:nl (pz (QY s (Xr s.data.toList+1)).data.toList)=false\/Np (pz (QY s (Xr s.data.toList+1)).data.toList)>32768\/Np (pz (QY s (Xr s.data.toList+1)).data.toList) < -32768): ZJ s.data.toList=(0,0,3):=by
 rw[bZ h c d,if_neg (tw e),if_neg ?_];intro f;have b:nl (pz (QY s (Xr s.data.toList+1)).data.toList)=true:=Lz x3;rw[b,sP b]at a;rcases a with a|a|a
 ·cases a
 ·omega
 ·omega
theorem QaP{z:Int}(a:decide ((Np z)>32768)=false)(b:decide ((Np z)<(-32768))=false): -1000000<=Np z/\Np z<=1000000:=by
 have:=L7 a;have:=L7 b;omega
end
theorem p8{z:Int}(b:Zq z<=65536)(w:y9)(a:Q0 w): RetAt prog w 210 #[vI z] (.tuple #[Θ (de (dy z 0)),Ξ (decide ((dm (dy z 0))=1))]) :=
 rk [.o 1 1 (.ret (.val (vN (dy z 0)))),.reg 8 [],.o 2 4 (.ret (.val (vI (1)))),.o 2 5 (.set (Ξ (decide ((dm (dy z 0))=1))))] λW c d=>(λ(a:Q0 W)=>JH (rt a call90 λW h=>bO z 0 W b x4 h) (rc W call165 λW=>Dv 1 W x4 x4) (ut W (.tmp 10) (.tmp 11) (dm (dy z 0)) 1)<|d) (Ql a c)
theorem jU{s:u4}(j:s.size<=60000)(w:y9)(d:Q0 w): RetAt prog w 154 #[Ψ s] (Fd s.data.toList) :=
 rk [.o 1 1 (.ret (.tup [.val (.int .i32 (CC s.data.toList)),iV (Xr s.data.toList:Int)])),.o 2 2 (.set (Ψ (QN s (Xr s.data.toList)))),.o 2 3 (.ret (.tup [.val (vI (pz (QN s (Xr s.data.toList)).data.toList)),iV (pI (QN s (Xr s.data.toList)).data.toList),iV (pE (QN s (Xr s.data.toList)).data.toList)])),.both [] [.both [.o 6 1 (.ret (.val (vN (dy (pz (QN s (Xr s.data.toList)).data.toList) 0))))] [.o 7 2 (.eq (iV ((Xr s.data.toList+1:Nat):Int))),.o 7 3 (.set (Ψ (QY s (Xr s.data.toList+1)))),.o 7 4 (.ret (.tup [.val (vI (pz (QY s (Xr s.data.toList+1)).data.toList)),iV (pI (QY s (Xr s.data.toList+1)).data.toList),iV (pE (QY s (Xr s.data.toList+1)).data.toList)])),.both [.o 9 2 (.eq (iV ((Xr s.data.toList+1:Nat):Int))),.o 9 4 (.eq (iV ((Xr s.data.toList:Int)+1+pI (QY s (Xr s.data.toList+1)).data.toList)))] [.both [.o 11 1 (.ret (.tup [iV (de (dy (pz (QY s (Xr s.data.toList+1)).data.toList) 0)),bV (decide ((dm (dy (pz (QY s (Xr s.data.toList+1)).data.toList) 0))=1))])),.both [] [.o 14 2 (.eq (iV (-de (dy (pz (QY s (Xr s.data.toList+1)).data.toList) 0)))),.o 14 3 (.ret (.val (vN (dy (pz (QN s (Xr s.data.toList)).data.toList) (-de (dy (pz (QY s (Xr s.data.toList+1)).data.toList) 0))))))]] [.o 15 1 (.ret (.tup [iV (Np (pz (QY s (Xr s.data.toList+1)).data.toList)),bV (nl (pz (QY s (Xr s.data.toList+1)).data.toList))])),.gb 16 3 [.gb 16 7 [.both [] [.o 18 2 (.ret (.val (vN (dy (pz (QN s (Xr s.data.toList)).data.toList) (Np (pz (QY s (Xr s.data.toList+1)).data.toList))))))]] []] []]]]]] λW k l=>(λ(d:Q0 W)=>JH (rc W call208 λW=>lF s W x3) (CI W s (Xr s.data.toList) (OM s)) (rc W call209 λW=>bc (QN s (Xr s.data.toList)) W (y6 (IQ s (Xr s.data.toList))))<|XA ((pE (QN s (Xr s.data.toList)).data.toList) != 0) (λh=>(show(.tuple #[rN false ⟨#[]⟩ 0,Θ (pI (QN s (Xr s.data.toList)).data.toList),Θ (pE (QN s (Xr s.data.toList)).data.toList)]:z0)=Fd s.data.toList from Vm (lw1 h))) λh=>XA ((CC s.data.toList)==0) (λa=>ai (rt d call90 λW h=>bO (pz (QN s (Xr s.data.toList)).data.toList) 0 W (L9 (AF (OW s (Xr s.data.toList))) x3) x4 h)<|(show(.tuple #[vN (dy (pz (QN s (Xr s.data.toList)).data.toList) 0),Θ 0,Θ 0]:z0)=Fd s.data.toList from Vm (lw2 h a))) λa=>JH (show IntKind.i64.wrap ((Xr s.data.toList:Int)+1)=((Xr s.data.toList+1:Nat):Int)from kI1 x3) (SW W s (Xr s.data.toList+1) (zg a)) (rc W call209 λW=>bc (QY s (Xr s.data.toList+1)) W (y6 (Hf s (Xr s.data.toList+1))))<|XA ((pE (QY s (Xr s.data.toList+1)).data.toList) != 0) (λb=>X7 (show IntKind.i64.wrap ((Xr s.data.toList:Int)+1)=((Xr s.data.toList+1:Nat):Int)from kI1 x3) (show IntKind.i64.wrap (((Xr s.data.toList+1:Nat):Int)+pI (QY s (Xr s.data.toList+1)).data.toList)=(Xr s.data.toList:Int)+1+pI (QY s (Xr s.data.toList+1)).data.toList from kI2 x3)<|(show(.tuple #[rN false ⟨#[]⟩ 0,Θ ((Xr s.data.toList:Int)+1+pI (QY s (Xr s.data.toList+1)).data.toList),Θ (pE (QY s (Xr s.data.toList+1)).data.toList)]:z0)=Fd s.data.toList from Vm (lw3 h a b))) λb=>XA ((CC s.data.toList)==47) (λc=>ai (rt d call210 λW h=>(p8 (z:=pz (QY s (Xr s.data.toList+1)).data.toList) (L9 (AF (He s (Xr s.data.toList+1))) x3) W h).at)<|XA (!(decide ((dm (dy (pz (QY s (Xr s.data.toList+1)).data.toList) 0))=1))) (λg=>(show(.tuple #[rN false ⟨#[]⟩ 0,Θ 0,Θ 1]:z0)=Fd s.data.toList from Vm (lw5 h a b c (y8 g)))) λg=>X7 (nde (AF (He s (Xr s.data.toList+1))) j) (rt d call90 λW h=>bO (pz (QN s (Xr s.data.toList)).data.toList) (-de (dy (pz (QY s (Xr s.data.toList+1)).data.toList) 0)) W (L9 (AF (OW s (Xr s.data.toList))) x3) (tV (AF (He s (Xr s.data.toList+1))) j) h)<|(show(.tuple #[vN (dy (pz (QN s (Xr s.data.toList)).data.toList) (-de (dy (pz (QY s (Xr s.data.toList+1)).data.toList) 0))),Θ 0,Θ 0]:z0)=Fd s.data.toList from Vm (lw4 h a b c (y8 g)))) λc=>ai (rc W call192 λW=>rJ (pz (QY s (Xr s.data.toList+1)).data.toList) W (L9 (AF (He s (Xr s.data.toList+1))) x3))<|ZG (!(nl (pz (QY s (Xr s.data.toList+1)).data.toList))) false (λi=>ZG (decide ((Np (pz (QY s (Xr s.data.toList+1)).data.toList))>32768)) false (λe=>XA (decide ((Np (pz (QY s (Xr s.data.toList+1)).data.toList))<(-32768))) (λf=>(show(.tuple #[rN false ⟨#[]⟩ 0,Θ 0,Θ 3]:z0)=Fd s.data.toList from Vm (lw7 h a b c (.inr (.inr (L1 f)))))) λf=>ai (rt d call90 λW h=>bO (pz (QN s (Xr s.data.toList)).data.toList) (Np (pz (QY s (Xr s.data.toList+1)).data.toList)) W (L9 (AF (OW s (Xr s.data.toList))) x3) (QaP e f) h)<|(show(.tuple #[vN (dy (pz (QN s (Xr s.data.toList)).data.toList) (Np (pz (QY s (Xr s.data.toList+1)).data.toList))),Θ 0,Θ 0]:z0)=Fd s.data.toList from Vm (lw6 h a b c (y8 i) e f))) λe=>(show(.tuple #[rN false ⟨#[]⟩ 0,Θ 0,Θ 3]:z0)=Fd s.data.toList from Vm (lw7 h a b c (.inr (.inl (L1 e)))))) λi=>(show(.tuple #[rN false ⟨#[]⟩ 0,Θ 0,Θ 3]:z0)=Fd s.data.toList from Vm (lw7 h a b c (.inl (y8 i))))) (Ql d k)
theorem bC{α β:Type}{f:α->List β}{l:List α}{M:Nat}(h:∀x,x∈l->(f x).length<=M): (l.flatMap f).length<=l.length*M:=by
 induction l with
 | nil=>simp
 | cons x l a =>
  rw[Tl,Lq,Rc,Rm];have:=a λy b=>h y (by simp[b])
  have:=h x x6;omega
theorem Wp{α β:Type}{f:α->List β}{l:List α}{M:Nat}(k:Nat)(h:∀x,x∈l->(f x).length<=M): ((l.take k).flatMap f).length<=l.length*M :=
 L9 (bC λx a=>h x (List.mem_of_mem_take a)) (Lo _ x7)
def Qo(ν ε:Nm)(bx:List (Nm×Nm))(κ:List (List Nm))(ct:List Nd): List Nm:=(([ν,ε]++bx.flatMap λs=>[s.1,s.2])++κ.flatMap λp=>p)++ct.flatMap λn=>[n.ο]
structure okL0 (bx:List (Nm×Nm)) (κ:List (List Nm)) (ct:List Nd):Prop where
 hb:bx.length<=1048576
 hs:κ.length<=1048576
 hp:∀p,p∈κ->p.length<=1048576
 hc:ct.length<=1048576
section
variable {ν ε:Nm} {bx:List (Nm×Nm)} {κ:List (List Nm)} {ct:List Nd}
theorem vj(h:okL0 bx κ ct)(k:Nat): ([ν,ε]++(bx.take k).flatMap λs=>[s.1,s.2]).length*32<=140737488355328:=by
 have a:=Wp (f:=λs:Nm×Nm=>[s.1,s.2]) (M:=2) k (λ(x:Nm×Nm) (_:x∈bx)=>L8 _);have:=h.hb;rw[Lq];simp only[Rc,Sl];omega
theorem vk(h:okL0 bx κ ct)(k:Nat): (([ν,ε]++bx.flatMap λs=>[s.1,s.2])++(κ.take k).flatMap λp=>p).length*32<=140737488355328:=by
 have a:=bC (f:=λs:Nm×Nm=>[s.1,s.2]) (M:=2) (λ(x:Nm×Nm) (_:x∈bx)=>L8 _);have b:=Wp (f:=λp:List Nm=>p) (M:=1048576) k h.hp;have:=h.hb;have c:=h.hs;rw[Lq,Lq];simp only[Rc,Sl];omega
theorem kJ(h:okL0 bx κ ct)(k:Nat): ((([ν,ε]++bx.flatMap λs=>[s.1,s.2])++κ.flatMap λp=>p)++(ct.take k).flatMap λn=>[n.ο]).length*32<=140737488355328:=by
 have a:=bC (f:=λs:Nm×Nm=>[s.1,s.2]) (M:=2) (λ(x:Nm×Nm) (_:x∈bx)=>L8 _);have b:=bC (f:=λp:List Nm=>p) (M:=1048576) h.hp;have c:=Wp (f:=λn:Nd=>[n.ο]) (M:=1) k (λ(x:Nd) (_:x∈ct)=>L8 _);have:=h.hb;have d:=h.hs;have:=h.hc;rw[Lq,Lq,Lq];simp only[Rc,Sl];omega
end
theorem tq{α:Type}{a k:Nat}{c:α->a8}(b:∀x,(c x).length=k)(e:0<k)(d:α){w:y9}{l:List α}{v:z0}(h:SlV a k (λ_ x cs=>cs=c x) w l v): NA c l w v:=by
 obtain⟨A,i,rfl,j,f,g⟩:=h.enc d;exact G4 b e (d:=d) g f
def E7(o i:Bool)(nb:Nat)(t b:Int): Int:=bif !o then 1 else bif !i then 3 else bif (nb:Int)==0 then t else b
theorem nM(o i:Bool)(t:Int){e:u5}{f:Nat}{g k l m:z0}(x:PV)(p:x.box.length<=4294967296)(hok:∀s,s∈x.box->okN s.1/\okN s.2)(w:y9)(n:Q0 w)(q:RdK w e x.box.length 6 (λj=>Jw (Xc x.box j)))(r:∀W,Below w.heap.size w W->RetAt prog W 25 #[yA x (Ω e x.box.length f) g k l m] (Ξ o))(u:∀W,Below w.heap.size w W->(!o)=false->RetAt prog W 26 #[yA x (Ω e x.box.length f) g k l m] (Ξ i))(v:∀W,Below w.heap.size w W->(!o)=false->(!i)=false->((x.box.length:Int)==0)=true->RetAt prog W 27 #[g] (Θ t)): RetAt prog w 10 #[yA x (Ω e x.box.length f) g k l m] (Θ (E7 o i x.box.length t (KM x.box))) :=
 rk [.o 1 1 (.ret (bV o)),.both [] [.o 3 1 (.ret (bV i)),.both [] [.both [.o 6 3 (.ret (iV t))] [.o 7 3 (.ret (iV (KM x.box)))]]]] λW b z=>have y:=q.up b (λ_=>rfl);(λ(n:Q0 W)=>ai (r W b)<|XA (!o) (λa=>(show(Θ 1:z0)=Θ (E7 o i x.box.length t (KM x.box))from by unfold E7;rw[a];rfl)) λa=>ai (u W b a)<|XA (!i) (λd=>(show(Θ 3:z0)=Θ (E7 o i x.box.length t (KM x.box))from by unfold E7;rw[a,d];rfl)) λd=>XA ((x.box.length:Int)==0) (λh=>ai (v W b a d h)<|(show(Θ t:z0)=Θ (E7 o i x.box.length t (KM x.box))from by unfold E7;rw[a,d,h];rfl)) λh=>ai (tr (c:=f) p hok W n y)<|(show(Θ (KM x.box):z0)=Θ (E7 o i x.box.length t (KM x.box))from by unfold E7;rw[a,d,h];rfl)) (Ql n b)
theorem Po{a b:u4}: (a.toList==b.toList)=true↔a=b:=by
 rw[Sv,Rp,Rp];exact⟨λh=>ByteArray.ext (y8 h),λh=>by rw[h]⟩
theorem BN{x y:Nm}: AM x y=true↔x=y:=by
 obtain⟨a,s,e⟩:=x;obtain⟨b,t,f⟩:=y;unfold AM;rw[Lu,Lu,Po,Sv,Sv,Nm.mk.injEq];exact⟨λh=>⟨h.1.1,h.1.2,h.2⟩,λh=>⟨⟨h.1,h.2.1⟩,h.2.2⟩⟩
theorem rm{x y:Tm}: av x y=true↔x=y:=by
 obtain⟨m,c⟩:=x;obtain⟨n,d⟩:=y;unfold av;rw[Lu,Po,BN,Tm.mk.injEq]
theorem qJ{x y:Nm×Nm}: am x y=true↔x=y:=by
 obtain⟨a,b⟩:=x;obtain⟨c,d⟩:=y;unfold am;rw[Lu,BN,BN,Prod.mk.injEq]
theorem Bs{α:Type}{d:α}{E:α->α->Bool}(e:∀x y,E x y=true↔x=y){l a:List α}: I4 l.length a.length (λj=>E (l.getD j d) (a.getD j d))=true↔l=a:=by
 constructor
 ·intro h;unfold I4 at h;cases c:(l.length:Int) != (a.length:Int)with
  | true=>rw[c]at h;cases h
  | false =>
   rw[c]at h;have b:l.length=a.length:=by
    have r:(l.length:Int)=(a.length:Int):=y8 c;omega
   have g:Ye l.length (λj=>!E (l.getD j d) (a.getD j d))=false:=y8 h;refine List.ext_getElem b λj i o=>?_
   by_cases m:E (l.getD j d) (a.getD j d)=true
   ·have p:=(e _ _).1 m;rwa [ZP i,ZP o]at p
   ·have q:=KK (n:=l.length) (k:=j) (f:=λj=>!E (l.getD j d) (a.getD j d)) i (y8 m);rw[q]at g;cases g
 ·rintro rfl;unfold I4;rw[show((l.length:Int) != (l.length:Int))=false by simp,J2 λj _=>(show(!E (l.getD j d) (l.getD j d))=false by rw[(e _ _).2 rfl];rfl)];rfl
theorem rv{l a:List Tm}: z7 l a=true↔l=a:=Bs (d:=DL) λ_ _=>rm
theorem qi{l a:List Nm}: fQ l a=true↔l=a:=Bs (d:=nm0) λ_ _=>BN
theorem nF{l a:List (Nm×Nm)}: gH l a=true↔l=a:=Bs (d:=(nm0,nm0)) λ_ _=>qJ
theorem dj{x y:Py}: O2 x y=true↔x=y:=by
 obtain⟨v,t⟩:=x;obtain⟨u,s⟩:=y;unfold O2;rw[Lu,Sv,rv,Py.mk.injEq]
theorem pb{x y:Nd}: Uw x y=true↔x=y:=by
 obtain⟨v,t,p⟩:=x;obtain⟨u,s,q⟩:=y;unfold Uw;rw[Lu,Lu,Sv,BN,dj,Nd.mk.injEq,and_assoc]
theorem qg{l a:List Py}: qf l a=true↔l=a:=Bs (d:=di) λ_ _=>dj
theorem kW{l a:List (List Nm)}: Mf l a=true↔l=a:=Bs (d:=[]) λ_ _=>qi
theorem ki{l a:List Nd}: fH l a=true↔l=a:=Bs (d:=ndD) λ_ _=>pb
theorem sameB_iff{x y:PV}: Kg x y=true↔x=y:=by
 obtain⟨m,n,o,p,q,r,s,t,u,k⟩:=x;obtain⟨b1,b2,b3,b4,v,w,z,A,B,l⟩:=y;unfold Kg;simp only[Lu,Sv,BN,nF,kW,qg,ki,PV.mk.injEq];constructor
 ·rintro⟨⟨⟨⟨⟨⟨⟨⟨b,c⟩,d⟩,e⟩,f⟩,g,h⟩,i⟩,j⟩,a⟩;exact⟨b,c,g,h,i,j,d,e,f,a⟩
 ·rintro⟨b,c,g,h,i,j,d,e,f,a⟩;exact⟨⟨⟨⟨⟨⟨⟨⟨b,c⟩,d⟩,e⟩,f⟩,g,h⟩,i⟩,j⟩,a⟩
open Go.WideShapes Go.ChangeShapes
section
variable {H:Type} {enc:TypeId×Value->H} {P:Program}
theorem Me(pa pv:List MemPlace){f:Func}{s:ChangeSpec}{c fresh d m:Bool}{W o:y9}{args:b7}{v:z0}{q u:List (DataW H)}{a:List MemPlace}(y:DataW.Whole enc P f.params.toList s.vars c W args.toList q u a)(k:∀(b:Nat) (n:Nat->Bool) (A:Bool),DataW.TrodAll enc P o b n A f.resultTypes.toList (v.resultList f.resultTypes.size) (s.fn H (q++u)).results [])(e:∀n:Nat->Bool,(∀p∈a,n p.block=true)->DataW.TrodAll enc P o 0 n true f.params.toList args.toList (s.fn H (q++u)).args pa)(g:∀n:Nat->Bool,(∀p∈a,n p.block=true)->DataW.TrodVars enc P o n s.vars (s.fn H (q++u)).vars pv)(i:a=pa++pv)(z:Below W.heap.size W o)(hok:∀(j:Nat) (t:u6) (r:z0),f.resultTypes[j]?=some t->(v.resultList f.resultTypes.size)[j]?=some r->Value.okWide P o .any 0 t r):
  s.post enc P f c fresh d m W args v o:=by
 have w:∀p∈a,p.block<W.heap.size:=λp h=>y.lt p h
 have l:∀p∈a,(λb=>decide (b<W.heap.size)) p.block=true:=λp h=>by simpa using w p h
 refine⟨q,u,a,[],pa,pv,y,k _ _ _,e _ l,g _ l,World.keptBut_mono (λp h=>⟨h,?_⟩) (z.frame (·∈a)),λ_=>?_⟩
 ·rw[i,Rs]at h;exact Or.inr h
 ·obtain⟨_,_,_,_,_,B,C⟩:=y;refine⟨hok,_,_,([]++pa)++pv,⟨[]++pa,pv,trodAll_append (e _ (λ_ _=>rfl)) (k _ _ _),g _ (λ_ _=>rfl),rfl,?_,?_⟩,?_⟩
  ·intro b off h;have x:MemPlace.cell b off∈a:=by rw[i];simpa using h
   rw[z.frozen (w _ x)];exact B b off x
  ·intro D;have:=C D;rw[i]at this;simpa using this
  ·intro p h _;rw[i];simpa using h
end
section
variable {H:Type} {enc:TypeId×Value->H} {P:Program}
theorem At(j:laidOutB P=true){W k:y9}(l:Below W.heap.size W k){m:Nat->Bool}: ∀ {ts:List u6} {f:a8} {g:List (DataW H)} {b:List MemPlace},(∀t∈ts,P.readableRec t=true/\t<P.types.size) ->
  DataW.TrodAll enc P W 0 (λ_=>true) true ts f g b->(∀x∈b,x.block<W.heap.size)->(∀x∈b,m x.block=true)->DataW.TrodAll enc P k 0 m true ts f g b
 | [],[],[],_,_,h,_,_=>h
 | t::ts,v::f,d::g,b,i,⟨p,q,n,o,r⟩,c,e=>by
  subst r;exact⟨p,q,WideElems.Trod_stays j (i t x6).1 (i t x6).2 n (λx a=>l.same (c x (by simp[a]))) (λx a=>e x (by simp[a])),
   At j l (λu s=>i u (by simp[s])) o (λx a=>c x (by simp[a])) (λx a=>e x (by simp[a])),rfl⟩
 | [],_::_,_,_,_,h,_,_=>by simp[DataW.TrodAll]at h
 | _::_,[],_,_,_,h,_,_=>by simp[DataW.TrodAll]at h
 | [],[],_::_,_,_,h,_,_=>by simp[DataW.TrodAll]at h
 | _::_,_::_,[],_,_,h,_,_=>by simp[DataW.TrodAll]at h
theorem wU{f:Func}{s:ChangeSpec}{c fresh d e:Bool}{W r:y9}{args:b7}{g:List (DataW H)}{a:List MemPlace}{tb:u6}(y:laidOutB P=true)(k:(f.params.toList.all λt=>P.readableRec t&&decide (t<P.types.size))=true)(u:f.resultTypes=#[tb])(h:P.underlying tb=some .bool)(i:s.vars=[])(l:DataW.Whole enc P f.params.toList s.vars c W args.toList g [] a)(z:(s.fn H (g++[])).results=[.lit (.bool true)])(A:(s.fn H (g++[])).args=g)(B:(s.fn H (g++[])).vars=[])(v:Below W.heap.size W r):
  s.post enc P f c fresh d e W args (.bool true) r:=by
 have m:∀p∈a,p.block<W.heap.size:=λp k=>l.lt p k
 obtain⟨p,q,C,w,j,_,_⟩:=id l;have D:q=[]:=by rw[i]at w;exact w
 subst D;rw[Tc]at j;subst j;have n:∀t∈f.params.toList,P.readableRec t=true/\t<P.types.size:=λt n=>by simpa using Lc.1 k t n
 refine Me a ([]) l (λb x E=>?_) (λx o=>?_) (λx _=>?_) x6 v (ok_one u rfl (okWide_bool_mk h true))
 ·rw[u,z];exact trodAll_mk1 (shut_bool h _)
 ·rw[A];exact At y v n C m o
 ·rw[i,B];rfl
end
