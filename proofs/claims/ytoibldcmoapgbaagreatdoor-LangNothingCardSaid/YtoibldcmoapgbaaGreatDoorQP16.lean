/- Laws beneath the statement. -/
import Derived.Test.YtoibldcmoapgbaaGreatDoorQP11
import Derived.Test.YtoibldcmoapgbaaGreatDoorQP13
import Derived.Test.YtoibldcmoapgbaaGreatDoorQP8
namespace Go.Proofs.YtoibldcmoapgbaaGreatDoor
open Tryz
set_option maxHeartbeats 4000000
set_option maxRecDepth 100000
open Go
def tt:List (Nat×TI):=[(32,⟨3,[.bool false,.string ⟨#[]⟩,.int .i64 0],.struct [(0,2,some true),(2,1,some false)]⟩),(76,⟨6,[.bool false,.string ⟨#[]⟩,.int .i64 0,.bool false,.string ⟨#[]⟩,.int .i64 0],.struct [(0,3,some true),(3,3,some true)]⟩),(30,⟨2,[.bool false,.string ⟨#[]⟩],.struct [(0,1,some false),(1,1,some false)]⟩),(3,⟨1,[.int .i64 0],.int .i64⟩),(2,⟨1,[.int .i64 0],.int .i64⟩),(4,⟨1,[.bool false],.bool⟩),(9,⟨1,[.string ⟨#[]⟩],.str⟩),(48,⟨1,[.slice none 0 0],.slice 32 3 (some true)⟩),(5,⟨1,[.int .u8 0],.int .u8⟩),(22,⟨1,[.slice none 0 0],.slice 76 6 (some true)⟩),(171,⟨5,[.int .i64 0,.bool false,.string ⟨#[]⟩,.bool false,.string ⟨#[]⟩],.struct [(0,1,some false),(1,2,some true),(3,2,some true)]⟩),(237,⟨2,[.string ⟨#[]⟩,.bool false],.struct [(0,1,some false),(1,1,some false)]⟩),(235,⟨1,[.string ⟨#[]⟩],.str⟩),(206,⟨1,[.int .u64 0],.int .u64⟩),(93,⟨1,[.slice none 0 0],.slice 9 1 (some false)⟩),(21,⟨1,[.int .i32 0],.int .i32⟩),(82,⟨1,[.slice none 0 0],.slice 5 1 (some false)⟩),(38,⟨1,[.int .i64 0],.int .i64⟩),(280,⟨1,[.tuple { toList:=[.agg { toList:=[.bool false,.string ⟨#[]⟩] },.int .i64 0,.int .i64 0] }],.other⟩),(225,⟨1,[.tuple { toList:=[.agg { toList:=[.bool false,.string ⟨#[]⟩,.int .i64 0] },.int .i64 0,.int .i64 0] }],.other⟩),(309,⟨1,[.tuple { toList:=[.string ⟨#[]⟩,.bool false] }],.other⟩),(242,⟨1,[.slice none 0 0],.slice 30 2 (some true)⟩),(166,⟨1,[.slice none 0 0],.slice 48 1 (some false)⟩),(195,⟨1,[.slice none 0 0],.slice 242 1 (some false)⟩),(211,⟨1,[.tuple { toList:=[.string ⟨#[]⟩,.string ⟨#[]⟩,.bool false] }],.other⟩),(35,⟨14,[.int .i64 0,.int .i64 0,.slice none 0 0,.slice none 0 0,.slice none 0 0,.slice none 0 0,.bool false,.string ⟨#[]⟩,.int .i64 0,.bool false,.string ⟨#[]⟩,.int .i64 0,.int .i64 0,.slice none 0 0],.struct [(0,1,some false),(1,1,some false),(2,2,some true),(4,1,some false),(5,1,some false),(6,3,some true),(9,3,some true),(12,1,some false),(13,1,some false)]⟩),(27,⟨2,[.slice none 0 0,.slice none 0 0],.struct [(0,1,some false),(1,1,some false)]⟩),(52,⟨2,[.int .i64 0,.slice none 0 0],.struct [(0,1,some false),(1,1,some false)]⟩),(56,⟨4,[.string ⟨#[]⟩,.bool false,.string ⟨#[]⟩,.int .i64 0],.struct [(0,1,some false),(1,3,some true)]⟩),(54,⟨6,[.int .i64 0,.bool false,.string ⟨#[]⟩,.int .i64 0,.int .i64 0,.slice none 0 0],.struct [(0,1,some false),(1,3,some true),(4,2,some true)]⟩),(23,⟨1,[.slice none 0 0],.slice 76 6 (some true)⟩),(25,⟨1,[.slice none 0 0],.slice 57 1 (some false)⟩),(57,⟨1,[.slice none 0 0],.slice 32 3 (some true)⟩),(28,⟨1,[.slice none 0 0],.slice 52 2 (some true)⟩),(33,⟨1,[.slice none 0 0],.slice 54 6 (some true)⟩),(50,⟨1,[.slice none 0 0],.slice 56 4 (some true)⟩),(108,⟨3,[.bool false,.bool false,.bool false],.struct [(0,1,some false),(1,1,some false),(2,1,some false)]⟩),(110,⟨5,[.bool false,.bool false,.bool false,.int .i64 0,.bool false],.struct [(0,3,some true),(3,1,some false),(4,1,some false)]⟩),(111,⟨35,[.bool false,.bool false,.bool false,.int .i64 0,.bool false,.bool false,.bool false,.bool false,.int .i64 0,.bool false,.bool false,.bool false,.bool false,.int .i64 0,.bool false,.bool false,.bool false,.bool false,.int .i64 0,.bool false,.bool false,.bool false,.bool false,.int .i64 0,.bool false,.bool false,.bool false,.bool false,.int .i64 0,.bool false,.bool false,.bool false,.bool false,.int .i64 0,.bool false],.array 7 110 5 (some true)⟩),(231,⟨1,[.slice none 0 0],.slice 3 1 (some false)⟩),(192,⟨1,[.slice none 0 0],.slice 28 1 (some false)⟩),(169,⟨1,[.int .i64 0],.int .i64⟩),(63,⟨1,[.slice none 0 0],.slice 102 2 (some true)⟩),(67,⟨4,[.slice none 0 0,.slice none 0 0,.int .i64 0,.int .i64 0],.struct [(0,1,some false),(1,2,some true),(3,1,some false)]⟩),(65,⟨2,[.slice none 0 0,.int .i64 0],.struct [(0,1,some false),(1,1,some false)]⟩),(102,⟨2,[.string ⟨#[]⟩,.int .i64 0],.struct [(0,1,some false),(1,1,some false)]⟩),(61,⟨1,[.slice none 0 0],.slice 65 2 (some true)⟩),(69,⟨19,[.slice none 0 0,.slice none 0 0,.int .i64 0,.int .i64 0,.int .i64 0,.int .i64 0,.slice none 0 0,.slice none 0 0,.slice none 0 0,.slice none 0 0,.bool false,.string ⟨#[]⟩,.int .i64 0,.bool false,.string ⟨#[]⟩,.int .i64 0,.int .i64 0,.slice none 0 0,.bool false],.struct [(0,4,some true),(4,14,some true),(18,1,some false)]⟩),(89,⟨7,[.string ⟨#[]⟩,.string ⟨#[]⟩,.string ⟨#[]⟩,.string ⟨#[]⟩,.string ⟨#[]⟩,.string ⟨#[]⟩,.string ⟨#[]⟩],.array 7 9 1 (some false)⟩),(87,⟨2,[.pointer none,.slice none 0 0],.struct [(0,2,some true)]⟩),(85,⟨2,[.pointer none,.slice none 0 0],.struct [(0,1,some false),(1,1,some false)]⟩)]
theorem Qu:YF prog tt:=s9 x5
theorem QR:prog.follows .mixedOrders=true:=x5
open Go.RowKit
def vI(m:Int): z0:=.agg #[.bool (neg m),.string (Qx m)]
def vN(x:Dyadic): z0:=.agg #[.bool (neg (dm x)),.string (Qx (dm x)),.int .i64 (de x)]
def rN(b:Bool)(s:u4)(e:Int): z0:=.agg #[.bool b,.string s,.int .i64 e]
abbrev Q0(w:y9): Prop:=TabAt 4 Lib.deBruijn64tab w
theorem rt{w0:y9}{f:FuncId}{args:b7}{R:z0}(a:Q0 w0)(b:XB prog f)(h:∀W,Q0 W->b9 prog f args W R): RetAt prog w0 f args R:=⟨b,λW d=>h W (Ql a d)⟩
theorem rg1{w0:y9}{f:FuncId}{t:u6}{cs:b7}{args:Nat->b7}{R:z0}(b:Q0 w0)(c:XB prog f)(h:∀W g,Q0 W->Bx W g t cs->b9 prog f (args g) W R): XB prog f/\∀W,Below w0.heap.size w0 W->∀g,Bx W g t cs->b9 prog f (args g) W R:=⟨c,λW d g i=>h W g (Ql b d) i⟩
theorem rb{w0:y9}{f:FuncId}{g:Nat}{t:u6}{cs args:b7}{R:z0}(b:Q0 w0)(c:Bx w0 g t cs)(d:XB prog f)(h:∀W,Q0 W->Bx W g t cs->b9 prog f args W R): RetAt prog w0 f args R:=⟨d,λW a=>h W (Ql b a) (c.later a)⟩
theorem cJ(W:World)(x y:Operand)(a b:Bool)(s t:ByteArray)(e f:Int): Qn prog W (do eqGuard .eql 32 x y (rN a s e) (rN b t f);binOp .eql 32 (rN a s e) (rN b t f)) (.bool ((a==b&&s.toList==t.toList)&&e==f)):=λi _=>by
 unfold rN;simp[go_sem];by_cases c:a=b<;>by_cases d:s.toList=t.toList<;>by_cases g:e=f<;>simp[c,d,g]
theorem Dh(W:World)(x y:Operand)(a b:Bool)(s t:ByteArray)(e f:Int): Qn prog W (do eqGuard .neq 32 x y (rN a s e) (rN b t f);binOp .neq 32 (rN a s e) (rN b t f)) (.bool (!((a==b&&s.toList==t.toList)&&e==f))):=λi _=>by
 unfold rN;simp[go_sem];by_cases c:a=b<;>by_cases d:s.toList=t.toList<;>by_cases g:e=f<;>simp[c,d,g]
theorem WJ(W:y9)(x y:b8)(a:Bool)(s:u4)(e:Int)(h:¬ s.toList=[]): Qn prog W (do eqGuard .eql 32 x y (rN a s e) (rN false ⟨#[]⟩ 0);binOp .eql 32 (rN a s e) (rN false ⟨#[]⟩ 0)) (.bool false):=by
 have c:=cJ W x y a false s ⟨#[]⟩ e 0;have k:(s.toList==(⟨#[]⟩:u4).toList)=false:=R7.2 (by rw[show(⟨#[]⟩:u4).toList=[]from by simp[Rp]];exact h);rwa [k,Uf,Bool.false_and]at c
theorem RJ(W:World)(x y:Operand)(a:Bool)(s:ByteArray)(e:Int): Qn prog W (do eqGuard .eql 32 x y (rN a s e) (rN a s e);binOp .eql 32 (rN a s e) (rN a s e)) (.bool true):=λb _=>by
 unfold rN;simp[go_sem]
theorem AR(W:World)(x y:Operand)(a b:Bool): Qn prog W (do eqGuard .eql 4 x y (.bool a) (.bool b);binOp .eql 4 (.bool a) (.bool b)) (.bool (a==b)):=λc _=>by
 simp[go_sem]
def xu(P:u7)(tt:List (Nat×TI))(W:y9)(f:FuncId)(args:a8)(d:List Dir)(R:z0): Prop:=match P.funcs[f]? with
 | some fn=>Z7 (Nat.ble args.length fn.ntmps) (EM P tt W fn (O4 fn.ntmps args) d λe σ _=>Vj tt fn.results.toList e σ λs=>Z7 s.plain (s.den e0=R))
 | none=>False
theorem rkP{P:u7}{tt:List (Nat×TI)}(g:YF P tt)(i:P.follows .mixedOrders=true){w0:y9}{f:FuncId}{args:a8}{R:z0}(d:List Dir){T:y9->Prop}(h:∀W,Below w0.heap.size w0 W->R=R->T W)(j:∀W,T W=xu P tt W f args d R)(k:XB P f): RetAt P w0 f args.toArray R:=by
 have key:∀W,Below w0.heap.size w0 W->xu P tt W f args d R:=λW a=>j W▸h W a rfl
 unfold xu at key;cases b:P.funcs[f]? with
 | none =>
  rw[b]at key;exact(key w0 (l3 _ _)).elim
 | some fn =>
  rw[b]at key;have key:∀W,Below w0.heap.size w0 W->_/\_:=λW a=>Qp (key W a)
  unfold EM at key;cases e:fn.body with
  | none =>
   rw[e]at key;exact(key w0 (l3 _ _)).2.elim
  | some c =>
   rw[e]at key;exact Qaa g i k b e (key w0 (l3 _ _)).1 (d:=λ_=>d) λW a=>(key W a).2
theorem rk{w0:y9}{f:FuncId}{args:a8}{R:z0}(d:List Dir){T:y9->Prop}(h:∀W,Below w0.heap.size w0 W->R=R->T W)(a:∀W,T W=xu prog tt W f args d R:=by intro _;kernel_rfl)(b:XB prog f:=by intro _ _;kernel_rfl): RetAt prog w0 f args.toArray R:=rkP Qu QR d h a b
theorem O3(w0:y9){f:FuncId}{args:b7}{R:z0}(h:∀W,b9 prog f args W R)(b:XB prog f:=by intro _ _;kernel_rfl): RetAt prog w0 f args R:=rc w0 b h
theorem rtx{w0:y9}{f:FuncId}{args:b7}{R:z0}(a:Q0 w0)(h:∀W,Q0 W->b9 prog f args W R)(c:XB prog f:=by intro _ _;kernel_rfl): RetAt prog w0 f args R:=rt a c h
theorem RdK.up{w a:y9}{A:u5}{n k:Nat}{f:Nat->a8}(h:RdK w A n k f)(b:Below w.heap.size w a)(c:∀j,(f j).length=k): RdK a A n k f:=h.below c b
theorem qV(a:z0): a=a:=rfl
theorem qI(a:Int): a=a:=rfl
theorem qB(a:Bool): a=a:=rfl
theorem qS(a:u4): a=a:=rfl
abbrev tS(k v:Int)(b:u5)(nb a:Nat)(s:u5)(f cs:Nat)(p:u5)(g h:Nat)(r:u5)(i j:Nat)(e d:Nm)(u:Int)(c:u5)(l m:Nat): List SV:=[iV k,iV v,lV b nb a,lV s f cs,lV p g h,lV r i j,bV e.b,sV e.s,iV e.e,bV d.b,sV d.s,iV d.e,iV u,lV c l m]
theorem Yu(R:Res)(x:z0)(S:Nat->Prop)(w:y9)(h:R.φ x S w): R.φ x S w:=h
theorem XD{a b:Nat}(h:decide ((a:Int)<(b:Int))=true): a<b:=y6 (L1 h)
theorem geq{a b:Nat}(h:decide ((a:Int)<(b:Int))=false): b<=a:=y6 (L7 h)
def Xi(A:u5)(i:Nat): Addr:=match A with|some a=>⟨a.block,a.off+i,none⟩|none=>⟨0,i,none⟩
section
variable {P:Program} {w0:World} {t:TypeId} {ti:TI} {A:Option Addr} {n c k:Nat} {f:Nat->List Value}
theorem RdK.adr_{i o:Nat}(h:RdK w0 A n k f)(a:i<n)(c:o<k): w0.cell? (Xi A (i*k+o))=(f i)[o]?:=by
 obtain⟨b,off,rfl,d⟩:=h x3;show w0.cell? ⟨b,off+(i*k+o),none⟩=_;rw[<- Sc];exact d i a o c
theorem JM(sz:Nat){e:Nat}{a:Option Bool}(d:YH P t=some ti)(g:ti.k=.slice e sz a)(j:sz≠0)(l:RdK w0 A n k f){i:Nat}(h:i<n):
  Qn P w0 (Instr.indexAt t (.slice A n c) (.int .i64 (i:Int))) (.pointer (some (Xi A (i*sz)))):=λW _=>by
 obtain⟨b,off,rfl,_⟩:=l x3;exact MO d g h j
theorem un{b:List (Nat×Nat×Option Bool)}{j off c o:Nat}{l:Option Bool}(d:YH P t=some ti)(e:ti.k=.struct b)(h:VQ b j=some (off,c,l))(f:c≠0):
  Qn P w0 (Instr.fieldAt t (.pointer (some (Xi A o))) j) (.pointer (some (Xi A (o+off)))):=λW _=>by
 cases A with
 | none=>exact A8 d e h f
 | some a =>
  have i:=A8 (P:=P) (w:=W) (g:=a.block) (o:=a.off+o) d e h f;rw[Sc]at i;exact i
theorem G9(sz:Nat){a:List (Nat×Nat×Option Bool)}{j off i o:Nat}{b:Option Bool}(c:YH P t=some ti)(d:ti.k=.struct a)(h:VQ a j=some (off,sz,b))(e:sz≠0):
  Qn P w0 (Instr.fieldAt t (.pointer (some (Xi A (i*k+o)))) j) (.pointer (some (Xi A (i*k+(o+off))))):=by
 rw[<- Sc];exact un c d h e
theorem DY{i o:Nat}{v:z0}(b:YH P t=some ti)(c:ti.k.agg=false)(d:RdK w0 A n k f)(a:i<n)(e:o<k)(g:(f i)[o]?=some v):
  Qn P w0 (Instr.loadAt t (.pointer (some (Xi A (i*k+o))))) v:=λW h=>by
 have j:W.cell? (Xi A (i*k+o))=some v:=Ld h ((d.adr_ a e).trans g);simp[Instr.loadAt,Instr.sureAddr,loadVar,OU b,c,j]
theorem AB{i o:Nat}{l:a8}(d:YH P t=some ti)(p:ti.k.agg=true)(e:RdK w0 A n k f)(a:i<n)(g:l.length=ti.size)(w:o+ti.size<=k)(q:((f i).drop o).take ti.size=l):
  Qn P w0 (Instr.loadAt t (.pointer (some (Xi A (i*k+o))))) (.agg l.toArray):=λW r=>by
 have h:=run_loadCells_list (P:=P) W (Xi A (i*k+o)) l (λj v c=>by
  have s:j<ti.size:=by rw[<- g];exact(sT.1 c).1
  have m:=e.adr_ a (show o+j<k by omega);rw[<- q,o4 s,List.getElem?_drop]at c;rw[c]at m;have u:=Ld r m;obtain⟨b,off,rfl,_⟩:=e x3;rw[show(Xi (some ⟨b,off,none⟩) (i*k+o)).add j=Xi (some ⟨b,off,none⟩) (i*k+(o+j))from by
   show(⟨b,off+(i*k+o),none⟩:Addr).add j=⟨b,off+(i*k+(o+j)),none⟩;rw[Yc];congr 1;omega]
  exact u)
 rw[g]at h;simp[Instr.loadAt,Instr.sureAddr,loadVar,OU d,p,CK d,h]
end
section
variable {P:Program} {w0:World} {σ:St}
structure RowT (P:Program) (t t2:TypeId) (e:TypeId) (k bytes:Nat):Prop where
 ht:P.underlying t=some (.slice e)
 ht2:∃e2,P.underlying t2=some (.slice e2)
 hi:(P.info? e).map (λi=>(i.zero.map (·.cells.size),i.size,i.bytes))=some (some k,k,bytes)
 hk:0<k
 hb:0<bytes
theorem RowT.info{t d e k bytes:Nat}(h:RowT P t d e k bytes): ∃i z,P.info? e=some i/\i.zero=some z/\i.size=k/\i.bytes=bytes/\z.cells.size=k:=by
 have a:=h.hi;cases c:P.info? e with
 | none=>rw[c]at a;cases a
 | some i =>
  rw[c]at a;cases b:i.zero with
  | none=>simp[b]at a
  | some z =>
   simp[b]at a;exact⟨i,z,rfl,b,a.2.1,a.2.2,a.1⟩
theorem Bl{t b c e f:u6}(g:P.underlying t=some (.slice e))(a:P.underlying b=some (.slice f))(A:u5)(n d:Nat)(x:z0)(w:y9): (Builtin.append_ #[t,b] c #[.slice A n d,x]).run P w=(Builtin.append_ #[t,t] c #[.slice A n d,x]).run P w:=by
 simp[Builtin.append_,run_underlying g,run_underlying a]
def NA{α:Type}(c:α->a8)(l2:List α)(w:y9)(v:z0): Prop:=(∃a b,v=.slice (some a) l2.length b/\∀j u,(l2.flatMap c)[j]?=some u->w.cell? (a.add j)=some u)\/(v=.slice none 0 0/\l2=[])
theorem CU{t B e:u6}{i:TypeInfo}{z:z0}{size bytes:Nat}{w F:y9}(G:P.underlying t=some (.slice e))(H:P.info? e=some i)(N:i.zero=some z)(h:i.size=size)(x:i.bytes=bytes)(I:z.cells.size=size)(J:0<size){v C:z0}{n:Nat}{y:a8}(f:w.ownsRow 0 e size v n y){a:Addr}{m c:Nat}{d:a8}(K:d.length=m*size)(k:∀j u,d[j]?=some u->w.cell? (a.add j)=some u)(O:∀u∈d,u.oneCell'=true)(A:n+m<=maxLen)(l:(n+m)*bytes<=140737488355328)(o:(Builtin.append_ #[t,t] B #[v,.slice (some a) m c]).run P w=.ok C F): ∀b,C.ownBlock=some b->v.ownBlock=some b\/b=w.heap.size\/w.heap.size<=b:=by
 intro b D;rcases f.2 with⟨rfl,rfl⟩|⟨g,cap,Q,rfl,R,X,S,T,U,L⟩
 ·have q:w.ownsRow w.heap.size e size (.slice none 0 0) 0 y:=⟨f.1,.inl ⟨rfl,rfl⟩⟩
  obtain⟨V,M,p,W,_⟩:=run_append_own (P:=P) w w.heap.size t B e i z size bytes G H N h x I J _ _ _ q a m c d K k O A l (L8 _);rw[o]at p;obtain⟨rfl,rfl⟩:C=V/\F=M:=by injection p with a b;exact⟨a,b⟩
  exact .inr (.inr (W.lt b D).1)
 ·by_cases r:n+m<=cap
  ·obtain⟨M,p,_⟩:=run_append_fits (P:=P) w 0 t B e i size G H h g n cap y f a m c d K k O r;rw[o]at p;obtain⟨rfl,rfl⟩:C=_/\F=M:=by injection p with a b;exact⟨a,b⟩
   exact .inl D
  ·subst h;subst x;have E:n+m<=9223372036854775807:=by simp only[maxLen]at A;omega
   have s:∀j u,y[j]?=some u->w.cell? ((⟨g,0,none⟩:Addr).add j)=some u:=f.cells (g:=g) rfl;have p:=run_append_grow (P:=P) w t B e i z G H N ⟨g,0,none⟩ n cap y f.1 s a m c d K k x3 x3 (growslice_fits x3 l);rw[o]at p;injection p with p _
   subst p;simp only[Value.ownBlock,Option.some.injEq]at D;exact .inr (.inl D.symm)
theorem NW{α:Type}{t N F e k bytes:Nat}{c:α->a8}{l l2 C:List α}{A:u5}{D:Nat}{u:z0}(m:RowT P t N e k bytes)(O:∀x,(c x).length=k)(Q:∀x u,u∈c x->u.oneCell'=true)(Z:l++l2=C)(R:C.length*bytes<=140737488355328){W:y9}(s:NA c l2 W u){x:z0}{S:Nat->Prop}(T:(Qc e k c l A D).φ x S W): G2 P W (λy:Hp=>.slice y.1 C.length y.2) (λy:Hp=>Qc e k c C y.1 y.2) x S (VG .append #[t,N] F [.slice A l.length D,u]):=by
 subst Z;obtain⟨v,z,G,U,V,X,Y⟩:=m.info;obtain⟨ae,w⟩:=m.ht2;obtain⟨H,d,q⟩:=(show _/\_/\_ from T)
 have B:(l.flatMap c++l2.flatMap c)=(l++l2).flatMap c:=x6;have h:l.length+l2.length=(l++l2).length:=x6;have o:(l++l2).length<=maxLen:=by
  have I:=m.hb;have r:(l++l2).length<=(l++l2).length*bytes:=Rv _ I;simp only[maxLen];omega
 rcases s with⟨ad,J,K,i⟩|⟨K,e0⟩
 ·obtain⟨v',w',f,a,L,_⟩:=run_append_own (P:=P) W 0 t F e v z k bytes m.ht G U V X Y m.hk _ _ _ d ad l2.length J (l2.flatMap c) (Q4 O l2) i (λu M=>by
   obtain⟨x,_,s⟩:=Uk.1 M;exact Q x u s) (by rw[h];exact o) (by rw[h];exact R) (La _)
  rw[B,h]at a;obtain⟨E,n,rfl⟩:∃E n,v'=.slice E (l++l2).length n:=by
   rcases a.2 with⟨rfl,e6⟩|⟨g,cap,ag,rfl,_⟩
   ·exact⟨none,0,by rw[e6]⟩
   ·exact⟨_,_,rfl⟩
  refine⟨(E,n),(λb=>(Value.slice E (l++l2).length n).ownBlock=some b),w',?_,Trn.of_grown L λk hk=>(q k).2 hk,(show _/\_/\_ from⟨H,a,λb=>Iff.rfl⟩),λb j=>?_⟩
  ·simp only[VG];rw[K,Bl m.ht w];exact f
  ·have I:=a.lt b j;refine⟨?_,I.2⟩;rcases CU m.ht G U V X Y m.hk d (Q4 O l2) i (λu M=>by
    obtain⟨x,_,s⟩:=Uk.1 M;exact Q x u s) (by rw[h];exact o) (by rw[h];exact R) f b j with r|r|r
   ·exact .inl ((q b).2 r)
   ·exact .inr (Rx r.symm)
   ·exact .inr r
 ·subst e0;have f:=run_append_owned_none (P:=P) W 0 t F e v k m.ht G (.slice A l.length D) l.length _ d;have p:l++[]=l:=Tc l;refine⟨(A,D),S,W,?_,Trn.refl _ _,?_,λb j=>⟨.inl j,?_⟩⟩
  ·simp only[VG];rw[K,Bl m.ht w,p];exact f
  ·rw[p];exact T
  ·exact(d.lt b ((q b).1 j)).2
theorem V5{α:Type}{t a ty e k bytes:Nat}{c:α->a8}{l l2 l':List α}{A:u5}{cp:Nat}{u:z0}(b:RowT P t a e k bytes)(d:∀x,(c x).length=k)(f:∀x u,u∈c x->u.oneCell'=true)(g:l++l2=l')(h:l'.length*bytes<=140737488355328)(i:∀W,Below w0.heap.size w0 W->NA c l2 W u):
  ∀W,Below w0.heap.size w0 W->∀x S,(Qc e k c l A cp).φ x S W->G2 P W (λy:Hp=>.slice y.1 l'.length y.2) (λy:Hp=>Qc e k c l' y.1 y.2) x S (VG .append #[t,a] ty [.slice A l.length cp,u]) :=
 λW j x S m=>NW b d f g h (i W j) m
theorem Yj{α:Type}{t b ty e k bytes bt m cp2:Nat}{c:α->a8}{l l2 l':List α}{A:u5}{cp:Nat}{cs:a8}(d:RowT P t b e k bytes)(f:∀x,(c x).length=k)(h:∀x u,u∈c x->u.oneCell'=true)(i:l++l2=l')(n:l'.length*bytes<=140737488355328)(o:m=l2.length)(a:cs=l2.flatMap c):
  ∀W,Below w0.heap.size w0 W->∀g,Bx W g bt cs.toArray->∀x S,(Qc e k c l A cp).φ x S W->G2 P W (λy:Hp=>.slice y.1 l'.length y.2) (λy:Hp=>Qc e k c l' y.1 y.2) x S (VG .append #[t,b] ty [.slice A l.length cp,.slice (some ⟨g,0,none⟩) m cp2]) :=
 λW _ g p x S q=>by
  subst o;refine NW d f h i n (.inl ⟨⟨g,0,none⟩,cp2,rfl,λj u r=>?_⟩) q;rw[Yc,Lj,p.cel,a];simpa using r
end
theorem YM{α:Type}{l:List α}{k:Nat}{d:α}(h:k<l.length): l.getD k d=l[k]:=by rw[List.getD,m0 h];rfl
theorem ZE(x:Nm): (YB x).length=3:=rfl
theorem QW(x:Tm): (QG x).length=4:=rfl
theorem dE(x:Nm×Nm): (Jw x).length=6:=rfl
theorem Ct(x:Nm)(u:z0)(h:u∈YB x): u.oneCell'=true:=by
 simp only[YB,Ll,Rf,or_false]at h;rcases h with rfl|rfl|rfl<;>rfl
theorem Kk(x:Tm)(u:z0)(h:u∈QG x): u.oneCell'=true:=by
 simp only[QG,Ll,Rf,or_false]at h;rcases h with rfl|rfl|rfl|rfl<;>rfl
theorem qH(x:Nm×Nm)(u:z0)(h:u∈Jw x): u.oneCell'=true:=by
 simp only[Jw,Ll,Rf,or_false]at h;rcases h with rfl|rfl|rfl|rfl|rfl|rfl<;>rfl
theorem tk{α β:Type}{f:α->List β}{l:List α}{k:Nat}(d:α)(h:k<l.length)(pre:List β): (pre++(l.take k).flatMap f)++f (l.getD k d)=pre++(l.take (k+1)).flatMap f:=by
 rw[List.append_assoc];congr 1;rw[YM h,Rr h,U4];simp
theorem Dr{α β:Type}{f:α->List β}{l:List α}{k:Nat}(h:l.length<=k)(pre:List β): pre++(l.take k).flatMap f=pre++l.flatMap f:=by rw[Rj h]
section
variable {P:Program} {w0:World} {σ:St}
theorem G4{α:Type}{c:α->a8}{k:Nat}(n:∀x,(c x).length=k)(o:0<k){d:α}{l2:List α}{A:u5}{i:Nat}{w:y9}(h:RdK w A l2.length k (λj=>c (l2.getD j d)))(r:A=none->l2.length=0/\i=0): NA c l2 w (.slice A l2.length i):=by
 cases A with
 | none =>
  obtain⟨s,rfl⟩:=r rfl;have e:l2=[]:=Rz s;subst e;exact .inr ⟨rfl,rfl⟩
 | some a =>
  refine .inl ⟨a,i,rfl,λj u l=>?_⟩;have m:j<l2.length*k:=by rw[<- Q4 n l2];exact(sT.1 l).1
  have p:j=j / k*k+j % k:=by rw[Ls];exact(T3 j k).symm
  have b:j / k<l2.length:=(Lm o).2 m;have f:j % k<k:=Ra _ o;obtain⟨g,off,t,v⟩:=h (Lw (La _) b);obtain rfl:=hW t;rw[p,Z6 n b f]at l;have q:w.cell? ⟨g,off+j / k*k+j % k,none⟩=(c (l2.getD (j / k) d))[j % k]?:=v _ b _ f;rw[YM b]at q;rw[Yc,p,<- Sc,q];exact l
theorem Jj{α:Type}{e k:Nat}{c:α->a8}{l:List α}{A:u5}{n:Nat}(o:∀x,(c x).length=k)(d:α){x:z0}{S:Nat->Prop}{w:y9}(h:(Qc e k c l A n).φ x S w): RdK w A l.length k (λj=>c (l.getD j d)):=by
 obtain⟨_,h,_⟩:=(show _/\_/\_ from h)
 intro u;rcases h.2 with⟨b,v⟩|⟨g,cap,f,b,_,p,q,_,r,a⟩
 ·omega
 ·injection b with b _ _
  refine⟨g,0,b,λj m i s=>?_⟩;show _=(c (l.getD j d))[i]?;rw[Lj,cell_of_row w g (j*k+i) f e (0,0) p,<- Array.getElem?_toList,YM m,<- Z6 o m s,<- a,o4];have t:(j+1)*k<=l.length*k:=Lo _ x3;rw[Rm]at t;omega
theorem IB{α:Type}{e k:Nat}{c:α->a8}{l:List α}{A:u5}{f:Nat}{x:z0}{S:Nat->Prop}{w:y9}(h:(Qc e k c l A f).φ x S w): (A=none->l.length=0/\f=0)/\∀a,A=some a->a.spot=none:=by
 obtain⟨_,h,_⟩:=(show _/\_/\_ from h)
 rcases h.2 with⟨b,i⟩|⟨g,cap,j,b,_⟩
 ·injection b with b n m
  exact⟨λ_=>⟨i,m⟩,λa d=>by rw[b]at d;cases d⟩
 ·injection b with b _ _
  exact⟨λh=>(by rw[h]at b;cases b),λa d=>by rw[b]at d;obtain rfl:=hW d;rfl⟩
theorem JX{α:Type}{e k:Nat}{c:α->a8}{l:List α}{A:u5}{cp:Nat}{m:Sem z0}{R:z0}(a:∀x,(c x).length=k)(d:α)(h:∀W,RdK W A l.length k (λj=>c (l.getD j d))->Qn P W m R): GC P w0 [Qc e k c l A cp] m R:=λW _ x S b=>h W (Jj a d b) W (l3 _ _)
def xS{β:Type}(i:Nat)(val:β->z0)(ρ:β->Res)(s:SV)(σ:St): Prop:=ZV (Xe σ.rs i) λR=>∃y:β,s=.val (val y)/\∀x S w,R.φ x S w->(ρ y).φ x S w
theorem El(β:Type){tt:List (Nat×TI)}(l:YF P tt)(m:P.follows .mixedOrders=true){f:FuncId}{fn:Func}(n:XB P f)(o:P.funcs[f]?=some fn){N:Nat}(p:fn.ntmps=N){rs:Array ResultVar}(q:fn.results=rs)(args:a8)(t:Nat.ble args.length N=true)(i:Nat)(val:β->z0)(ρ:β->Res)(d:List Dir){T:y9->Prop}(h:∀W,Below w0.heap.size w0 W->T W)(u:∀W,T W=EM P tt W fn (O4 N args) d λe σ _=>Vj tt rs.toList e σ λs=>xS i val ρ s σ): NewIn P w0 [] f args.toArray val ρ:=by
 refine⟨n,λW v=>?_⟩;have key:=u W▸h W v;subst p;subst q;unfold EM at key;cases g:fn.body with
 | none =>
  rw[g]at key;exact key.elim
 | some c =>
  rw[g]at key;refine(NK (λs σ=>xS i val ρ s σ) l m o g t key).mono ?_
  rintro e B ⟨s,σ,r,a,rfl,w,j⟩;obtain⟨R,k,y,rfl,x⟩:=QH w;obtain⟨z,A⟩:=j.see.rs i R k;exact⟨y,_,_,rfl,x _ _ _ z,λb g=>⟨j.sep.ownS i R k b g,A b g⟩,j.see.low⟩
theorem NewIn.at{β:Type}{f:FuncId}{args:b7}{val:β->z0}{ρ:β->Res}(h:NewIn P w0 [] f args val ρ): Calls P f args w0 λe a=>∃y x S,e=.returned (val y)/\(ρ y).φ x S a/\(∀b,S b->w0.heap.size<=b/\b<a.heap.size)/\Below w0.heap.size w0 a:=h.2 w0 (l3 _ _)
end
def SlS{α:Type}(S:Nat->Prop)(k:Nat)(c:α->a8)(w:y9)(l:List α)(v:z0): Prop :=
 ∃A a,v=.slice A l.length a/\l.length<=a/\(A=none->l.length=0/\a=0)/\(0<l.length->∃b off,A=some ⟨b,off,none⟩/\S b/\∀i (h:i<l.length),∀j,j<k->w.cell? ⟨b,off+i*k+j,none⟩=(c l[i])[j]?)
theorem SlS.loc{α:Type}{S:Nat->Prop}{k:Nat}{c:α->a8}{w a:y9}{l:List α}{v:z0}(h:SlS S k c w l v)(f:∀b,S b->a.heap[b]?=w.heap[b]?): SlS S k c a l v:=by
 obtain⟨A,g,m,n,o,p⟩:=h;refine⟨A,g,m,n,o,λq=>?_⟩;obtain⟨b,off,e,d,r⟩:=p q;exact⟨b,off,e,d,λi s j t=>(World.cell?_of_block (f b d)).trans (r i s j t)⟩
theorem SlS.mono{α:Type}{S S':Nat->Prop}{k:Nat}{c:α->a8}{w:y9}{l:List α}{v:z0}(h:SlS S k c w l v)(a:∀b,S b->S' b): SlS S' k c w l v:=by
 obtain⟨A,d,f,g,i,j⟩:=h;refine⟨A,d,f,g,i,λm=>?_⟩;obtain⟨b,off,e,n,o⟩:=j m;exact⟨b,off,e,a b n,o⟩
theorem lq{α:Type}{e k:Nat}{c:α->a8}{l:List α}{A:u5}{m:Nat}(o:∀x,(c x).length=k){x:z0}{S:Nat->Prop}{w:y9}(h:(Qc e k c l A m).φ x S w): SlS S k c w l (.slice A l.length m):=by
 obtain⟨_,h,p⟩:=(show _/\_/\_ from h)
 refine⟨A,m,rfl,?_,?_,λB=>?_⟩
 ·rcases h.2 with⟨a,f⟩|⟨g,cap,b,a,_,_,q,_⟩
  ·rw[f];exact La _
  ·injection a with _ _ n
   rw[n];exact q
 ·rcases h.2 with⟨a,f⟩|⟨g,cap,b,a,_⟩
  ·injection a with _ _ n
   exact λ_=>⟨f,n⟩
  ·injection a with a _ _
   exact λr=>by rw[r]at a;cases a
 ·rcases h.2 with⟨a,f⟩|⟨g,cap,b,a,_,s,t,_,u,d⟩
  ·omega
  ·injection a with a _ _
   subst a;refine⟨g,0,rfl,(p g).2 rfl,λi v j y=>?_⟩;rw[Lj,cell_of_row w g (i*k+j) b e (0,0) s,<- Array.getElem?_toList,<- Z6 o v y,<- d,o4];have z:(i+1)*k<=l.length*k:=Lo _ x3;rw[Rm]at z;omega
def V1{α:Type}(j k:Nat)(c:α->a8)(d:List (List α))(A:u5)(o:Nat): Res where
 φ x S w:=x.oneCell'=true/\∃(l:a8) (e:Nat->Prop),w.ownsRow 0 j 1 (.slice A d.length o) d.length l/\(∀i (h:i<d.length),SlS e k c w d[i] (l.getD i undef))/\(∀b,e b->(Value.slice A d.length o).ownBlock≠some b/\b<w.heap.size)/\∀b,S b↔(Value.slice A d.length o).ownBlock=some b\/e b
 one _ _ _ h:=h.1
 loc x S w w' h hφ:=by
  obtain⟨t,l,e,r,u,s,m⟩:=hφ;refine⟨t,l,e,⟨r.1,?_⟩,λi v=>(u i v).loc λb a=>h b ((m b).2 (.inr a)),λb a=>⟨(s b a).1,?_⟩,m⟩
  ·rcases r.2 with n|⟨g,cap,p,j,a,y,f⟩
   ·exact .inl n
   ·exact .inr ⟨g,cap,p,j,a,(h g ((m g).2 (.inl (by rw[j];rfl)))).trans y,f⟩
  ·have n:=h b ((m b).2 (.inr a));have z:=(s b a).2;rcases Lx b w'.heap.size with q|q
   ·exact q
   ·rw[Δ q,Array.getElem?_eq_getElem z]at n;cases n
theorem ri{α β:Type}(a k:Nat)(c:α->a8)(c0:β->a8)(x:z0)(S:Nat->Prop)(w:y9)(h:(Qc a 1 c0 ([]:List β) none 0).φ x S w): (V1 a k c ([]:List (List α)) none 0).φ x S w:=by
 obtain⟨e,_,d⟩:=(show _/\_/\_ from h)
 exact(show _/\_ from⟨e,[],λ_=>False,World.ownsRow_nil w 0 a 1,λi f=>absurd f (R6 _),λ_ h=>h.elim,λb=>⟨λh=>.inl ((d b).1 h),λh=>h.elim (d b).2 False.elim⟩⟩)
section
variable {P:Program} {w0:World}
theorem rh{α:Type}{t t2 ty e Y k bytes bt T:Nat}{c:α->a8}{h:List (List α)}{l:List α}{A B:u5}{cp n:Nat}(F:RowT P t t2 Y 1 bytes)(hc:∀x,(c x).length=k)(Q:(h++[l]).length*bytes<=140737488355328):
  ∀W,Below w0.heap.size w0 W->∀g,Bx W g bt #[.slice B l.length n]->∀x S,(Qk (V1 Y k c h A cp) (Qc e k c l B n)).φ x S W ->
   G2 P W (λy:Hp=>.slice y.1 (h++[l]).length y.2) (λy:Hp=>V1 Y k c (h++[l]) y.1 y.2) x S (VG .append #[t,t2] ty [.slice A h.length cp,.slice (some ⟨g,0,none⟩) 1 T]):=λW _ g hg x S hφ=>by
 obtain⟨S1,J,x2,ad,hR,U,K⟩:=(show ∃S1 L x2,_ from hφ)
 obtain⟨ae,R,L,r,M,V,C⟩:=(show _/\_ from ad)
 have X:=lq hc hR;obtain⟨_,N,ag⟩:=(show _/\_/\_ from hR)
 obtain⟨al,z,i1,i2,i3,i4,i5⟩:=F.info;obtain⟨aB,ao⟩:=F.ht2;have s:h.length+1=(h++[l]).length:=x6;have G:(h++[l]).length<=maxLen:=by
  have f:=F.hb;have h3:(h++[l]).length<=(h++[l]).length*bytes:=Rv _ f;simp only[maxLen];omega
 have v:∀j u,[Value.slice B l.length n][j]?=some u->W.cell? ((⟨g,0,none⟩:Addr).add j)=some u:=λj u hj=>by
  rw[Yc,Lj,hg.cel];simpa using hj
 have H:∀u∈[Value.slice B l.length n],u.oneCell'=true:=λu hu=>by
  rw[Re]at hu;rw[hu];rfl
 have aw:R.length=h.length:=y8 r.1;obtain⟨v',w',I,o,D,_⟩:=run_append_own (P:=P) W 0 t ty Y al z 1 bytes F.ht i1 i2 i3 i4 i5 F.hk _ _ _ r ⟨g,0,none⟩ 1 T [.slice B l.length n] rfl v H (by rw[s];exact G) (by rw[s];exact Q) (La _);have q:=CU F.ht i1 i2 i3 i4 i5 F.hk r (m:=1) rfl v H (by rw[s];exact G) (by rw[s];exact Q) I;rw[s]at o;obtain⟨Z,E,rfl⟩:∃Z E,v'=.slice Z (h++[l]).length E:=by
  rcases o.2 with⟨rfl,e6⟩|⟨g,cap,bd,rfl,_⟩
  ·exact⟨none,0,by rw[e6]⟩
  ·exact⟨_,_,rfl⟩
 have O:∀b,J b->b<W.heap.size:=λb a=>(N.lt b ((ag b).1 a)).2
 have d:∀b,L b\/J b->b<W.heap.size/\(Value.slice A h.length cp).ownBlock≠some b:=λb a=>by
  rcases a with p|p
  ·exact⟨(V b p).2,(V b p).1⟩
  ·refine⟨O b p,λf=>U b ((C b).2 (.inl f)) p⟩
 have w:∀b,L b\/J b->w'.heap[b]?=W.heap[b]?:=λb a=>D.block b (d b a).1 λe=>(d b a).2 e.symm
 refine⟨(Z,E),(λb=>(Value.slice Z (h++[l]).length E).ownBlock=some b\/(L b\/J b)),w',?_,Trn.of_grown D λb a=>(K b).2 (.inl ((C b).2 (.inl a))),?_,λb a=>?_⟩
 ·simp only[VG];rw[Bl F.ht ao];exact I
 ·refine(show _/\_ from⟨ae,R++[.slice B l.length n],(λb=>L b\/J b),o,λi hi=>?_,λb a=>⟨λp=>?_,Lb (d b a).1 D.size⟩,λb=>Iff.rfl⟩)
  ·rcases Lx i h.length with p|p
   ·rw[List.getElem_append_left p];have f:=((M i p).mono (S':=λb=>L b\/J b) λb Q=>.inl Q).loc w;rwa [show(R++[Value.slice B l.length n]).getD i undef=R.getD i undef by simp[List.getD,List.getElem?_append_left (show i<R.length by omega)]]
   ·have f:i=h.length:=by simp at hi;omega
    subst f;have h3:=(X.mono (S':=λb=>L b\/J b) λb Q=>.inr Q).loc w;rw[show(h++[l])[h.length]=l by simp];rwa [show(R++[Value.slice B l.length n]).getD h.length undef=.slice B l.length n by simp[List.getD,<- aw]]
  ·rcases q b p with f|f|f
   ·exact(d b a).2 f
   ·have:=(d b a).1;omega
   ·have:=(d b a).1;omega
 ·rcases a with p|p
  ·refine⟨?_,(o.lt b p).2⟩;rcases q b p with f|f|f
   ·exact .inl ((K b).2 (.inl ((C b).2 (.inl f))))
   ·exact .inr (Rx f.symm)
   ·exact .inr f
  ·refine⟨.inl ((K b).2 ?_),Lb (d b p).1 D.size⟩;rcases p with f|f
   ·exact .inl ((C b).2 (.inr f))
   ·exact .inr f
theorem wv{α:Type}{t k:Nat}{c:α->a8}{o:List (List α)}{A:u5}{z:Nat}(J:∀x,(c x).length=k)(d:α){x:z0}{S:Nat->Prop}{w:y9}(h:(V1 t k c o A z).φ x S w): RdT w A o.length k (λi=>(o.getD i []).length) (λi j=>c ((o.getD i []).getD j d)):=by
 obtain⟨_,B,K,f,l,_,_⟩:=(show _/\_ from h)
 intro L;rcases f.2 with⟨a,M⟩|⟨g,cap,p,a,_,C,D,_,q,m⟩
 ·omega
 ·injection a with a _ _
  refine⟨g,0,a,λi u=>?_⟩;obtain⟨E,ci,k1,F,G,H⟩:=l i u;dsimp only;rw[YM (d:=[]) u];refine⟨E,ci,F,G,?_,λI=>?_⟩
  ·rw[Lj,cell_of_row w g i p t (0,0) C,<- k1,<- Array.getElem?_toList];have N:B.length=o.length:=y8 f.1;rw[<- m];rw[List.getD,o4 x3];have r:i<p.toList.length:=by rw[S7,q];omega
   rw[m0 r];rfl
  ·obtain⟨b,off,e,_,n⟩:=H I;refine⟨b,off,e,λj v y s=>?_⟩;show _=(c (o[i].getD j d))[y]?;rw[YM v];exact n j v y s
end
structure LP where
 p:Nat->(Nat->Prop)->World->List Value->Prop
 loc:∀i S w w' cs,(∀b,S b->w'.heap[b]?=w.heap[b]?)->p i S w cs->p i S w' cs
 mono:∀i S S' w cs,(∀b,S b->S' b)->p i S w cs->p i S' w cs
def LP.known(f:Nat->a8): LP:=⟨λi _ _ cs=>cs=f i,λ_ _ _ _ _ _ h=>h,λ_ _ _ _ _ _ h=>h⟩
def Qt(e m n:Nat)(L:LP)(A:u5)(o:Nat): Res where
 φ x S w:=x.oneCell'=true/\∃(f:Nat->a8) (c:Nat->Prop),(∀j,(f j).length=m)/\w.ownsRow 0 e m (.slice A n o) n ((List.range n).flatMap f)/\(∀i,i<n->L.p i c w (f i))/\(∀b,c b->(Value.slice A n o).ownBlock≠some b/\b<w.heap.size)/\∀b,S b↔(Value.slice A n o).ownBlock=some b\/c b
 one _ _ _ h:=h.1
 loc x S w w' h hφ:=by
  obtain⟨v,f,c,y,s,z,t,k⟩:=hφ;refine⟨v,f,c,y,⟨s.1,?_⟩,λi B=>L.loc i c w w' _ (λb a=>h b ((k b).2 (.inr a))) (z i B),λb a=>⟨(t b a).1,?_⟩,k⟩
  ·rcases s.2 with l|⟨g,cap,q,u,a,C,d⟩
   ·exact .inl l
   ·exact .inr ⟨g,cap,q,u,a,(h g ((k g).2 (.inl (by rw[u];rfl)))).trans C,d⟩
  ·have l:=h b ((k b).2 (.inr a));have D:=(t b a).2;rcases Lx b w'.heap.size with r|r
   ·exact r
   ·rw[Δ r,Array.getElem?_eq_getElem D]at l;cases l
theorem AG{α:Type}(c:α->a8)(l:List α)(d:α): (List.range l.length).flatMap (λj=>c (l.getD j d))=l.flatMap c:=by
 have h:((List.range l.length).map λj=>l.getD j d)=l:=by
  apply List.ext_getElem
  ·simp
  ·intro i b a;simp;rw[m0 a];rfl
 conv=>rhs;rw[<- h]
 rw[List.flatMap_map]
theorem Hu{α:Type}{e m:Nat}{c:α->a8}{l:List α}{A:u5}{a:Nat}(g:∀x,(c x).length=m)(d:α){L:LP}(h:∀i,i<l.length->∀S w,L.p i S w (c (l.getD i d))){x:z0}{S:Nat->Prop}{w:y9}(k:(Qc e m c l A a).φ x S w): (Qt e m l.length L A a).φ x S w:=by
 obtain⟨n,o,f⟩:=(show _/\_/\_ from k)
 refine(show _/\_ from⟨n,λj=>c (l.getD j d),λ_=>False,λ_=>g _,?_,λi q=>h i q _ _,λ_ h=>h.elim,λb=>⟨λh=>.inl ((f b).1 h),λh=>h.elim (f b).2 False.elim⟩⟩);rw[AG];exact o
theorem BA(e c m:Nat){β:Type}(c0:β->a8)(L:LP)(x:z0)(S:Nat->Prop)(w:y9)(h:(Qc c m c0 ([]:List β) none 0).φ x S w): (Qt e m 0 L none 0).φ x S w:=by
 obtain⟨d,_,a⟩:=(show _/\_/\_ from h)
 exact(show _/\_ from⟨d,λ_=>List.replicate m undef,λ_=>False,λ_=>x6,World.ownsRow_nil w 0 e m,λi f=>absurd f (R6 _),λ_ h=>h.elim,λb=>⟨λh=>.inl ((a b).1 h),λh=>h.elim (a b).2 False.elim⟩⟩)
theorem N4{e m n:Nat}{L:LP}{A:u5}{t:Nat}{x:z0}{S:Nat->Prop}{w:y9}(u:(Qt e m n L A t).φ x S w): ∃(f:Nat->a8) (h:Nat->Prop),(∀j,(f j).length=m)/\RdK w A n m f/\(∀i,i<n->L.p i h w (f i))/\(∀b,h b->S b/\b<w.heap.size):=by
 obtain⟨H,f,h,r,o,v,y,z⟩:=(show _/\_ from u)
 refine⟨f,h,r,λI=>?_,v,λb s=>⟨(z b).2 (.inr s),(y b s).2⟩⟩;rcases o.2 with⟨k,J⟩|⟨g,cap,q,k,_,B,C,_,D,a⟩
 ·omega
 ·injection k with k _ _
  refine⟨g,0,k,λj E i F=>?_⟩;have G:∀j,(f j).length=m:=r;have d:=Z6 (c:=f) G (l:=List.range n) (j:=j) (i:=i) (y8 E) F;rw[Tq]at d;rw[Lj,cell_of_row w g (j*m+i) q e (0,0) B,<- Array.getElem?_toList,<- d,<- a,o4];have o:(j+1)*m<=n*m:=Lo _ x3;rw[Rm]at o;omega
theorem ji{P:u7}{w0:y9}{e m n:Nat}{L:LP}{A:u5}{cp:Nat}{M:Sem z0}{R:z0}(h:∀W f a,RdK W A n m f->(∀i,i<n->L.p i a W (f i))->Qn P W M R): GC P w0 [Qt e m n L A cp] M R:=λW _ x S b=>by
 obtain⟨f,a,_,c,d,_⟩:=N4 b;exact h W f a c d W (l3 _ _)
theorem bF{α:Type}{c e m:Nat}{p:Rdg α}{l:List α}{n:Nat}{L:LP}{A:u5}{d:Nat}{x:z0}{S:Nat->Prop}{w:y9}(k:n=l.length)(C:(Qt e m n L A d).φ x S w)(D:∀b,S b->c<=b)(G:∀i (h:i<l.length) o cs,(∀b,o b->c<=b)->L.p i o w cs->p w l[i] cs): SlV c m p w l (.slice A n d):=by
 subst k;obtain⟨O,f,o,P,E,Q,R,F⟩:=(show _/\_ from C)
 obtain⟨H,q,r,I,s,t⟩:=N4 C;refine⟨A,d,rfl,?_,?_,λJ=>?_⟩
 ·rcases E.2 with⟨a,u⟩|⟨g,cap,v,a,_,_,k,_⟩
  ·rw[u];exact La _
  ·injection a with _ _ y
   rw[y];exact k
 ·rcases E.2 with⟨a,u⟩|⟨g,cap,v,a,_⟩
  ·injection a with _ _ y
   exact λ_=>⟨u,y⟩
  ·injection a with a _ _
   exact λK=>by rw[K]at a;cases a
 ·obtain⟨b,off,a,M⟩:=I J;have z:S b:=by
   rw[a]at F;exact(F b).2 (.inl rfl)
  exact⟨b,off,a,D b z,λi B=>⟨H i,r i,G i B q _ (λb z=>D b (t b z).1) (s i B),λj N=>M i B j N⟩⟩
def NB(R:Res): Prop:=∀x S w,R.φ x S w->∀b,S b->b<w.heap.size
theorem BV{α:Type}{e k:Nat}{c:α->a8}{l:List α}{A:u5}{a:Nat}: NB (Qc e k c l A a):=λx S w h b d=>by
 obtain⟨_,f,g⟩:=(show _/\_/\_ from h)
 exact(f.lt b ((g b).1 d)).2
theorem Bz{e m n:Nat}{L:LP}{A:u5}{c:Nat}: NB (Qt e m n L A c):=λx S w h b d=>by
 obtain⟨_,f,k,_,g,_,i,j⟩:=(show _/\_ from h)
 rcases(j b).1 d with a|a
 ·exact(g.lt b a).2
 ·exact(i b a).2
theorem Do{α:Type}: ∀(l:List α) (k:Nat) (a:List α) (j:Nat),k+a.length<=l.length->(spl l k a)[j]?=if k<=j/\j<k+a.length then a[j-k]? else l[j]?
 | [],k,a,j,h=>by
  have b:a=[]:=Rz (by rw[Sl]at h;omega);subst b;simp[spl]
 | x::l,k,[],j,h=>by
  rw[Kh,if_neg λh=>Nat.not_lt.2 h.1 (y8 h.2)]
 | x::l,0,v::a,j,h=>by
  show(v::spl l 0 a)[j]?=_;cases j with
  | zero=>simp
  | succ j =>
   rw[List.getElem?_cons_succ,Do l 0 a j (by simp at h ⊢;omega)];simp
 | x::l,k+1,v::a,j,h=>by
  show(x::spl l k (v::a))[j]?=_;cases j with
  | zero=>simp
  | succ j =>
   rw[List.getElem?_cons_succ,Do l k (v::a) j (by simp at h ⊢;omega)];by_cases b:k<=j/\j<k+(v::a).length
   ·rw[if_pos b,if_pos x3,Nat.succ_sub_succ]
   ·rw[if_neg b,if_neg x3,List.getElem?_cons_succ]
theorem SO{f:Nat->a8}{m n i o:Nat}{b:a8}(d:∀j,(f j).length=m)(y:i<n)(z:o+b.length<=m): spl ((List.range n).flatMap f) (i*m+o) b=(List.range n).flatMap (λj=>if j=i then spl (f j) o b else f j):=by
 have e:∀j,((λj=>if j=i then spl (f j) o b else f j) j).length=m:=λj=>by
  dsimp only;split
  ·rw[Vs,d]
  ·exact d j
 have p:((List.range n).flatMap f).length=n*m:=by rw[Q4 d,Sz]
 have g:(i+1)*m<=n*m:=Lo _ x3;rw[Rm]at g;apply List.ext_getElem?;intro j;rw[Do _ _ _ _ (by rw[p];omega)];by_cases k:j<n*m
 ·have s:0<m:=by
   rcases So m with h|h
   ·rw[h]at k;simp at k
   ·exact h
  have A:j=j / m*m+j % m:=by rw[Ls];exact(T3 j m).symm
  have t:j / m<n:=(Lm s).2 k;have u:j % m<m:=Ra _ s;generalize B:j / m=q at *;generalize C:j % m=r at *;subst A;have v:=Z6 (c:=f) d (l:=List.range n) (j:=q) (i:=r) (y8 t) u;have w:=Z6 (c:=λj=>if j=i then spl (f j) o b else f j) e (l:=List.range n) (j:=q) (i:=r) (y8 t) u;rw[Tq]at v w;rw[v,w];by_cases a:q=i
  ·subst a;rw[if_pos rfl,Do _ _ _ _ (by rw[d];exact z)];by_cases x:o<=r/\r<o+b.length
   ·rw[if_pos x,if_pos x3];congr 1;omega
   ·rw[if_neg x,if_neg x3]
  ·rw[if_neg a,if_neg];rcases Nat.lt_or_gt_of_ne a with h|h
   ·have:=Lo m (show q+1<=i by omega);rw[Rm]at this;omega
   ·have:=Lo m (show i+1<=q by omega);rw[Rm]at this;omega
 ·rw[if_neg x3,m1 (by rw[p];omega),m1 (by rw[Q4 e,Sz];omega)]
theorem SP{α:Type}(l:List α)(k N:Nat)(a:List α)(h:k+a.length<=N)(d:N<=l.length): (spl l k a).take N=spl (l.take N) k a:=by
 apply List.ext_getElem?;intro j;have b:(l.take N).length=N:=by rw[Lk];omega
 rw[Do _ _ _ _ (by rw[b];exact h)];by_cases c:j<N
 ·rw[o4 c,Do _ _ _ _ x3];split
  ·rfl
  ·rw[o4 c]
 ·rw[m1 (by rw[Lk,Vs];omega),if_neg x3,m1 (by rw[b];omega)]
theorem Bx.setL{g:Nat}{t:u6}: ∀(a:a8) (k:Nat) {w:y9} {l:a8},Bx w g t l.toArray->Bx (Dm w g k a) g t (spl l k a).toArray
 | [],k,w,l,h=>by rw[Kh];exact h
 | v::a,k,w,l,h=>by
  show Bx (Dm (w.setCell ⟨g,k,none⟩ v) g (k+1) a) g t _;rw[CE];have b:=h.set k v;rw[Ru]at b;exact Bx.setL a (k+1) b
section
variable {P:Program} {w0:World}
theorem GV{w:y9}{S:Nat->Prop}{g:Nat}(b:S g): ∀(a:a8) (k:Nat),Trn S w (Dm w g k a)
 | [],_=>Trn.refl _ _
 | v::a,k=>by
  show Trn S w (Dm (w.setCell ⟨g,k,none⟩ v) g (k+1) a);exact(Trn.setCell (p:=⟨g,k,none⟩) b v).trans (GV b a (k+1))
theorem fi{e m n t i o:Nat}{ti:TI}{L K:LP}{A:u5}{B:Nat}{R2:Res}{v:z0}{C:a8}(hi:YH P t=some ti)(hv:v.cells.toList=C)(hs:C.length=ti.size)(Q:i<n)(ho:o+C.length<=m)(h1:∀u,u∈C->u.oneCell'=true)(hF:NB R2)(hL:∀j,j<n->j≠i->∀S w cs,L.p j S w cs->K.p j S w cs)(R:∀M d N w cs,cs.length=m->L.p i M w cs->R2.φ N d w->K.p i (λb=>M b\/d b) w (spl cs o C)):
  ∀W x S,(Qk (Qt e m n L A B) R2).φ x S W->G2 P W (λ_:Unit=>undef) (λ_:Unit=>Qt e m n K A B) x S (Bf t [.pointer (some (Xi A (i*m+o))),v]):=λW x S hφ=>by
 obtain⟨M,T,N,hG,U,D,q⟩:=(show ∃M d N,_ from hφ)
 obtain⟨V,f,d,z,E,h3,h4,X⟩:=(show _/\_ from hG)
 rcases E.2 with⟨O,e2⟩|⟨g,cap,l,O,Y,hg,F,Z,ad,r⟩
 ·omega
 injection O with O _ e3
 subst O;subst e3;subst hv;have G:Bx W g e l.toList.toArray:=by simpa [Bx]using hg
 have ae:(i+1)*m<=n*m:=Lo _ x3;rw[Rm]at ae;have ag:n*m<=B*m:=Lo _ F;have s:l.toList.length=B*m:=by rw[S7,ad]
 have H:=GW P t (i*m+o) v hi G (by rw[<- S7];exact hs) (by rw[s,<- hs];omega) h1;have al:S g:=(q g).2 (.inl ((X g).2 (.inl rfl)));have ao:Trn S W (Dm W g (i*m+o) v.cells.toList):=GV al _ _;have c:∀b,b≠g->(Dm W g (i*m+o) v.cells.toList).heap[b]?=W.heap[b]?:=λb a=>VU _ _ _ _ _ a
 have aw:∀b,d b->b≠g:=λb a e=>(h4 b a).1 (by rw[e];rfl)
 have I:∀b,T b->b≠g:=λb a e=>D g ((X g).2 (.inl rfl)) (e▸a)
 have J:(Dm W g (i*m+o) v.cells.toList).heap.size=W.heap.size:=JY _ _ _ _;refine⟨(),S,_,?_,ao,(show _/\_ from⟨V,λj=>if j=i then spl (f j) o v.cells.toList else f j,λb=>d b\/T b,λj=>?_,⟨?_,?_⟩,λj hj=>?_,λb a=>?_,λb=>?_⟩),λb a=>?_⟩
 ·unfold Bf;have ea:Xi (some ⟨g,0,none⟩) (i*m+o)=⟨g,i*m+o,none⟩:=by simp[Xi]
  rw[ea,p0,H];rfl
 ·dsimp only;split
  ·rw[Vs,z]
  ·exact z j
 ·rw[Q4 (k:=m) (λj=>by
   split
   ·rw[Vs,z]
   ·exact z j),Sz]
 ·refine .inr ⟨g,B,(spl l.toList (i*m+o) v.cells.toList).toArray,rfl,Y,G.setL _ _,F,Z,?_,?_⟩
  ·rw[Sa,Vs,s]
  ·show(spl l.toList (i*m+o) v.cells.toList).take (n*m)=_;rw[SP _ _ _ _ x3 (by rw[s];exact ag),r,SO z Q ho]
 ·dsimp only;have k1:L.p j d (Dm W g (i*m+o) v.cells.toList) (f j):=L.loc j d W _ _ (λb a=>c b (aw b a)) (h3 j hj);by_cases y:j=i
  ·subst y;rw[if_pos rfl];exact R d T N _ _ (z j) k1 (R2.loc _ _ _ _ (λb a=>c b (I b a)) U)
  ·rw[if_neg y];exact K.mono j d _ _ _ (λb a=>.inl a) (hL j hj y _ _ _ k1)
 ·rw[J];rcases a with a|a
  ·exact h4 b a
  ·exact⟨λe=>I b a (by injection e with e;exact e.symm),hF _ _ _ U b a⟩
 ·rw[q,X];constructor
  ·rintro((h|h)|h)
   ·exact .inl h
   ·exact .inr (.inl h)
   ·exact .inr (.inr h)
  ·rintro(h|h|h)
   ·exact .inl (.inl h)
   ·exact .inl (.inr h)
   ·exact .inr h
 ·rw[J];refine⟨.inl a,?_⟩;rcases(q b).1 a with h|h
  ·exact Bz _ _ _ hG b h
  ·exact hF _ _ _ U b h
end
theorem AH{α:Type}{e k:Nat}{c:α->a8}{l:List α}{A:u5}{a:Nat}{x b:z0}{S:Nat->Prop}{w:y9}(d:b.oneCell'=true)(h:(Qc e k c l A a).φ x S w): (Qc e k c l A a).φ b S w:=by
 obtain⟨_,f,g⟩:=(show _/\_/\_ from h)
 exact(show _/\_/\_ from⟨d,f,g⟩)
theorem du{α:Type}{a e m:Nat}{c:α->a8}{l:List α}{A:u5}{f:Nat}(g:∀x,(c x).length=m)(d:α){x:z0}{S:Nat->Prop}{w:y9}(k:(Qc e m c l A f).φ x S w)(n:∀b,S b->a<=b): SlV a m (λ_ x cs=>cs=c x) w l (.slice A l.length f) :=
 bF (L:=LP.known λj=>c (l.getD j d)) rfl (Hu g d (λi p S w=>rfl) k) n λi h q cs _ o=>by
  rw[show cs=c (l.getD i d)from o,List.getD,m0 h];rfl
def bt(s:u4)(i:Nat): Nat:=(s.data.toList.getD i 0).toNat
theorem vK{P:u7}{t:u6}(s:u4)(a:P.underlying t=some .string)(i:Nat)(h:i<s.size)(W:y9): (Instr.index t (.string s) (.int .i64 (i:Int))).run P W=.ok (.int .u8 (bt s i:Nat)) W:=by
 rw[Dl s a .i64 (i:Int) i rfl h];congr 2;unfold bt;simp[List.getD,h,<- ByteArray.getElem_eq_getElem_data]
def Ao(a b:u4): Bool:=Op.bytesLess a.toList b.toList
theorem qQ(W:World)(x y:Operand)(a b:ByteArray): Qn prog W (do eqGuard .geq 9 x y (.string a) (.string b);binOp .geq 9 (.string a) (.string b)) (.bool (!Ao a b)):=λc _=>by
 simp[go_sem,Ao]
theorem qT(W:World)(x y:Operand)(a b:ByteArray): Qn prog W (do eqGuard .lss 9 x y (.string a) (.string b);binOp .lss 9 (.string a) (.string b)) (.bool (Ao a b)):=λc _=>by
 simp[go_sem,Ao]
theorem UJ(W:y9)(s:u4)(i:Nat)(h:i<s.size): Qn prog W (Instr.index 9 (.string s) (.int .i64 (i:Int))) (.int .u8 (bt s i:Nat)):=λa _=>vK s Tryz.underlying9 i h a
theorem QQ(n:Nat)(h:n<=4611686018427387904): IntKind.i64.wrap ((n:Int)+1)=((n+1:Nat):Int):=by rw[Lg _ x3];omega
theorem wJ{n:Nat}(h:n<=4611686018427387904)(a:0<n): IntKind.i64.wrap ((n:Int)-1)=((n-1:Nat):Int):=by rw[Lg _ x3];omega
section
variable {P:Program} {w0:World} {t bt':TypeId} {ti:TI} {g o:Nat} {cs:List Value}
theorem Zt(sz:Nat){a:List (Nat×Nat×Option Bool)}{j off:Nat}{b:Option Bool}(c:YH P t=some ti)(d:ti.k=.struct a)(h:VQ a j=some (off,sz,b))(e:sz≠0):
 Qn P w0 (Instr.fieldAt t (.pointer (some ⟨g,o,none⟩)) j) (.pointer (some ⟨g,o+off,none⟩)):=λW _=>A8 c d h e
theorem DX{v:z0}(a:YH P t=some ti)(b:ti.k.agg=false)(c:Bx w0 g bt' cs.toArray)(d:cs[o]?=some v):
 Qn P w0 (Instr.loadAt t (.pointer (some ⟨g,o,none⟩))) v:=λW e=>Ig a b (c.later e) d
theorem jK(a:YH P t=some ti)(b:ti.k.agg=true)(c:Bx w0 g bt' cs.toArray)(d:o+ti.size<=cs.length):
 Qn P w0 (Instr.loadAt t (.pointer (some ⟨g,o,none⟩))) (.agg ((cs.drop o).take ti.size).toArray):=λW e=>If a b (c.later e) d
end
theorem FZ(W:World)(x y:Operand)(a b:Bool): Qn prog W (do eqGuard .neq 4 x y (.bool a) (.bool b);binOp .neq 4 (.bool a) (.bool b)) (.bool (a != b)):=λc _=>by
 simp[go_sem];cases a<;>cases b<;>rfl
theorem wZ{w0:y9}{f:FuncId}{t:u6}{cs:b7}{args:Nat->b7}{R:z0}(a:XB prog f)(h:∀W,Below w0.heap.size w0 W->∀g,Bx W g t cs->RetAt prog W f (args g) R): XB prog f/\∀W,Below w0.heap.size w0 W->∀g,Bx W g t cs->b9 prog f (args g) W R:=⟨a,λW c g d=>(h W c g d).at⟩
def Ye(n:Nat)(f:Nat->Bool): Bool:=(List.range n).any f
theorem J2{n:Nat}{f:Nat->Bool}(h:∀j,j<n->f j=false): Ye n f=false:=by
 unfold Ye;rw[List.any_eq_false];intro j a;rw[h j (Lr.1 a)];decide
theorem KK{n k:Nat}{f:Nat->Bool}(a:k<n)(h:f k=true): Ye n f=true:=Uj.2 ⟨k,Lr.2 a,h⟩
theorem anyB_iff{n:Nat}{f:Nat->Bool}: Ye n f=true↔∃j,j<n/\f j=true:=by
 unfold Ye;rw[Uj];exact⟨λ⟨j,a,b⟩=>⟨j,Lr.1 a,b⟩,λ⟨j,a,b⟩=>⟨j,Lr.2 a,b⟩⟩
section
variable {w0:World} {A:Option Addr} {n c k:Nat} {f:Nat->List Value} {g:Nat} {T:TypeId} {cs:List Value}
theorem H9(c i:Nat)(a:RdK w0 A n k f)(h:i<n): Qn prog w0 (Instr.indexAt 23 (.slice A n c) (.int .i64 (i:Int))) (.pointer (some (Xi A (i*6+0)))):=JM 6 (Qu 23 _ rfl) rfl x4 a h
theorem JN(c i:Nat)(a:RdK w0 A n k f)(h:i<n): Qn prog w0 (Instr.indexAt 25 (.slice A n c) (.int .i64 (i:Int))) (.pointer (some (Xi A (i*1+0)))):=JM 1 (Qu 25 _ rfl) rfl x4 a h
theorem Cg(c i:Nat)(a:RdK w0 A n k f)(h:i<n): Qn prog w0 (Instr.indexAt 57 (.slice A n c) (.int .i64 (i:Int))) (.pointer (some (Xi A (i*3+0)))):=JM 3 (Qu 57 _ rfl) rfl x4 a h
theorem Ob(c:Nat)(w0:y9)(i:Nat)(a:RdK w0 A n k f)(h:i<n): Qn prog w0 (Instr.indexAt 48 (.slice A n c) (.int .i64 (i:Int))) (.pointer (some (Xi A (i*3+0)))):=JM 3 (Qu 48 _ rfl) rfl x4 a h
theorem GM(c i:Nat)(a:RdK w0 A n k f)(h:i<n): Qn prog w0 (Instr.indexAt 28 (.slice A n c) (.int .i64 (i:Int))) (.pointer (some (Xi A (i*2+0)))):=JM 2 (Qu 28 _ rfl) rfl x4 a h
theorem VK(c i:Nat)(a:RdK w0 A n k f)(h:i<n): Qn prog w0 (Instr.indexAt 33 (.slice A n c) (.int .i64 (i:Int))) (.pointer (some (Xi A (i*6+0)))):=JM 6 (Qu 33 _ rfl) rfl x4 a h
theorem YN(c i:Nat)(a:RdK w0 A n k f)(h:i<n): Qn prog w0 (Instr.indexAt 50 (.slice A n c) (.int .i64 (i:Int))) (.pointer (some (Xi A (i*4+0)))):=JM 4 (Qu 50 _ rfl) rfl x4 a h
theorem oE(a:RdK w0 A n k f){i:Nat}(h:i<n): Qn prog w0 (Instr.indexAt 231 (.slice A n c) (.int .i64 (i:Int))) (.pointer (some (Xi A (i*1+0)))):=JM 1 (Qu 231 _ rfl) rfl x4 a h
theorem BD(w0:y9)(c i:Nat)(a:RdK w0 A n k f)(h:i<n): Qn prog w0 (Instr.indexAt 82 (.slice A n c) (.int .i64 (i:Int))) (.pointer (some (Xi A (i*1+0)))):=JM 1 (Qu 82 _ rfl) rfl x4 a h
theorem C7(c i:Nat)(a:RdK w0 A n k f)(h:i<n): Qn prog w0 (Instr.indexAt 192 (.slice A n c) (.int .i64 (i:Int))) (.pointer (some (Xi A (i*1+0)))):=JM 1 (Qu 192 _ rfl) rfl x4 a h
theorem eX{i o:Nat}: Qn prog w0 (Instr.fieldAt 56 (.pointer (some (Xi A (i*k+o)))) 0) (.pointer (some (Xi A (i*k+(o+0))))):=G9 1 (Qu 56 _ rfl) rfl rfl x4
theorem Bw(w0:y9)(A:u5)(k i o:Nat): Qn prog w0 (Instr.fieldAt 56 (.pointer (some (Xi A (i*k+o)))) 1) (.pointer (some (Xi A (i*k+(o+1))))):=G9 3 (Qu 56 _ rfl) rfl rfl x4
theorem eW{i o:Nat}: Qn prog w0 (Instr.fieldAt 52 (.pointer (some (Xi A (i*k+o)))) 1) (.pointer (some (Xi A (i*k+(o+1))))):=G9 1 (Qu 52 _ rfl) rfl rfl x4
theorem eV{i o:Nat}: Qn prog w0 (Instr.fieldAt 54 (.pointer (some (Xi A (i*k+o)))) 0) (.pointer (some (Xi A (i*k+(o+0))))):=G9 1 (Qu 54 _ rfl) rfl rfl x4
theorem V8(w0:y9)(g o:Nat): Qn prog w0 (Instr.fieldAt 27 (.pointer (some ⟨g,o,none⟩)) 0) (.pointer (some ⟨g,o+0,none⟩)):=Zt 1 (Qu 27 _ rfl) rfl rfl x4
theorem JV(g o:Nat): Qn prog w0 (Instr.fieldAt 27 (.pointer (some ⟨g,o,none⟩)) 1) (.pointer (some ⟨g,o+1,none⟩)):=Zt 1 (Qu 27 _ rfl) rfl rfl x4
theorem ZB(w0:y9)(g o:Nat): Qn prog w0 (Instr.fieldAt 35 (.pointer (some ⟨g,o,none⟩)) 0) (.pointer (some ⟨g,o+0,none⟩)):=Zt 1 (Qu 35 _ rfl) rfl rfl x4
theorem ZC(w0:y9)(g o:Nat): Qn prog w0 (Instr.fieldAt 35 (.pointer (some ⟨g,o,none⟩)) 1) (.pointer (some ⟨g,o+1,none⟩)):=Zt 1 (Qu 35 _ rfl) rfl rfl x4
theorem Yq(w0:y9)(g o:Nat): Qn prog w0 (Instr.fieldAt 35 (.pointer (some ⟨g,o,none⟩)) 2) (.pointer (some ⟨g,o+2,none⟩)):=Zt 2 (Qu 35 _ rfl) rfl rfl x4
theorem Jd(g o:Nat): Qn prog w0 (Instr.fieldAt 35 (.pointer (some ⟨g,o,none⟩)) 3) (.pointer (some ⟨g,o+4,none⟩)):=Zt 1 (Qu 35 _ rfl) rfl rfl x4
theorem Je(g o:Nat): Qn prog w0 (Instr.fieldAt 35 (.pointer (some ⟨g,o,none⟩)) 4) (.pointer (some ⟨g,o+5,none⟩)):=Zt 1 (Qu 35 _ rfl) rfl rfl x4
theorem AY(w0:y9)(g o:Nat): Qn prog w0 (Instr.fieldAt 35 (.pointer (some ⟨g,o,none⟩)) 5) (.pointer (some ⟨g,o+6,none⟩)):=Zt 3 (Qu 35 _ rfl) rfl rfl x4
theorem AZ(w0:y9)(g o:Nat): Qn prog w0 (Instr.fieldAt 35 (.pointer (some ⟨g,o,none⟩)) 6) (.pointer (some ⟨g,o+9,none⟩)):=Zt 3 (Qu 35 _ rfl) rfl rfl x4
theorem A7(w0:y9)(g o:Nat): Qn prog w0 (Instr.fieldAt 35 (.pointer (some ⟨g,o,none⟩)) 7) (.pointer (some ⟨g,o+12,none⟩)):=Zt 1 (Qu 35 _ rfl) rfl rfl x4
theorem Jf(w0:y9)(g o:Nat): Qn prog w0 (Instr.fieldAt 35 (.pointer (some ⟨g,o,none⟩)) 8) (.pointer (some ⟨g,o+13,none⟩)):=Zt 1 (Qu 35 _ rfl) rfl rfl x4
theorem Db(i o:Nat)(b:RdK w0 A n k f)(a:i<n)(c:o+3<=k){l:a8}(d:l.length=3)(e:((f i).drop o).take 3=l): Qn prog w0 (Instr.loadAt 32 (.pointer (some (Xi A (i*k+o))))) (.agg l.toArray):=AB (Qu 32 _ rfl) rfl b a d c e
theorem jJ{o:Nat}(a:Bx w0 g T cs.toArray)(b:o+3<=cs.length): Qn prog w0 (Instr.loadAt 32 (.pointer (some ⟨g,o,none⟩))) (.agg ((cs.drop o).take 3).toArray):=jK (Qu 32 _ rfl) rfl a b
theorem Ci(i o:Nat)(b:RdK w0 A n k f)(a:i<n)(c:o+6<=k){l:a8}(d:l.length=6)(e:((f i).drop o).take 6=l): Qn prog w0 (Instr.loadAt 76 (.pointer (some (Xi A (i*k+o))))) (.agg l.toArray):=AB (Qu 76 _ rfl) rfl b a d c e
theorem Zf(i o:Nat)(b:RdK w0 A n k f)(a:i<n)(c:o+4<=k){l:a8}(d:l.length=4)(e:((f i).drop o).take 4=l): Qn prog w0 (Instr.loadAt 56 (.pointer (some (Xi A (i*k+o))))) (.agg l.toArray):=AB (Qu 56 _ rfl) rfl b a d c e
theorem Ch(i o:Nat)(b:RdK w0 A n k f)(a:i<n)(c:o+2<=k){l:a8}(d:l.length=2)(e:((f i).drop o).take 2=l): Qn prog w0 (Instr.loadAt 52 (.pointer (some (Xi A (i*k+o))))) (.agg l.toArray):=AB (Qu 52 _ rfl) rfl b a d c e
theorem BF(i o:Nat)(b:RdK w0 A n k f)(a:i<n)(c:o+6<=k){l:a8}(d:l.length=6)(e:((f i).drop o).take 6=l): Qn prog w0 (Instr.loadAt 54 (.pointer (some (Xi A (i*k+o))))) (.agg l.toArray):=AB (Qu 54 _ rfl) rfl b a d c e
theorem Wx{o:Nat}(a:Bx w0 g T cs.toArray)(b:o+14<=cs.length): Qn prog w0 (Instr.loadAt 35 (.pointer (some ⟨g,o,none⟩))) (.agg ((cs.drop o).take 14).toArray):=jK (Qu 35 _ rfl) rfl a b
theorem Ww(w0:y9)(o:Nat)(a:Bx w0 g T cs.toArray){v:z0}(b:cs[o]?=some v): Qn prog w0 (Instr.loadAt 23 (.pointer (some ⟨g,o,none⟩))) v:=DX (Qu 23 _ rfl) rfl a b
theorem VO(w0:y9)(o:Nat)(a:Bx w0 g T cs.toArray){v:z0}(b:cs[o]?=some v): Qn prog w0 (Instr.loadAt 25 (.pointer (some ⟨g,o,none⟩))) v:=DX (Qu 25 _ rfl) rfl a b
theorem VM(i o:Nat)(b:RdK w0 A n k f)(a:i<n)(c:o<k){v:z0}(d:(f i)[o]?=some v): Qn prog w0 (Instr.loadAt 57 (.pointer (some (Xi A (i*k+o))))) v:=DY (Qu 57 _ rfl) rfl b a c d
theorem Ic(i o:Nat)(b:RdK w0 A n k f)(a:i<n)(c:o<k){v:z0}(d:(f i)[o]?=some v): Qn prog w0 (Instr.loadAt 28 (.pointer (some (Xi A (i*k+o))))) v:=DY (Qu 28 _ rfl) rfl b a c d
theorem Js(w0:y9)(o:Nat)(a:Bx w0 g T cs.toArray){v:z0}(b:cs[o]?=some v): Qn prog w0 (Instr.loadAt 28 (.pointer (some ⟨g,o,none⟩))) v:=DX (Qu 28 _ rfl) rfl a b
theorem Cj(w0:y9)(o:Nat)(a:Bx w0 g T cs.toArray){v:z0}(b:cs[o]?=some v): Qn prog w0 (Instr.loadAt 33 (.pointer (some ⟨g,o,none⟩))) v:=DX (Qu 33 _ rfl) rfl a b
theorem jD(b:RdK w0 A n k f){i o:Nat}(a:i<n)(c:o<k){v:z0}(d:(f i)[o]?=some v): Qn prog w0 (Instr.loadAt 50 (.pointer (some (Xi A (i*k+o))))) v:=DY (Qu 50 _ rfl) rfl b a c d
theorem C9(w0:y9)(i o:Nat)(b:RdK w0 A n k f)(a:i<n)(c:o<k){v:z0}(d:(f i)[o]?=some v): Qn prog w0 (Instr.loadAt 82 (.pointer (some (Xi A (i*k+o))))) v:=DY (Qu 82 _ rfl) rfl b a c d
theorem C8(w0:y9)(i o:Nat)(b:RdK w0 A n k f)(a:i<n)(c:o<k){v:z0}(d:(f i)[o]?=some v): Qn prog w0 (Instr.loadAt 3 (.pointer (some (Xi A (i*k+o))))) v:=DY (Qu 3 _ rfl) rfl b a c d
theorem Y7(w0:y9)(o:Nat)(a:Bx w0 g T cs.toArray){v:z0}(b:cs[o]?=some v): Qn prog w0 (Instr.loadAt 3 (.pointer (some ⟨g,o,none⟩))) v:=DX (Qu 3 _ rfl) rfl a b
theorem BG(w0:y9)(i o:Nat)(b:RdK w0 A n k f)(a:i<n)(c:o<k){v:z0}(d:(f i)[o]?=some v): Qn prog w0 (Instr.loadAt 9 (.pointer (some (Xi A (i*k+o))))) v:=DY (Qu 9 _ rfl) rfl b a c d
theorem bP(w0:y9)(o:Nat)(a:Bx w0 g T cs.toArray){v:z0}(b:cs[o]?=some v): Qn prog w0 (Instr.loadAt 4 (.pointer (some ⟨g,o,none⟩))) v:=DX (Qu 4 _ rfl) rfl a b
theorem jE(b:RdK w0 A n k f){i o:Nat}(a:i<n)(c:o<k){v:z0}(d:(f i)[o]?=some v): Qn prog w0 (Instr.loadAt 5 (.pointer (some (Xi A (i*k+o))))) v:=DY (Qu 5 _ rfl) rfl b a c d
end
section
variable {w0:World} {A:Option Addr} {n c k:Nat} {f:Nat->List Value} {g:Nat} {T:TypeId} {cs:List Value}
theorem Ka(w0:y9)(c i:Nat)(a:RdK w0 A n k f)(h:i<n): Qn prog w0 (Instr.indexAt 61 (.slice A n c) (.int .i64 (i:Int))) (.pointer (some (Xi A (i*2+0)))):=JM 2 (Qu 61 _ rfl) rfl x4 a h
theorem YO(w0:y9)(c i:Nat)(a:RdK w0 A n k f)(h:i<n): Qn prog w0 (Instr.indexAt 63 (.slice A n c) (.int .i64 (i:Int))) (.pointer (some (Xi A (i*2+0)))):=JM 2 (Qu 63 _ rfl) rfl x4 a h
theorem Wt(a:RdK w0 A n k f){i:Nat}(h:i<n): Qn prog w0 (Instr.indexAt 93 (.slice A n c) (.int .i64 (i:Int))) (.pointer (some (Xi A (i*1+0)))):=JM 1 (Qu 93 _ rfl) rfl x4 a h
theorem XL(w0:y9)(g o:Nat): Qn prog w0 (Instr.fieldAt 67 (.pointer (some ⟨g,o,none⟩)) 0) (.pointer (some ⟨g,o+0,none⟩)):=Zt 1 (Qu 67 _ rfl) rfl rfl x4
theorem XM(w0:y9)(g o:Nat): Qn prog w0 (Instr.fieldAt 67 (.pointer (some ⟨g,o,none⟩)) 1) (.pointer (some ⟨g,o+1,none⟩)):=Zt 2 (Qu 67 _ rfl) rfl rfl x4
theorem Hm{o:Nat}: Qn prog w0 (Instr.fieldAt 67 (.pointer (some ⟨g,o,none⟩)) 2) (.pointer (some ⟨g,o+3,none⟩)):=Zt 1 (Qu 67 _ rfl) rfl rfl x4
theorem K4(w0:y9)(A:u5)(k i o:Nat): Qn prog w0 (Instr.fieldAt 65 (.pointer (some (Xi A (i*k+o)))) 0) (.pointer (some (Xi A (i*k+(o+0))))):=G9 1 (Qu 65 _ rfl) rfl rfl x4
theorem Yh(w0:y9)(g o:Nat): Qn prog w0 (Instr.fieldAt 65 (.pointer (some ⟨g,o,none⟩)) 0) (.pointer (some ⟨g,o+0,none⟩)):=Zt 1 (Qu 65 _ rfl) rfl rfl x4
theorem Fb{o:Nat}: Qn prog w0 (Instr.fieldAt 65 (.pointer (some ⟨g,o,none⟩)) 1) (.pointer (some ⟨g,o+1,none⟩)):=Zt 1 (Qu 65 _ rfl) rfl rfl x4
theorem Dy(w0:y9)(A:u5)(k i o:Nat): Qn prog w0 (Instr.fieldAt 102 (.pointer (some (Xi A (i*k+o)))) 0) (.pointer (some (Xi A (i*k+(o+0))))):=G9 1 (Qu 102 _ rfl) rfl rfl x4
theorem JE(w0:y9)(A:u5)(k i o:Nat): Qn prog w0 (Instr.fieldAt 102 (.pointer (some (Xi A (i*k+o)))) 1) (.pointer (some (Xi A (i*k+(o+1))))):=G9 1 (Qu 102 _ rfl) rfl rfl x4
theorem Qm(w0:y9)(g o:Nat): Qn prog w0 (Instr.fieldAt 69 (.pointer (some ⟨g,o,none⟩)) 0) (.pointer (some ⟨g,o+0,none⟩)):=Zt 4 (Qu 69 _ rfl) rfl rfl x4
theorem Qe(w0:y9)(g o:Nat): Qn prog w0 (Instr.fieldAt 69 (.pointer (some ⟨g,o,none⟩)) 1) (.pointer (some ⟨g,o+4,none⟩)):=Zt 14 (Qu 69 _ rfl) rfl rfl x4
theorem Jg(w0:y9)(g o:Nat): Qn prog w0 (Instr.fieldAt 69 (.pointer (some ⟨g,o,none⟩)) 2) (.pointer (some ⟨g,o+18,none⟩)):=Zt 1 (Qu 69 _ rfl) rfl rfl x4
theorem I7(b:RdK w0 A n k f){i o:Nat}(a:i<n)(c:o+2<=k){l:a8}(d:l.length=2)(e:((f i).drop o).take 2=l): Qn prog w0 (Instr.loadAt 65 (.pointer (some (Xi A (i*k+o))))) (.agg l.toArray):=AB (Qu 65 _ rfl) rfl b a d c e
theorem I8(b:RdK w0 A n k f){i o:Nat}(a:i<n)(c:o+2<=k){l:a8}(d:l.length=2)(e:((f i).drop o).take 2=l): Qn prog w0 (Instr.loadAt 102 (.pointer (some (Xi A (i*k+o))))) (.agg l.toArray):=AB (Qu 102 _ rfl) rfl b a d c e
theorem X8(w0:y9)(o:Nat)(a:Bx w0 g T cs.toArray){v:z0}(b:cs[o]?=some v): Qn prog w0 (Instr.loadAt 61 (.pointer (some ⟨g,o,none⟩))) v:=DX (Qu 61 _ rfl) rfl a b
theorem VN(w0:y9)(i o:Nat)(b:RdK w0 A n k f)(a:i<n)(c:o<k){v:z0}(d:(f i)[o]?=some v): Qn prog w0 (Instr.loadAt 63 (.pointer (some (Xi A (i*k+o))))) v:=DY (Qu 63 _ rfl) rfl b a c d
theorem YP(w0:y9)(o:Nat)(a:Bx w0 g T cs.toArray){v:z0}(b:cs[o]?=some v): Qn prog w0 (Instr.loadAt 63 (.pointer (some ⟨g,o,none⟩))) v:=DX (Qu 63 _ rfl) rfl a b
end
def nv(x:Nm): Dyadic:=dy (Qi x.b (Qa x.s)) x.e
def sg(x:Nm): Int:=VH (nv x)
def Gu(x:Nm): Bool:=(neg (dm (nv x))==x.b&&(Qx (dm (nv x))).toList==x.s.toList)&&de (nv x)==x.e
structure okN (x:Nm):Prop where
 sz:x.s.size<=16384
 lo:-70000<=x.e
 hi:x.e<=70000
structure okS (x:Nm):Prop where
 sz:x.s.size<=20
 lo:-200<=x.e
 hi:x.e<=200
def DL:Tm:=⟨⟨#[]⟩,nm0⟩
def di:Py:=⟨0,[]⟩
def ndD:Nd:=⟨0,nm0,di⟩
def Qb(l:List Tm)(k:Nat): Tm:=l.getD k DL
def Xn(l:List Nm)(k:Nat): Nm:=l.getD k nm0
def Xc(l:List (Nm×Nm))(k:Nat): Nm×Nm:=l.getD k (nm0,nm0)
def QC(l:List (List Nm))(k:Nat): List Nm:=l.getD k []
def Q7(l:List Py)(k:Nat): Py:=l.getD k di
def Qw(l:List Nd)(k:Nat): Nd:=l.getD k ndD
def Jq(m:u4)(vars:Int): Bool:=bif Ye m.size (λj=>decide ((bt m j:Int)>127))then false else((m.size:Int)==vars)
def E4(vars:Int)(l:List Tm)(k:Nat): Bool:=((!Jq (Qb l k).m vars||sg (Qb l k).c==0)||!Gu (Qb l k).c)||(decide ((k:Int)>0)&&!Ao (Qb l (k-1)).m (Qb l k).m)
def Vb(p:Py): Int:=if 0<=p.vars/\p.vars<=12 then(if 4096<p.ts.length then 3 else if Ye p.ts.length (E4 p.vars p.ts)then 1 else 0)else 1
abbrev cv(l:List Nd)(U:Nat->u5)(u:Nat->Nat)(j:Nat): a8:=[.int .i64 (Qw l j).split,.bool (Qw l j).ο.b,.string (Qw l j).ο.s,.int .i64 (Qw l j).ο.e,.int .i64 (Qw l j).sum.vars,.slice (U j) (Qw l j).sum.ts.length (u j)]
abbrev ng(l:List Nd)(U:Nat->u5)(n u:Nat->Nat)(j:Nat): a8:=[.int .i64 (Qw l j).split,.bool (Qw l j).ο.b,.string (Qw l j).ο.s,.int .i64 (Qw l j).ο.e,.int .i64 (Qw l j).sum.vars,.slice (U j) (n j) (u j)]
abbrev ndG(l:List Nd)(v:Nat->z0)(j:Nat): a8:=[.int .i64 (Qw l j).split,.bool (Qw l j).ο.b,.string (Qw l j).ο.s,.int .i64 (Qw l j).ο.e,.int .i64 (Qw l j).sum.vars,v j]
abbrev yW(l:List Py)(U:Nat->u5)(u:Nat->Nat)(j:Nat): a8:=[.int .i64 (Q7 l j).vars,.slice (U j) (Q7 l j).ts.length (u j)]
abbrev sI(l:List Py)(v:Nat->z0)(j:Nat): a8:=[.int .i64 (Q7 l j).vars,v j]
abbrev zZ(l:List (List Nm))(U:Nat->u5)(u:Nat->Nat)(j:Nat): a8:=[.slice (U j) (QC l j).length (u j)]
theorem Zh{l:List Tm}{k:Nat}(h:k<l.length): Qb l k∈l:=by
 unfold Qb;rw[List.getD,m0 h];exact Sq h
theorem GN{l:List Nm}{k:Nat}(h:k<l.length): Xn l k∈l:=by
 unfold Xn;rw[List.getD,m0 h];exact Sq h
theorem SN{l:List (Nm×Nm)}{k:Nat}(h:k<l.length): Xc l k∈l:=by
 unfold Xc;rw[List.getD,m0 h];exact Sq h
theorem SD{l:List Py}{k:Nat}(h:k<l.length): Q7 l k∈l:=by
 unfold Q7;rw[List.getD,m0 h];exact Sq h
theorem RB{l:List Nd}{k:Nat}(h:k<l.length): Qw l k∈l:=by
 unfold Qw;rw[List.getD,m0 h];exact Sq h
theorem VS{l:List (List Nm)}{k:Nat}(h:k<l.length): QC l k∈l:=by
 unfold QC;rw[List.getD,m0 h];exact Sq h
theorem SlV.rd{α:Type}{o k:Nat}{p:Rdg α}{w:y9}{l:List α}{v:z0}(h:SlV o k p w l v):
  ∃A c f,v=.slice A l.length c/\l.length<=c/\(A=none->l.length=0/\c=0)/\RdK w A l.length k f/\∀i (a:i<l.length),(f i).length=k/\p w l[i] (f i):=by
 obtain⟨A,c,d,g,m,q⟩:=h;by_cases n:0<l.length
 ·obtain⟨b,off,e,_,r⟩:=q n;have key:∀i,∃cs:a8,∀(a:i<l.length),cs.length=k/\p w l[i] cs/\∀j,j<k->w.cell? ⟨b,off+i*k+j,none⟩=cs[j]?:=λi=>by
   by_cases a:i<l.length
   ·obtain⟨cs,s,t,u⟩:=r i a;exact⟨cs,λ_=>⟨s,t,u⟩⟩
   ·exact⟨[],λh=>absurd h a⟩
  refine⟨A,c,λi=>Classical.choose (key i),d,g,m,λ_=>⟨b,off,e,λj x i a=>(Lp (key j) x).2.2 i a⟩,λi a=>⟨(Lp (key i) a).1,(Lp (key i) a).2.1⟩⟩
 ·exact⟨A,c,λ_=>[],d,g,m,λh=>absurd h n,λi a=>absurd a x3⟩
theorem RdK.congr{w:y9}{A:u5}{n k:Nat}{f g:Nat->a8}(h:RdK w A n k f)(c:∀j,j<n->f j=g j): RdK w A n k g:=λd=>by
 obtain⟨b,off,e,l⟩:=h d;exact⟨b,off,e,λj a i m=>by rw[<- c j a];exact l j a i m⟩
theorem ZP{α:Type}{l:List α}{k:Nat}{d:α}(h:k<l.length): l.getD k d=l[k]:=by rw[List.getD,m0 h];rfl
theorem SlV.enc{α:Type}{b k:Nat}{enc:α->a8}{w:y9}{l:List α}{v:z0}(d:α)(h:SlV b k (λ_ x cs=>cs=enc x) w l v):
  ∃A c,v=.slice A l.length c/\l.length<=c/\(A=none->l.length=0/\c=0)/\RdK w A l.length k (λj=>enc (l.getD j d)):=by
 obtain⟨A,c,f,e,g,i,m,n⟩:=h.rd;exact⟨A,c,e,g,i,m.congr λj a=>by rw[(n j a).2,ZP a]⟩
theorem SlV.rdPy{a:Nat}{w:y9}{l:List Py}{v:z0}(h:SlV a 2 (gK a) w l v):
  ∃(A:u5) (c:Nat) (e:Nat->z0),v=.slice A l.length c/\l.length<=c/\(A=none->l.length=0/\c=0)/\RdK w A l.length 2 (λj=>[.int .i64 (Q7 l j).vars,e j])/\∀j,j<l.length->SlV a 4 Vv w (Q7 l j).ts (e j):=by
 obtain⟨A,c,f,g,k,m,n,o⟩:=h.rd;have key:∀i,∃u:z0,i<l.length->f i=[.int .i64 (Q7 l i).vars,u]/\SlV a 4 Vv w (Q7 l i).ts u:=λi=>by
  by_cases b:i<l.length
  ·obtain⟨_,u,p,q⟩:=o i b;unfold Q7;rw[ZP b];exact⟨u,λ_=>⟨p,q⟩⟩
  ·exact⟨undef,λh=>absurd h b⟩
 exact⟨A,c,λi=>Classical.choose (key i),g,k,m,n.congr λj d=>(Lp (key j) d).1,λj d=>(Lp (key j) d).2⟩
theorem SlV.rdNd{a:Nat}{w:y9}{l:List Nd}{v:z0}(h:SlV a 6 (nh a) w l v):
  ∃(A:u5) (c:Nat) (k:Nat->z0),v=.slice A l.length c/\l.length<=c/\(A=none->l.length=0/\c=0)/\RdK w A l.length 6 (λj=>[.int .i64 (Qw l j).split,.bool (Qw l j).ο.b,.string (Qw l j).ο.s,.int .i64 (Qw l j).ο.e,.int .i64 (Qw l j).sum.vars,k j])/\∀j,j<l.length->SlV a 4 Vv w (Qw l j).sum.ts (k j):=by
 obtain⟨A,c,f,m,n,o,p,q⟩:=h.rd;have key:∀i,∃u:z0,i<l.length->f i=[.int .i64 (Qw l i).split,.bool (Qw l i).ο.b,.string (Qw l i).ο.s,.int .i64 (Qw l i).ο.e,.int .i64 (Qw l i).sum.vars,u]/\SlV a 4 Vv w (Qw l i).sum.ts u:=λi=>by
  by_cases d:i<l.length
  ·obtain⟨_,u,r,t⟩:=q i d;unfold Qw;rw[ZP d];exact⟨u,λ_=>⟨r,t⟩⟩
  ·exact⟨undef,λh=>absurd h d⟩
 exact⟨A,c,λi=>Classical.choose (key i),m,n,o,p.congr λj g=>(Lp (key j) g).1,λj g=>(Lp (key j) g).2⟩
theorem SlV.rdPt{a:Nat}{w:y9}{l:List (List Nm)}{v:z0}(h:SlV a 1 (kU a) w l v):
  ∃(A:u5) (c:Nat) (e:Nat->z0),v=.slice A l.length c/\l.length<=c/\(A=none->l.length=0/\c=0)/\RdK w A l.length 1 (λj=>[e j])/\∀j,j<l.length->SlV a 3 V0 w (QC l j) (e j):=by
 obtain⟨A,c,f,g,k,m,n,o⟩:=h.rd;have key:∀i,∃u:z0,i<l.length->f i=[u]/\SlV a 3 V0 w (QC l i) u:=λi=>by
  by_cases b:i<l.length
  ·obtain⟨_,u,p,q⟩:=o i b;unfold QC;rw[ZP b];exact⟨u,λ_=>⟨p,q⟩⟩
  ·exact⟨undef,λh=>absurd h b⟩
 exact⟨A,c,λi=>Classical.choose (key i),g,k,m,n.congr λj d=>(Lp (key j) d).1,λj d=>(Lp (key j) d).2⟩
def Hq(l:List (Nm×Nm))(k:Nat): Bool:=decide (VH (nv (Xc l k).1-nv (Xc l k).2)>=0)
def KM(l:List (Nm×Nm)): Int:=if Ye l.length (Hq l)then 5 else if l.length=0 then 1 else 0
def ZD(n:Nat)(f:Nat->Bool): Int:=match (List.range n).find? f with|some k=>(k:Int)|none=>-1
theorem KS(f:Nat->Bool){n k:Nat}(h:∀j,j<k->f j=false)(a:k<n)(b:f k=true): ZD n f=(k:Int):=by
 have c:(List.range n).find? f=some k:=by
  rw[List.find?_range_eq_some];exact⟨b,Lr.2 a,λj d=>by rw[h j d];rfl⟩
 unfold ZD;rw[c]
theorem Vk(f:Nat->Bool){n:Nat}(h:∀j,j<n->f j=false): ZD n f=-1:=by
 have a:(List.range n).find? f=none:=by
  rw[List.find?_eq_none];intro j b;rw[h j (Lr.1 b)];decide
 unfold ZD;rw[a]
theorem GL(n:Nat)(f:Nat->Bool): decide (ZD n f>=0)=Ye n f:=by
 by_cases h:∃j,j<n/\f j=true
 ·rw[anyB_iff.2 h];have c:∃k,(List.range n).find? f=some k:=by
   rw[<- Option.isSome_iff_exists,List.find?_isSome];obtain⟨j,a,b⟩:=h;exact⟨j,Lr.2 a,b⟩
  obtain⟨k,d⟩:=c;unfold ZD;rw[d];simp
 ·have c:∀j,j<n->f j=false:=λj g=>by
   cases e:f j with
   | false=>rfl
   | true=>exact absurd ⟨j,g,e⟩ h
  rw[Vk _ c,J2 c];decide
structure okP (p:Py):Prop where
 len:p.ts.length<=4294967296
 tms:∀t,t∈p.ts->t.m.size<=1048576/\okN t.c
def YE(η:Int)(p:Py): Bool:=Vb p != 0||p.vars != η
def Q6(η:Int)(x:List Nm): Bool:=(x.length:Int) != η
def j5(x:Nm): Bool:=(x.b==false&&x.s.toList==(⟨#[]⟩:u4).toList)&&x.e==0
def Zv(η:Int)(x:Nd): Bool:=if(x.split != 0)=true then((x.split != 1||!j5 x.ο)||x.sum.vars != 0)||decide ((x.sum.ts.length:Int)>0)else Vb x.sum != 0||x.sum.vars != η
def Q2(δ vars:Int): Int:=if δ<1\/7<=δ\/vars<1 then 0 else if δ=5 then vars else if δ=2 then 2 else 1
def UC(x:Nm): Bool:=decide (sg x>0)
def Zi(s r c:Bool)(ν ε:Nm)(a:Nat)(ζ:Int)(b:Nat): Bool :=
 bif (s != UC ν)||(!s&&!j5 ν)then false else
 bif (r != UC ε)||(!r&&(!j5 ε||decide ((a:Int)>0)))then false else
 bif (s&&decide (ζ<1))||(!s&&ζ != 0)then false else
 c==decide ((b:Int)>0)
def De(nb a:Nat): Int:=bif decide ((nb:Int)>0)then 2*(nb:Int)else(a:Int)
def Ga(nb:Nat)(a:List (List Nm))(vars:Int)(b:Bool): Bool :=
 bif decide ((nb:Int)>0)||b then((nb:Int)==vars)&&((a.length:Int)==0)else((a.length:Int)==vars+1)&&!Ye a.length λj=>Q6 vars (QC a j)
open Go.Lib
def zV(d:Nat): UInt8:=UInt8.ofNat (48+d)
theorem be{c:UInt8}{d:Nat}(h:c.toNat=48+d): zV d=c:=by
 unfold zV;rw[<- h];simp
theorem Mv{v:Nat}(h:v<10): decDigits v=[zV v]:=by rw[decDigits,dif_pos h];rfl
theorem bg{v:Nat}(h:¬ v<10): decDigits v=decDigits (v / 10)++[zV (v % 10)]:=by rw[decDigits,dif_neg h];rfl
theorem bh:∀v,(decDigits v).length=nDigits v:=λv=>by
 induction v using Nat.strongRecOn with
 | _ v a =>
  by_cases h:v<10
  ·rw[Mv h,nDigits_small h];rfl
  ·rw[bg h,nDigits_big h,Lq,a (v / 10) x3];rfl
def Cf(c:UInt8): Bool:=decide (48<=c.toNat)&&decide (c.toNat<=57)
theorem isDig_iff{c:UInt8}: Cf c=true↔48<=c.toNat/\c.toNat<=57:=by unfold Cf;rw[Lu,decide_eq_true_eq,decide_eq_true_eq]
def JK(l:List UInt8): Nat:=l.foldl (λv c=>10*v+(c.toNat-48)) 0
theorem iX:JK []=0:=rfl
theorem My(l:List UInt8)(c:UInt8): JK (l++[c])=10*JK l+(c.toNat-48):=by simp[JK,List.foldl_append]
theorem Gs{l m:List UInt8}{i:Nat}(h:i<l.length): (l++m).getD i 0=l.getD i 0:=by
 rw[List.getD,List.getD,List.getElem?_append_left h]
def VF(l:List UInt8)(i:Nat): Bool:=!Cf (l.getD i 0)||(i==1&&l.getD 0 0==48)
def DS(l:List UInt8): Option Nat:=(List.range l.length).find? (VF l)
def KW(l:List UInt8): Option Nat:=match DS l with
 | some i=>some i
 | none=>match l with
  | []=>some 0
  | _::_=>none
theorem Wl{p:Nat->Bool}{n k:Nat}(h:∀j,j<k->p j=false)(a:k<n)(b:p k=true): (List.range n).find? p=some k:=by
 rw[List.find?_range_eq_some];exact⟨b,y8 a,λj c=>by simp[h j c]⟩
theorem Fc{p:Nat->Bool}{n:Nat}(h:∀j,j<n->p j=false): (List.range n).find? p=none:=by
 rw[List.find?_eq_none];intro j a;simp[h j (Lr.1 a)]
theorem I5{l:List UInt8}{k:Nat}(h:∀j,j<k->VF l j=false)(a:k<l.length)(b:VF l k=true): DS l=some k:=Wl h a b
theorem Af{l:List UInt8}(h:∀j,j<l.length->VF l j=false): DS l=none:=Fc h
theorem firstBad_none_iff{l:List UInt8}: DS l=none↔∀j,j<l.length->VF l j=false:=by
 refine⟨λh j a=>?_,Af⟩;have b:=List.find?_eq_none.1 h j (Lr.2 a);simpa using b
def good(l:List UInt8): Prop:=l≠[]/\(∀j,j<l.length->VF l j=false)
theorem spoil_none{l:List UInt8}: KW l=none↔good l:=by
 unfold KW good;cases h:DS l with
 | some i =>
  refine⟨λh=>(nomatch h),λa=>?_⟩;rw[Af a.2]at h;cases h
 | none =>
  have b:=firstBad_none_iff.1 h;cases l with
  | nil=>exact⟨λh=>(nomatch h),λh=>absurd rfl h.1⟩
  | cons c l=>exact⟨λ_=>⟨x6,b⟩,λ_=>rfl⟩
theorem O9{l:List UInt8}{j:Nat}(h:VF l j=false): Cf (l.getD j 0)=true:=by
 unfold VF at h;cases e:Cf (l.getD j 0)<;>simp_all
theorem Pw:∀ {l:List UInt8},good l->decDigits (JK l)=l/\(l.getD 0 0≠48->JK l≠0):=by
 intro l;induction l using OQ with
 | nil=>exact λh=>absurd rfl h.1
 | Vr m c i =>
  intro b;have k:Cf c=true:=by
   have a:=O9 (b.2 m.length x6);rw[List.getD,c6 (L8 _)]at a;simpa using a
  obtain⟨r,s⟩:=isDig_iff.1 k;rw[My];by_cases d:m=[]
  ·subst d;rw[iX,Mv x3,be (c:=c) x3];refine⟨rfl,λh e=>h ?_⟩;show c=48;exact UInt8.toNat_inj.1 (by show c.toNat=48;omega)
  ·have g:0<m.length:=List.length_pos_iff.2 d;have f:good m:=⟨d,λj n=>by
    have a:=b.2 j x7;unfold VF at a ⊢;rwa [Gs n,Gs g]at a⟩
   have o:m.getD 0 0≠48:=by
    have a:=b.2 1 x7;unfold VF at a;rw[Gs g]at a;simp only[Bool.or_eq_false_iff]at a;simpa using a.2
   obtain⟨p,q⟩:=i f;have t:=q o;refine⟨?_,λ_=>x3⟩;rw[bg x3,show(10*JK m+(c.toNat-48)) / 10=JK m by omega,show(10*JK m+(c.toNat-48)) % 10=c.toNat-48 by omega,p,be (c:=c) x3]
def XX:List UInt8->Option Nat
 | []=>some 0
 | c::l=>match c==45 with
  | true=>match l.head?==some 48 with
   | true=>some 1
   | false=>(KW l).map (· + 1)
  | false=>KW (c::l)
def YT:List UInt8->Int
 | []=>0
 | c::l=>match c==45 with
  | true=>-(JK l:Int)
  | false=>JK (c::l)
theorem H8{l:List UInt8}(h:XX l=none): itoa (YT l)=l:=by
 cases l with
 | nil=>cases h
 | cons c l =>
  simp only[XX]at h;simp only[YT];cases e:c==45 with
  | true =>
   rw[e]at h;dsimp only at h ⊢;cases a:l.head?==some 48 with
   | true=>rw[a]at h;cases h
   | false =>
    rw[a]at h;have b:KW l=none:=by
     cases b:KW l with
     | none=>rfl
     | some i=>rw[b]at h;cases h
    have g:=spoil_none.1 b;obtain⟨f,j⟩:=Pw g;have k:l.getD 0 0≠48:=by
     cases l with
     | nil=>exact absurd rfl g.1
     | cons d l=>simpa using a
    have n:=j k;unfold itoa;rw[if_pos x3,show(-(JK l:Int)).natAbs=JK l by omega,f];have m:c=45:=y8 e;rw[m]
  | false =>
   rw[e]at h;dsimp only at h ⊢;obtain⟨f,_⟩:=Pw (spoil_none.1 h);unfold itoa;rw[if_neg x3,S9,f]
def tg(z:Int): u4:=⟨(itoa z).toArray⟩
def ZL(l:List UInt8): Int:=match KW l with
 | some i=>i
 | none=>-1
theorem BX{l:List UInt8}{k:Nat}(h:∀j,j<k->VF l j=false)(a:k<l.length)(b:VF l k=true): ZL l=k:=by
 unfold ZL KW;rw[I5 h a b]
theorem gh{l:List UInt8}(h:∀j,j<l.length->VF l j=false)(a:l≠[]): ZL l=-1:=by
 unfold ZL;rw[spoil_none.2 ⟨a,h⟩]
def byt(s:u4)(i:Nat): Nat:=(s.data.toList.getD i 0).toNat
theorem KH(s:u4)(i:Nat)(h:i<s.size): (s[i]'h).toNat=byt s i:=by
 unfold byt;have a:i<s.data.toList.length:=y8 h;rw[List.getD,m0 a];rfl
theorem dv{P:u7}{t:u6}(s:u4)(a:P.underlying t=some .string)(i:Nat)(h:i<s.size)(W:y9): (Instr.index t (.string s) (.int .i64 (i:Int))).run P W=.ok (.int .u8 (byt s i:Nat)) W:=by
 rw[Dl s a .i64 _ i x3 h];rw[<- KH s i h];rfl
theorem nz{s:u4}{p:Nat}(h:byt s p<48): VF s.data.toList p=true:=by
 unfold VF Cf;have:¬ 48<=(s.data.toList.getD p 0).toNat:=Nat.not_le.2 h;rw[Lh this];rfl
theorem aL{s:u4}{p:Nat}(h:57<byt s p): VF s.data.toList p=true:=by
 unfold VF Cf;have:¬(s.data.toList.getD p 0).toNat<=57:=Nat.not_le.2 h;rw[Lh this,Uf];rfl
theorem aM(s:u4)(p:Nat)(a:48<=byt s p)(b:byt s p<=57): VF s.data.toList p=(p==1&&s.data.toList.getD 0 0==48):=by
 unfold VF Cf;rw[Lz (show 48<=(s.data.toList.getD p 0).toNat from a),Lz (show(s.data.toList.getD p 0).toNat<=57 from b)];rfl
theorem g0{s:u4}{i:Nat}: (s.data.toList.getD i 0==48)=decide (byt s i=48):=by
 unfold byt;by_cases h:s.data.toList.getD i 0=48
 ·rw[h];rfl
 ·have a:¬(s.data.toList.getD i 0).toNat=48:=λe=>h (UInt8.toNat_inj.1 e)
  rw[Lh a];simpa using h
theorem Zm(w:y9)(s:u4)(p:Nat): Below w.heap.size w (w.iter s p):=b1 w _
theorem an(s:ByteArray)(w:World)(H:s.size<=1099511627776):
  b9 prog 238 #[.string s] w (.int .i64 (ZL s.data.toList)):=by
 have B:=hV (show s.data.toList.length=s.size by simp);go_enter func238,ntmps238
 go_wp2
 go_loopw [2] (λr wr=>∃p:Nat,r=.int .i64 0/\p<=s.size/\wr=w.iter s p/\Hid (∀j,j<p->VF s.data.toList j=false)) (λ_ wr=>s.size-wr.iterPos w.heap.size)
 case atStart=>exact⟨0,rfl,La _,rfl,hV (λ_ h=>absurd h (R6 _))⟩
 case round =>
  obtain⟨p,rfl,I,rfl,b⟩:=hrel;by_cases a:p<s.size
  ·have u:Hid (p<s.data.toList.length):=hV (by rw[B.out];exact a);have C:(p:Int)<=1099511627776:=x3;by_cases c:byt s p<128
   ·have o:∀k,(Instr.next (.pointer (some ⟨w.heap.size,0,none⟩)) true k).run prog (w.iter s p)=_:=λk=>run_next_ascii (P:=prog) w s p k a (by rw[KH];exact c)
    simp only[KH]at o;by_cases q:byt s p<48
    ·have l:=hV (BX b.out u.out (nz q));have f:((byt s p:Nat):Int)<48:=x3;have x:decide (((byt s p:Nat):Int)<48)=true:=Lz f;clear a c q;generalize byt s p=d at *;go_wp2
     go_ret
     exact⟨by rw[l.out];rfl,Zm _ _ _⟩
    by_cases y:57<byt s p
    ·have l:=hV (BX b.out u.out (aL y));have f:¬((byt s p:Nat):Int)<48:=x3;have x:decide (((byt s p:Nat):Int)<48)=false:=Lh f;have m:57<((byt s p:Nat):Int):=x3;have D:decide (57<((byt s p:Nat):Int))=true:=Lz m;clear a c q y;generalize byt s p=d at *;go_wp2
     go_ret
     exact⟨by rw[l.out];rfl,Zm _ _ _⟩
    have g:=aM s p x3 x3;have f:¬((byt s p:Nat):Int)<48:=x3;have x:decide (((byt s p:Nat):Int)<48)=false:=Lh f;have m:¬ 57<((byt s p:Nat):Int):=x3;have D:decide (57<((byt s p:Nat):Int))=false:=Lh m;have next:∀(_:VF s.data.toList p=false),∀j,j<p+1->VF s.data.toList j=false:=λh j J=>by
     by_cases e:j=p
     ·rw[e];exact h
     ·exact b.out j x3
    have NX:=hV next
    clear next c q y
    by_cases i:p=1
    ·have t:∀W,(Instr.index 9 (.string s) (.int .i64 0)).run prog W=.ok (.int .u8 (byt s 0:Nat)) W:=λW=>dv s Tryz.underlying9 0 x3 W
     have v:(p:Int)=1:=x3;have F:((p:Int)==1)=true:=by rw[v];rfl
     by_cases n:byt s 0=48
     ·have l:=hV (show ZL s.data.toList=1 by rw[<- v];exact BX b.out u.out (by rw[g,g0,Lz n,i];rfl));rw[n]at t;clear a g i n NX;generalize byt s p=d at *;go_wp2
      go_ret
      exact⟨by rw[l.out];rfl,Zm _ _ _⟩
     ·have z:=hV (NX.out (by rw[g,g0,Lh n,i];rfl));have G:¬((byt s 0:Nat):Int)=48:=x3;have K:(((byt s 0:Nat):Int)==48)=false:=y8 G;clear g i n NX;generalize byt s p=d at *;generalize byt s 0=L at *;go_wp2
      go_roundw
      case rel=>exact⟨p+1,rfl,a,rfl,z⟩
      case measure=>simp;omega
    ·have z:=hV (NX.out (by rw[g];simp[i]));have v:¬(p:Int)=1:=x3;have F:((p:Int)==1)=false:=y8 v;clear g i NX;generalize byt s p=d at *;go_wp2
     go_roundw
     case rel=>exact⟨p+1,rfl,a,rfl,z⟩
     case measure=>simp;omega
   ·have A:=(decode_high s p a (by rw[KH];omega)).1;have o:∀k,(Instr.next (.pointer (some ⟨w.heap.size,0,none⟩)) true k).run prog (w.iter s p)=_:=λk=>run_next_any (P:=prog) w s p k a
    have l:=hV (BX b.out u.out (aL x3));generalize (Utf8.decode s p).1=d at *;generalize p+(Utf8.decode s p).2=M at *;have f:¬(d:Int)<48:=x3;have x:decide ((d:Int)<48)=false:=Lh f;have m:57<(d:Int):=x3;have D:decide (57<(d:Int))=true:=Lz m;clear a c A;go_wp2
    go_ret
    exact⟨by rw[l.out];rfl,Zm _ _ _⟩
  ·obtain rfl:p=s.size:=x3;have o:∀k,(Instr.next (.pointer (some ⟨w.heap.size,0,none⟩)) true k).run prog (w.iter s s.size)=_:=λk=>run_next_end (P:=prog) w s s.size k a
   by_cases t:s.toList=[]
   ·have l:=hV (show ZL s.data.toList=0 by rw[show s.data.toList=[]by rw[<- Rp];exact t];rfl);go_wp2
    go_ret
    exact⟨by rw[l.out];rfl,Zm _ _ _⟩
   ·have q:s.toList.isEmpty=false:=by rw[List.isEmpty_eq_false_iff];exact t
    have l:=hV (gh (by rw[B.out];exact b.out) (by rw[<- Rp];exact t));go_wp2
    go_ret
    exact⟨by rw[l.out];rfl,Zm _ _ _⟩
def pv(s:u4)(p:Nat): Nat:=JK (s.data.toList.take p)
theorem qm(s:u4): pv s 0=0:=rfl
theorem dh(s:u4){p:Nat}(h:p<s.size): pv s (p+1)=10*pv s p+(byt s p-48):=by
 have a:p<s.data.toList.length:=y8 h;unfold pv byt;rw[Rr a,My,List.getD,m0 a];rfl
theorem vw(s:u4): pv s s.size=JK s.data.toList:=by
 unfold pv;rw[Rj x6]
def tX(s:u4): Prop:=∀j,j<s.size->48<=byt s j/\byt s j<=57
theorem sH{s:u4}(h:tX s): ∀ {p:Nat},p<=s.size->pv s p<10^p
 | 0,_=>by rw[qm];decide
 | p+1,a=>by
  have b:=sH h (p:=p) x3;have c:=h p x3;rw[dh s x3,R9];omega
theorem BP{x n:Nat}(h:x<10^n): (QK x).size<=n:=by
 rw[Eo];refine Xd (k:=8) x4 (Lb h ?_);exact Nat.pow_le_pow_left x4 n
theorem Gd{w:y9}{k p:Nat}{s:u4}(h:w.heap[k]?=some (.stringIter s p)): k<w.heap.size:=(o3.1 h).1
theorem Nx(s:ByteArray)(w:World)(hs:s.size<=65536)(hd:tX s):
  b9 prog 239 #[.string s] w (.string (QK (JK s.data.toList))):=by
 have HD:=hV hd;have F:=hV (λ(p:Nat) (h:p<=s.size)=>sH hd h);have y:=hV (vw s);clear hd;go_enter func239,ntmps239
 go_wp2
 go_step3
 go_wp2
 go_step3
 go_wp2
 go_loopw [3,4,5] (λmg n m wr=>∃p V N T:Nat,mg=.string (QK V)/\n=.int .u64 (N:Nat)/\m=.int .u64 (T:Nat)/\p<=s.size/\Hid (V*T+N=pv s p)/\N<T/\T<1000000000000000000/\Hid (p=s.size->T=1)/\wr.heap[w.heap.size]?=some (.stringIter s p)/\Below w.heap.size w wr) (λ_ _ _ wr=>s.size-wr.iterPos w.heap.size)
 case atStart=>exact⟨0,0,0,1,rfl,rfl,rfl,La _,hV rfl,x4,x4,hV (λ_=>rfl),World.iter_heap w s 0,Zm w s 0⟩
 case round =>
  obtain⟨p,V,N,T,rfl,rfl,rfl,hp,G,hN,hT,hE,hit,H⟩:=hrel;by_cases f:p<s.size
  ·obtain⟨I,J⟩:=HD.out p f;have q:∀r,(Instr.next (.pointer (some ⟨w.heap.size,0,none⟩)) true r).run prog wr=_:=λr=>Lib.run_next_ascii_at (P:=prog) wr w.heap.size s p r hit f (by rw[KH];omega)
   simp only[KH]at q;have a:=hV (Lib.iterAt_heap wr w.heap.size s p (p+1) hit);have g:=hV (show wr.iterPos w.heap.size=p by simp[World.iterPos,hit]);have b:=Lib.below_iterAt H (L8 _) s (p+1);have z:=hV (dh s f);generalize wr.iterAt w.heap.size s (p+1)=w1 at *;obtain⟨D,hD⟩:∃D:Nat,byt s p=48+D:=⟨byt s p-48,x3⟩
   have K:D<=9:=x3;rw[hD]at q z;have ag:IntKind.u64.wrap (10*(N:Int))=10*(N:Int):=by rw[o0];omega
   have al:IntKind.i32.wrap (((48+D:Nat):Int)-48)=(D:Int):=by rw[IntKind.wrap_i32];omega
   have ao:IntKind.u64.wrap (D:Int)=(D:Int):=by rw[o0];omega
   have aw:IntKind.u64.wrap (10*(N:Int)+D)=((10*N+D:Nat):Int):=by rw[o0];omega
   have L:IntKind.u64.wrap (10*(T:Int))=((10*T:Nat):Int):=by rw[o0];omega
   have aB:IntKind.i64.wrap ((p:Int)+1)=((p+1:Nat):Int):=by rw[Lg _ x3];omega
   have t:Hid (V*(10*T)+(10*N+D)=pv s (p+1)):=hV (by
    rw[z.out,<- G.out,show 48+D-48=D by omega,Rl,Nat.mul_left_comm];omega)
   have l:10*N+D<10*T:=x3;have o:=hV (show 10*T<10000000000000000000 by omega);have M:Hid (pv s (p+1)<10^(p+1)):=hV (F.out (p+1) f);clear I J G hit hD K H hN;by_cases O:10*T<1000000000000000000/\p+1<s.size
   ·have i:((10*T:Nat):Int)<1000000000000000000:=x3;have A:((p+1:Nat):Int)<(s.size:Int):=x3;have HC:=hV O;clear O hT;generalize 10*N+D=Q at *;generalize 10*T=E at *;generalize ((48+D:Nat):Int)=d at *;obtain⟨TI,u⟩:∃TI:Int,TI=(E:Int):=⟨_,rfl⟩
    rw[<- u]at i L;have R:=hV u;clear u;go_wp2_with fail
    go_roundw
    case rel=>exact⟨p+1,V,Q,E,rfl,rfl,by rw[R.out],f,t,l,HC.out.1,hV (λh=>absurd HC.out.2 x3),a.out,b⟩
    case measure=>rw[g.out];simp[World.iterPos,a.out];omega
   ·have S:=hV (λ(x:Nat) W (h:x<10000000000000000000)=>FB x W (Nat.lt_trans h x4));have v:V*(10*T)<10^(p+1):=Lw (Rg _ _) (t.out▸M.out);have B:V<=V*(10*T):=Rv _ x3;have U:=hV (λW=>P9 (QK V) (QK (10*T)) W (L9 (BP (Lw B v)) x3) (L9 (BP (n:=19) o.out) x4));rw[Yl,Yl]at U;have X:=hV (λW=>O8 (QK (V*(10*T))) (QK (10*N+D)) W 9 (L9 (BP v) x3) (L9 (BP (n:=19) (Nat.lt_trans l o.out)) x4));rw[Yl,Yl,t.out]at X;have c1:=hV (λW=>S.out (10*T) W o.out);have c2:=hV (λW=>S.out (10*N+D) W (Nat.lt_trans l o.out));clear S v B;have j:=hV f;have k:(((10*T:Nat):Int)<1000000000000000000/\¬((p+1:Nat):Int)<(s.size:Int))\/¬((10*T:Nat):Int)<1000000000000000000:=x3;have Y:=hV k;clear O hT l k f;generalize QK (V*(10*T))=z1 at *;generalize QK (10*N+D)=z2 at *;generalize QK (10*T)=z3 at *;generalize 10*N+D=Q at *;generalize 10*T=E at *;generalize ((48+D:Nat):Int)=d at *;generalize (E:Int)=TI at *;generalize (Q:Int)=NI at *;have ae:(p:Int)+1<=s.size:=y6 j.out;rcases Y.out with⟨i,A⟩|i
    ·have d1:decide (TI<1000000000000000000)=true:=Lz i;have d2:decide (((p+1:Nat):Int)<(s.size:Int))=false:=Lh A;go_wp2_with fail
     refine(c1.out _).mono ?_
     rintro e w2 ⟨rfl,c⟩;replace b:=nxt b c;replace a:=hV ((c.block _ (Gd a.out)).trans a.out);clear c;go_wp2_with fail
     refine(U.out _).mono ?_
     rintro e w3 ⟨rfl,c⟩;replace b:=nxt b c;replace a:=hV ((c.block _ (Gd a.out)).trans a.out);clear c;go_wp2_with fail
     refine(c2.out _).mono ?_
     rintro e w4 ⟨rfl,c⟩;replace b:=nxt b c;replace a:=hV ((c.block _ (Gd a.out)).trans a.out);clear c;go_wp2_with fail
     refine(X.out _).mono ?_
     rintro e w5 ⟨rfl,c⟩;replace b:=nxt b c;replace a:=hV ((c.block _ (Gd a.out)).trans a.out);clear c;go_wp2_with fail
     go_roundw
     case rel=>exact⟨p+1,pv s (p+1),0,1,rfl,rfl,rfl,j.out,hV x3,x4,x4,hV (λ_=>rfl),a.out,b⟩
     case measure=>have:=j.out;rw[g.out];simp[World.iterPos,a.out];omega
    ·have d1:decide (TI<1000000000000000000)=false:=Lh i;go_wp2_with fail
     refine(c1.out _).mono ?_
     rintro e w2 ⟨rfl,c⟩;replace b:=nxt b c;replace a:=hV ((c.block _ (Gd a.out)).trans a.out);clear c;go_wp2_with fail
     refine(U.out _).mono ?_
     rintro e w3 ⟨rfl,c⟩;replace b:=nxt b c;replace a:=hV ((c.block _ (Gd a.out)).trans a.out);clear c;go_wp2_with fail
     refine(c2.out _).mono ?_
     rintro e w4 ⟨rfl,c⟩;replace b:=nxt b c;replace a:=hV ((c.block _ (Gd a.out)).trans a.out);clear c;go_wp2_with fail
     refine(X.out _).mono ?_
     rintro e w5 ⟨rfl,c⟩;replace b:=nxt b c;replace a:=hV ((c.block _ (Gd a.out)).trans a.out);clear c;go_wp2_with fail
     go_roundw
     case rel=>exact⟨p+1,pv s (p+1),0,1,rfl,rfl,rfl,j.out,hV x3,x4,x4,hV (λ_=>rfl),a.out,b⟩
     case measure=>have:=j.out;rw[g.out];simp[World.iterPos,a.out];omega
  ·obtain rfl:p=s.size:=x3;have q:∀r,(Instr.next (.pointer (some ⟨w.heap.size,0,none⟩)) true r).run prog wr=_:=λr=>Lib.run_next_end_at (P:=prog) wr w.heap.size s s.size r hit f
   have C:=hE.out rfl;have Z:=G.out;rw[y.out]at Z;have ad:=hV (show V=JK s.data.toList by rw[<- Z,C];omega);clear Z C;go_wp2
   go_ret
   exact⟨by rw[ad.out];rfl,H⟩
def H7(g:Nat)(s:u4)(p:Nat): Res where
 φ x S w:=x.oneCell'=true/\w.heap[g]?=some (.stringIter s p)/\∀b,S b↔b=g
 one _ _ _ h:=h.1
 loc x S w w' h hφ:=⟨hφ.1,(h g ((hφ.2.2 g).2 rfl)).trans hφ.2.1,hφ.2.2⟩
section
variable {P:Program} {w0:World} {s:ByteArray}
theorem yv{t:u6}(a:P.underlying t=some .string): FU P w0 [] (λg:Nat=>.pointer (some ⟨g,0,none⟩)) (λg:Nat=>H7 g s 0) (Instr.range t (.string s)):=λW _=>by
 show O6 P W _ _ _;refine⟨W.heap.size,.bool false,λb=>b=W.heap.size,W.iter s 0,run_range_string W t s a,?_,(show _/\_ from⟨rfl,World.iter_heap W s 0,λ_=>Iff.rfl⟩),λb c=>?_⟩
 ·exact(l3 _ W).alloc (L8 _) _
 ·have d:(W.iter s 0).heap.size=W.heap.size+1:=World.size_alloc _ _;rw[d];have e:b=W.heap.size:=c;omega
theorem oD{g p:Nat}(f:u6)(h:p<s.size): ∀W,Below w0.heap.size w0 W->∀x S,(H7 g s p).φ x S W->G2 P W (λ_:Unit=>.tuple #[.bool true,.int .i64 (p:Int),.int .i32 (((Utf8.decode s p).1:Nat):Int)]) (λ_:Unit=>H7 g s (p+(Utf8.decode s p).2)) x S (Instr.next (.pointer (some ⟨g,0,none⟩)) true f):=λW _ x S j=>by
 obtain⟨l,a,c⟩:=(show _/\_/\_ from j)
 refine⟨(),S,W.iterAt g s (p+(Utf8.decode s p).2),run_next_any_at W g s p f a h,?_,(show _/\_/\_ from⟨l,iterAt_heap W g s p _ a,c⟩),λb i=>⟨.inl i,?_⟩⟩
 ·refine⟨rfl,rfl,rfl,Rx (by simp[World.iterAt]),λk _ m=>?_⟩;have d:g≠k:=λe=>m ((c k).2 e.symm)
  simp[World.iterAt,d]
 ·rw[(c b).1 i];have:=(o3.1 a).1;simpa [World.iterAt]using this
theorem uv{g p:Nat}(a:u6)(h:¬ p<s.size): ∀W,Below w0.heap.size w0 W->∀x S,(H7 g s p).φ x S W->G2 P W (λ_:Unit=>.tuple #[.bool false]) (λ_:Unit=>H7 g s p) x S (Instr.next (.pointer (some ⟨g,0,none⟩)) true a):=λW _ x S c=>by
 obtain⟨i,d,f⟩:=(show _/\_/\_ from c)
 refine⟨(),S,W,run_next_end_at W g s p a d h,⟨rfl,rfl,rfl,L8 _,λ_ _ _=>rfl⟩,c,λb e=>⟨.inl e,?_⟩⟩;rw[(f b).1 e];exact(o3.1 d).1
theorem bf{p:Nat}(h:p<s.size)(a:(s.data.toList.getD p 0).toNat<128): Utf8.decode s p=((s.data.toList.getD p 0).toNat,1):=by
 have e:(s[p]'h)=s.data.toList.getD p 0:=by
  have b:p<s.data.toList.length:=y8 h;rw[List.getD,m0 b];rfl
 rw[<- e]at a ⊢;exact decode_ascii s p h a
theorem Px{p:Nat}(h:p<s.size)(f:128<=(s.data.toList.getD p 0).toNat): 128<=(Utf8.decode s p).1/\1<=(Utf8.decode s p).2/\p+(Utf8.decode s p).2<=s.size/\∀j,j<(Utf8.decode s p).2->128<=(s.data.toList.getD (p+j) 0).toNat:=by
 have e:(s[p]'h)=s.data.toList.getD p 0:=by
  have i:p<s.data.toList.length:=y8 h;rw[List.getD,m0 i];rfl
 have g:∀k,p+k<s.size->s.get! (p+k)=s.data.toList.getD (p+k) 0:=λk m=>by
  have i:p+k<s.data.toList.length:=y8 m;rw[List.getD,m0 i];show s.data[p+k]! = _;rw[getElem!_pos s.data (p+k) m];rfl
 rw[<- e]at f;obtain⟨n,b⟩:=decode_high s p h f;refine⟨n,b,?_⟩;have o:=g 0 h;have l:128<=(s.get! (p+0)).toNat:=by rw[o,Sw,<- e];exact f
 have key:∀w:Nat,(∀k,0<k->k<w->(decide (p+k<s.size)&&(s.get! (p+k)).toNat / 64==2)=true)->1<=w->p+w<=s.size/\∀j,j<w->128<=(s.data.toList.getD (p+j) 0).toNat:=λw u n=>by
  have q:∀k,0<k->k<w->p+k<s.size/\128<=(s.get! (p+k)).toNat:=λk b a=>by
   have:=u k b a;rw[Lu,decide_eq_true_iff,Sv]at this;exact⟨this.1,x3⟩
  refine⟨?_,λj v=>?_⟩
  ·rcases Lx 1 w with b|b
   ·have:=(q (w-1) x3 x3).1;omega
   ·omega
  ·rcases So j with rfl|b
   ·rw[<- o];exact l
   ·obtain⟨a,d⟩:=q j b v;rw[<- g j a];exact d
 have one:∀w:Nat,w=1->p+w<=s.size/\∀j,j<w->128<=(s.data.toList.getD (p+j) 0).toNat:=λw e=>by
  subst e;exact key 1 (λk b a=>x3) (L8 _)
 unfold Utf8.decode;dsimp only;split
 ·exact one _ rfl
 ·split
  ·rename_i a;split
   ·exact key 2 (λk d r=>by
     have e:k=1:=x3;subst e;exact(L6.1 a).2) x4
   ·exact one _ rfl
  ·split
   ·rename_i a;split
    ·exact key 3 (λk d r=>by
      have c:=L6.1 a;rcases(show k=1\/k=2 by omega)with e|e
      ·subst e;exact(L6.1 c.1).2
      ·subst e;exact c.2) x4
    ·exact one _ rfl
   ·split
    ·rename_i a;split
     ·exact key 4 (λk d r=>by
       have c:=L6.1 a;have t:=L6.1 c.1;rcases(show k=1\/k=2\/k=3 by omega)with e|e|e
       ·subst e;exact(L6.1 t.1).2
       ·subst e;exact t.2
       ·subst e;exact c.2) x4
     ·exact one _ rfl
    ·exact one _ rfl
end
