/- The walks and plain laws beneath the statements. -/
import Derived.Test.YtaelfkdjlioegaaGreatDoorQO18
namespace Go.Proofs.YtaelfkdjlioegaaGreatDoor
open Go Go.RowKit
def emptyR:Res:=⟨fun x S _=>x=.bool false∧∀b,¬ S b,fun _ _ _ h=>by rw[h.1];rfl,fun _ _ _ _ _ h=>h⟩
theorem empty_fin:Fin' emptyR:=fun _ _ _ h b hb=>absurd hb (h.2 b)
section
variable {P:Program} {w0:World}
theorem gen_put{e m n t i o:Nat}{ti:TI}{L L':LP}{A:Option Addr}{cp:Nat}{v:Value}{vs:List Value}(hi:tiOf P t=some ti)(hv:v.cells.toList=vs)(hs:vs.length=ti.size)(hin:i<n)(ho:o+vs.length≤m)(h1:∀u,u∈vs→u.oneCell'=true)(hL:∀j,j<n→j≠i→∀S w cs,L.p j S w cs→L'.p j S w cs)(hL2:∀S w cs,cs.length=m→L.p i S w cs→L'.p i S w (spl cs o vs)):
  ∀W x S,(genR e m n L A cp).φ x S W→EffR P W (fun _:Unit=>undef) (fun _:Unit=>genR e m n L' A cp) x S (stsem t [.pointer (some (adr A (i*m+o))),v]):=fun W x S hφ =>
 gen_store (R2:=emptyR) hi hv hs hin ho h1 empty_fin hL (fun S1 S2 x2 w cs hl h _=>L'.mono i S1 _ _ _ (fun b hb=>.inl hb) (hL2 S1 w cs hl h)) W x S (show ∃S1 S2 x2,_ from⟨S,fun _=>False,.bool false,hφ,⟨rfl,fun _ h=>h⟩,fun _ _ h=>h,fun b=>⟨fun h=>.inl h,fun h=>h.elim id False.elim⟩⟩)
theorem trn_mono{S S':Nat→Prop}{w w':World}(h:Trn S w w')(hs:∀b,S b→S' b): Trn S' w w':=⟨h.os,h.tape,h.output,h.size,fun k hk hn=>h.block k hk fun e=>hn (hs k e)⟩
theorem eff_fst{β:Type}{val:β→Value}{R1 R2:Res}{R1':β→Res}{m:Sem Value}(hF:Fin' R2)(h:∀W,Below w0.heap.size w0 W→∀x S,R1.φ x S W→EffR P W val R1' x S m): ∀W,Below w0.heap.size w0 W→∀x S,(pairR R1 R2).φ x S W→EffR P W val (fun y=>pairR (R1' y) R2) x S m:=fun W hW x S hφ=>by
 obtain⟨S1,S2,x2,h1,h2,h3,h4⟩:=(show ∃S1 S2 x2,_ from hφ)
 obtain⟨y,S',w',k1,k2,k3,k4⟩:=h W hW x S1 h1
 have hlt:∀b,S2 b→b<W.heap.size:=hF _ _ _ h2
 have hn:∀b,S2 b→¬ S1 b:=fun b hb hb1=>h3 b hb1 hb
 refine⟨y,fun b=>S' b∨S2 b,w',k1,trn_mono k2 fun b hb=>(h4 b).2 (.inl hb),(show ∃S1 S2 x2,_ from⟨S',S2,x2,k3,R2.loc _ _ _ _ (fun b hb=>k2.block b (hlt b hb) (hn b hb)) h2,fun b hb hb2=>?_,fun b=>Iff.rfl⟩),fun b hb=>?_⟩
 ·rcases(k4 b hb).1 with h5|h5
  ·exact hn b hb2 h5
  ·exact absurd (hlt b hb2) (Nat.not_lt.2 h5)
 ·rcases hb with hb|hb
  ·exact⟨(k4 b hb).1.imp (fun h=>(h4 b).2 (.inl h)) id,(k4 b hb).2⟩
  ·exact⟨.inl ((h4 b).2 (.inr hb)),Nat.lt_of_lt_of_le (hlt b hb) k2.size⟩
theorem eff_snd{β:Type}{val:β→Value}{R1 R2:Res}{R2':β→Res}{m:Sem Value}(hF:Fin' R1)(h:∀W,Below w0.heap.size w0 W→∀x S,R2.φ x S W→EffR P W val R2' x S m): ∀W,Below w0.heap.size w0 W→∀x S,(pairR R1 R2).φ x S W→EffR P W val (fun y=>pairR R1 (R2' y)) x S m:=fun W hW x S hφ=>by
 obtain⟨S1,S2,x2,h1,h2,h3,h4⟩:=(show ∃S1 S2 x2,_ from hφ)
 obtain⟨y,S',w',k1,k2,k3,k4⟩:=h W hW x2 S2 h2
 have hlt:∀b,S1 b→b<W.heap.size:=hF _ _ _ h1
 refine⟨y,fun b=>S1 b∨S' b,w',k1,trn_mono k2 fun b hb=>(h4 b).2 (.inr hb),(show ∃S1 S2 x2,_ from⟨S1,S',x2,R1.loc _ _ _ _ (fun b hb=>k2.block b (hlt b hb) (h3 b hb)) h1,k3,fun b hb hb2=>?_,fun b=>Iff.rfl⟩),fun b hb=>?_⟩
 ·rcases(k4 b hb2).1 with h5|h5
  ·exact h3 b hb h5
  ·exact absurd (hlt b hb) (Nat.not_lt.2 h5)
 ·rcases hb with hb|hb
  ·exact⟨.inl ((h4 b).2 (.inl hb)),Nat.lt_of_lt_of_le (hlt b hb) k2.size⟩
  ·exact⟨(k4 b hb).1.imp (fun h=>(h4 b).2 (.inr h)) id,(k4 b hb).2⟩
theorem pair_fin{R1 R2:Res}(h1:Fin' R1)(h2:Fin' R2): Fin' (pairR R1 R2):=fun x S w hφ b hb=>by
 obtain⟨S1,S2,x2,k1,k2,_,k4⟩:=(show ∃S1 S2 x2,_ from hφ)
 exact((k4 b).1 hb).elim (h1 _ _ _ k1 b) (h2 _ _ _ k2 b)
theorem in_fst{R1 R2:Res}{M:Sem Value}{R:Value}(h:RunIn P w0 [R1] M R): RunIn P w0 [pairR R1 R2] M R:=fun W hW x S hφ=>by
 obtain⟨S1,S2,x2,k1,_⟩:=(show ∃S1 S2 x2,_ from hφ)
 exact h W hW x S1 k1
theorem eff_self{α:Type}{t t2 ty e k bytes:Nat}{c:α→List Value}{l l':List α}{A:Option Addr}{cp:Nat}(hT:RowT P t t2 e k bytes)(hc:∀x,(c x).length=k)(h1:∀x u,u∈c x→u.oneCell'=true)(d:α)(hne:0<l.length)(hl:l++l=l')(hb:l'.length*bytes≤140737488355328):
  ∀W,Below w0.heap.size w0 W→∀x S,(rowR e k c l A cp).φ x S W→EffR P W (fun y:Hp=>.slice y.1 l'.length y.2) (fun y:Hp=>rowR e k c l' y.1 y.2) x S (bsem .append #[t,t2] ty [.slice A l.length cp,.slice A l.length cp]):=fun W _ x S hφ=>by
 have hr:=clo_rd hc d (show _∨_ from .inl hφ)
 exact eff_run hT hc h1 hl hb (arg_rd hc hT.hk (d:=d) hr fun hA=>by obtain⟨b,off,e2,_⟩:=hr hne;rw[hA]at e2;cases e2) hφ
theorem mk_one{t e:TypeId}{i:TypeInfo}{z:Value}(ht:P.underlying t=some (.slice e))(hi:P.info? e=some i)(hz:i.zero=some z)(hs:i.size=1)(hb:i.bytes≤281474976710656)(hzc:z.cells=#[z]):
  NewP P w0 [] (fun y:Nat=>.slice (some ⟨y,0,none⟩) 1 1) (fun y:Nat=>genR e 1 1 (LP.known fun _=>[z]) (some ⟨y,0,none⟩) 1) (Instr.makeSlice t (.int .i64 1) (.int .i64 1)):=fun W _=>by
 show NewR P W _ _ _
 obtain⟨w',h1,h2,h3⟩:=run_makeSlice_full (P:=P) W W.heap.size t e i z 1 ht hi hz hs .i64 .i64 1 (by decide) (by omega) (by decide) (Nat.le_refl _)
 have h4:(madeCells z.cells (1*1)).toList=(List.range 1).flatMap (fun _=>[z]):=by
  rw[hzc];simp[madeCells,Array.range,List.range,List.range.loop]
 rw[h4]at h2
 refine⟨W.heap.size,.bool false,fun b=>(Value.slice (some ⟨W.heap.size,0,none⟩) 1 1).ownBlock=some b,w',h1,⟨h3.os,h3.tape,h3.output,h3.size,fun k hk=>h3.block k hk (by simp)⟩,(show _∧_ from⟨rfl,fun _=>[z],fun _=>False,fun _=>rfl,h2.mono (Nat.zero_le _),fun i hi=>rfl,fun _ h=>h.elim,fun b=>⟨.inl,fun h=>h.elim id False.elim⟩⟩),fun b hb=>h2.lt b hb⟩
theorem byt_one{src dst e e2:TypeId}(hs:P.underlying src=some (.slice e))(he:P.underlying e=some (.int .u8))(hd:P.underlying dst=some .string){A:Option Addr}{cp:Nat}{b:Nat}{s:ByteArray}(hb:s=⟨#[UInt8.ofNat b]⟩): RunIn P w0 [genR e2 1 1 (LP.known fun _=>[.int .u8 (b:Int)]) A cp] (Go.convert src dst (.slice A 1 cp)) (.string s) :=
 gen_in fun W f S2 hr hp=>fun W' hW'=>by
  have h1:RdK W A 1 1 (fun _=>[.int .u8 (b:Int)]):=RdK.congr hr fun j hj=>by
   obtain rfl:j=0:=by omega
   exact hp 0 (by decide)
  have h2:=RdK.below (k:=1) (f:=fun _=>[.int .u8 (b:Int)]) (fun _=>rfl) h1 hW'
  have h3:Rd W' A 1 (fun _=>.int .u8 (b:Int)):=fun h0=>by
   obtain⟨g,off,e,hc⟩:=h2 h0
   refine⟨g,off,e,fun j hj=>?_⟩
   obtain rfl:j=0:=by omega
   exact hc 0 (by decide) 0 (by decide)
  rw[run_bytes_rd (P:=P) src dst e hs he hd A 1 cp (fun _=>b) h3,hb]
  rfl
end
