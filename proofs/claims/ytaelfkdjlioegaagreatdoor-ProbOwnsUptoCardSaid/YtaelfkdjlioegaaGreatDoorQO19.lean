/- The walks and plain laws beneath the statements. -/
import Derived.Test.YtaelfkdjlioegaaGreatDoorQO10
import Derived.Test.YtaelfkdjlioegaaGreatDoorQO16
namespace Go.Proofs.YtaelfkdjlioegaaGreatDoor
open Go Go.RowKit
def bodyOf(fn:Func): Code:=fn.body.getD .skip
theorem kpC_below{W W':World}(h:Below W.heap.size W W'): KpC W W':=⟨h.size,fun k o hk _=>(h.block k (Array.getElem?_eq_some_iff.1 hk).1).trans hk⟩
theorem abides_below{β:Type}{B:Nat}{J:β→World→Prop}(hJ:AbidesFrom B J){s:β}{W W':World}(h:Below W.heap.size W W')(hs:J s W): J s W' :=
 hJ s W W' none hs ⟨h.os,h.tape,h.output,h.size,fun k hk _=>h.block k hk⟩ fun _ e=>by cases e
theorem split_at_{α:Type}: ∀ {l:List α} {i:Nat} {o:α},l[i]?=some o→l=l.take i++o::l.drop (i+1)
 | [],_,_,h=>by simp at h
 | x::l,0,o,h=>by simp at h;simp[h]
 | x::l,i+1,o,h=>by
  have h1:l[i]?=some o:=by simpa using h
  show x::l=x::(l.take i++o::l.drop (i+1))
  rw[← split_at_ h1]
section
variable {P:Program} {tt:List (Nat×TI)} {w0:World}
theorem piece(hT:TTOk P tt)(hm:P.follows .mixedOrders=true){n:Nat}{c:Code}{d:List Dir}{σ:St}{p:St→List Dir→Prop}{X:Act→World→Prop}{Q:Exit→Act→World→Prop}{r:Env}{a:Act}{w:World}(h:exec P tt (cx0 P tt w0) (0,0) w0 c σ d fun e σ' d'=>nrmK e (p σ' d'))(hS:Sat w0 σ r a w)(hX:∀σ' d' r' a' w',p σ' d'→Sat w0 σ' r' a' w'→X a' w'): c.wpIn Fence.wide n P (Exit.then X Q) a w:=by
 refine wpIn_wide.2 (wp_mono (exec_ok hT hm (inl_ok hT hm 9) (0,0) c σ d _ h ⟨Nat.zero_le _,Nat.zero_le _⟩ r a w hS (fun e a' w'=>e=.normal∧X a' w') (fun _ _ _ _ _ h=>by cases h.1) (fun _ _ _ _ _ _ h=>False.elim h) fun e σ' d' r' a' w' hk hS' _ _=>?_) fun e a' w' hq=>?_)
 ·cases e with
  | normal=>exact⟨rfl,hX σ' d' r' a' w' hk hS'⟩
  | ret=>exact False.elim hk
  | exit i=>exact False.elim hk
 ·obtain⟨rfl,hq⟩:=hq
  exact hq
theorem yld_loop(hT:TTOk P tt)(hm:P.follows .mixedOrders=true){c:Code}(hc:ylForm c=c){τ:Nat→St}(hbs:∀k,(τ k).bs=[]∧(τ k).rs=[]){α:Type}{xs:List α}{l m n:Nat}{enc:α→Value}(df:α)(hmn:m+n≤xs.length){F:World→Prop}(hF:∀W W',F W→KpC W W'→F W'){ci dst:Nat}{o:Oper}(ho:(rnO (ylY c)).toList[ci]?=some o){f:Operand}{args:List Operand}(hcall:callOf o=some (f,args))(hdst:o.dst=some dst)(hdb:∀k,dstB (some dst) (τ k).n=true)(hnd:(rnO (ylY c)).toList.all ndO=true)(h1:∀k W,k≤n→F W→∃d,exec P tt (cx0 P tt W) (0,0) W (ylL c) (τ k) d fun e σ _=>nrmK e (evK σ (ylT c) fun s=>s=.val (.bool (decide ((k:Int)<(n:Int))))∧subK σ (τ k) True))(h2:∀k W,k<n→F W→∃d,exec P tt (cx0 P tt W) (0,0) W (ylE c) (τ k) d fun e σ d=>nrmK e (execL P tt (cx0 P tt W) W (rnI (ylY c)) (rnO (ylY c)) ((rnO (ylY c)).toList.take ci) 0 σ d fun σ _=>v1 σ f fun fv=>vL σ args fun vs=>fv=.func (.yield l) #[] #[]∧vs=[enc (xs.getD (m+k) df)]∧subK σ (τ k) True))(h3:∀k W b,k<n→∃d,execL P tt (cx0 P tt W) W (rnI (ylY c)) (rnO (ylY c)) ((rnO (ylY c)).toList.drop (ci+1)) (ci+1) ((τ k).push (some dst) (bV b)) d fun σ _=>evK σ (ylU c) fun s=>s=.val (.bool (!b))∧subK σ (τ k) True)(h4:∀k W,k<n→∃d,exec P tt (cx0 P tt W) (0,0) W (ylN c) (τ k) d fun e σ _=>nrmK e (subK σ (τ (k+1)) True)){J Jx:List {x // x∈xs}→World→Prop}{B:Nat}(hJ:AbidesFrom B J)(hJx:AbidesFrom B Jx)(hY:∀pre x W1,J pre W1→pre.length<xs.length→YieldAt Fence.wide 7 P l #[enc x.1] W1 fun e W'=>(e=.returned (.bool true)∧J (pre++[x]) W'∧KpC W1 W')∨(e=.returned (.bool false)∧Jx (pre++[x]) W')){Q:Exit→Act→World→Prop}{r:Env}{a:Act}{w:World}(hS:Sat w0 (τ 0) r a w)(hFw:F w)(hJw:J (xs.attach.take m) w)(hdone:∀a' W,Sat W (τ n) e0 a' W→F W→J (xs.attach.take (m+n)) W→Q .normal a' W)(hstop:∀a' W pre,Jx pre W→a'.defers=[]→Q .ret a' W): c.wpIn Fence.wide 8 P Q a w:=by
 rw[← hc]
 unfold ylForm
 refine wpIn_block (wpIn_loop_gen (fun k a w=>k≤n∧Sat w (τ k) e0 a w∧F w∧J (xs.attach.take (m+k)) w) (fun k=>n-k) (fun k a w hJ0=>?_) 0 ⟨Nat.zero_le _,hS.rebase (hbs 0).1 (hbs 0).2 w,hFw,hJw⟩)
 obtain⟨hk,hS,hFw,hJw⟩:=hJ0
 obtain⟨d1,e1⟩:=h1 k w hk hFw
 refine wpIn_seq (piece hT hm e1 hS fun σ1 _ r1 a1 w1 hp hS1=>?_)
 obtain⟨s,q1,q2,q3⟩:=evK_spec hp
 have he:=(evS_den hS1.see q1).1
 rw[q2]at he
 have hSk:=((subK_spec (w0:=w) q3).2 _ _ _ hS1).rebase (hbs k).1 (hbs k).2 w1
 have hb1:=hS1.see.low
 have hF1:=hF _ _ hFw (kpC_below hb1)
 have hJ1:=abides_below hJ hb1 hJw
 by_cases hkn:k<n
 ·refine wpIn_seq (wpIn_cond_true (by rw[he];simp[SV.den,hkn]) (wpIn_skip ?_))
  refine wpIn_seq (wpIn_block ?_)
  obtain⟨d2,e2⟩:=h2 k w1 hkn hF1
  refine wpIn_seq (piece hT hm e2 hSk fun σ2 d2 r2 a2 w2 hp2 hS2=>?_)
  refine wpIn_seq (wpIn_region_list ?_)
  have hnd2:=hnd
  have hsp:=split_at_ ho
  generalize rnO (ylY c)=ops at *
  rw[hsp]at hnd2 ⊢
  rw[List.all_append,Bool.and_eq_true]at hnd2
  obtain⟨n1,n2⟩:=hnd2
  obtain⟨_,n3⟩:=Bool.and_eq_true_iff.1 (show(ndO o&&(ops.toList.drop (ci+1)).all ndO)=true from n2)
  refine list_w (Q':=fun e a w=>e=.normal∧wpListIn Fence.wide 8 P ops _ (o::ops.toList.drop (ci+1)) a w) (fun⟨_,_,h,_⟩=>by cases h) (fun _ _ _ h=>by cases h.1) (fun _ _ h=>h.2) n1 (execL_ok hT (inl_ok hT hm 9) _ 0 σ2 d2 _ hp2 r2 a2 w2 hS2 _ (fun _ _ _ _ _ _ h=>False.elim h) fun σ3 d3 r3 a3 w3 hk3 hS3 _ _=>⟨rfl,?_⟩)
  obtain⟨fv,hk3,hfv⟩:=v1_spec (w0:=w1) hk3
  obtain⟨vs,⟨rfl,rfl,hsub⟩,hvs⟩:=vL_spec (w0:=w1) hk3
  have hb3:=hS3.see.low
  have hF3:=hF _ _ hF1 (kpC_below hb3)
  have hJ3:=abides_below hJ hb3 hJ1
  obtain⟨y1,y2,y3⟩:=yield_run (P:=P) hcall (hfv r3 a3 w3 hS3.see) (hvs r3 a3 w3 hS3.see) w3
  obtain⟨fn,tmps,assign,body,y4,y5⟩:=hY _ ⟨xs[m+k],List.getElem_mem (by omega)⟩ w3 hJ3 (by rw[List.length_take,List.length_attach];omega)
  unfold wpListIn
  rw[if_pos (by unfold Region.wanted;rw[y2])]
  refine⟨fun _ _=>trivial,?_⟩
  rw[Oper.semAt_eq _ _ _ (fun c e=>by unfold ndO at y3;rw[e]at y3;cases y3),y1,show xs.getD (m+k) df=xs[m+k]from getD_at2 (by omega),y4]
  refine⟨fun h=>(by cases h),y5.mono fun e W4 hr=>?_⟩
  have hSk3:=fun V=>((subK_spec (w0:=w1) hsub).2 _ _ _ hS3).rebase (hbs k).1 (hbs k).2 V
  have after:∀(b:Bool) (W4:World) {Qr:Exit→Act→World→Prop},(∀σ5 r5 a5 w5,evK σ5 (ylU c) (fun s=>s=.val (.bool (!b))∧subK σ5 (τ k) True)→Sat W4 σ5 r5 a5 w5→Qr .normal a5 w5)→wpListIn Fence.wide 8 P ops Qr (ops.toList.drop (ci+1)) (a3.put o.dst (.bool b)) W4:=fun b W4 Qr hq=>by
   obtain⟨d5,e5⟩:=h3 k W4 b hkn
   have hp5:=(hSk3 W4).put (s:=bV b) (hdb k) rfl
   have h6:=list_w (n:=8) (P:=P) (ops:=ops) (Q:=Qr) (m2:=[]) (Q':=fun e a w=>e=.normal∧Qr .normal a w) (fun⟨_,_,h,_⟩=>by cases h) (fun _ _ _ h=>by cases h.1) (fun _ _ h=>h.2) n3 (execL_ok hT (inl_ok hT hm 9) _ (ci+1) _ d5 _ e5 e0 _ W4 hp5 _ (fun _ _ _ _ _ _ h=>False.elim h) fun σ5 d5 r5 a5 w5 hk5 hS5 _ _=>⟨rfl,hq σ5 r5 a5 w5 hk5 hS5⟩)
   rw[List.append_nil]at h6
   rw[hdst]
   exact h6
  rcases hr with⟨rfl,hJ4,hk4⟩|⟨rfl,hJx4⟩
  ·refine after true W4 fun σ5 r5 a5 w5 hk5 hS5=>?_
   obtain⟨s,u1,u2,u3⟩:=evK_spec hk5
   have hu:=(evS_den hS5.see u1).1
   rw[u2]at hu
   refine wpIn_cond_false (by rw[hu];rfl) (wpIn_skip ?_)
   have hSk5:=((subK_spec (w0:=W4) u3).2 _ _ _ hS5).rebase (hbs k).1 (hbs k).2 w5
   have hb5:=hS5.see.low
   have hF5:=hF _ _ (hF _ _ hF3 hk4) (kpC_below hb5)
   have hJ5:=abides_below hJ hb5 hJ4
   obtain⟨d6,e6⟩:=h4 k w5 hkn
   show(ylN c).wpIn Fence.wide 8 P _ a5 w5
   refine piece hT hm e6 hSk5 fun σ6 _ r6 a6 w6 hp6 hS6=>?_
   have hb6:=hS6.see.low
   refine⟨k+1,⟨hkn,((subK_spec (w0:=w5) hp6).2 _ _ _ hS6).rebase (hbs (k+1)).1 (hbs (k+1)).2 w6,hF _ _ hF5 (kpC_below hb6),?_⟩,by omega⟩
   have h7:=abides_below hJ hb6 hJ5
   rw[show m+(k+1)=m+k+1 by omega,List.take_succ_eq_append_getElem (by rw[List.length_attach];omega),List.getElem_attach]
   exact h7
  ·refine after false W4 fun σ5 r5 a5 w5 hk5 hS5=>?_
   obtain⟨s,u1,u2,u3⟩:=evK_spec hk5
   have hu:=(evS_den hS5.see u1).1
   rw[u2]at hu
   refine wpIn_cond_true (by rw[hu];rfl) (wpIn_ret ?_)
   show Q .ret a5 w5
   exact hstop a5 w5 _ (abides_below hJx hS5.see.low hJx4) hS5.defers
 ·have hkn':k=n:=by omega
  subst hkn'
  refine wpIn_seq (wpIn_cond_false (by rw[he];simp[SV.den]) (wpIn_exit ?_))
  show(if blI c=blI c then Q .normal a1 w1 else _)
  rw[if_pos rfl]
  exact hdone a1 w1 hSk hF1 hJ1
end
