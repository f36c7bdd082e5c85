/- The walks and plain laws beneath the statements. -/
import Derived.Test.YtaelfkdjlioegaaGreatDoorQO26
import Derived.Test.YtaelfkdjlioegaaGreatDoorQO36
import Derived.RegionTactic
import Derived.Test.YtaelfkdjlioegaaGreatDoorQO37
namespace Go.Proofs.YtaelfkdjlioegaaGreatDoor
set_option maxRecDepth 100000
open Go Go.RowKit
def n1:Nm:=⟨false,⟨#[1]⟩,0⟩
theorem s_eq1(W:World)(x y:Operand): RunOk Tryz.prog W (do eqGuard .eql 9 x y (.string ⟨#[1]⟩) (.string ⟨#[]⟩);binOp .eql 9 (.string ⟨#[1]⟩) (.string ⟨#[]⟩)) (.bool false):=fun W' _=>by
 simp[go_sem,ByteArray.toList_eq]
theorem s_eq0(W:World)(x y:Operand): RunOk Tryz.prog W (do eqGuard .eql 9 x y (.string ⟨#[]⟩) (.string ⟨#[]⟩);binOp .eql 9 (.string ⟨#[]⟩) (.string ⟨#[]⟩)) (.bool true):=fun W' _=>by
 simp[go_sem]
theorem rem_1(P:Program)(w0:World)(t:TypeId)(x y:Operand): RunOk P w0 (do eqGuard .rem t x y (.int .u8 1) (.int .u8 2);binOp .rem t (.int .u8 1) (.int .u8 2)) (.int .u8 1):=fun W _=>by
 simp[eqGuard,binOp,go_sem]
theorem fm_0(W:World): RetAt Tryz.prog W 83 #[.agg #[.bool false,.string ⟨#[]⟩]] (.agg #[.bool false,.string ⟨#[]⟩]):=rc W (fun a w=>Tryz.call83 a w) fun W=>by
 have c:=rForm_any ⟨#[]⟩ false W (by decide)
 rwa [show neg (ival false (sval ⟨#[]⟩))=false from by kernel_rfl,show mag (ival false (sval ⟨#[]⟩))=⟨#[]⟩from by kernel_rfl]at c
theorem fm_1(W:World): RetAt Tryz.prog W 83 #[.agg #[.bool false,.string ⟨#[1]⟩]] (.agg #[.bool false,.string ⟨#[1]⟩]):=rc W (fun a w=>Tryz.call83 a w) fun W=>by
 have c:=rForm_any ⟨#[1]⟩ false W (by decide)
 rwa [show neg (ival false (sval ⟨#[1]⟩))=false from by kernel_rfl,show mag (ival false (sval ⟨#[1]⟩))=⟨#[1]⟩from by kernel_rfl]at c
theorem of2_0(W:World): RetAt Tryz.prog W 52 #[.int .i64 0] (.agg #[.bool false,.string ⟨#[]⟩]):=rc W (fun a w=>Tryz.call52 a w) fun W=>by
 have c:=rWOf_any 0 W (by decide) (by decide)
 rwa [show neg 0=false from by kernel_rfl,show mag 0=⟨#[]⟩from by kernel_rfl]at c
theorem of2_1(W:World): RetAt Tryz.prog W 52 #[.int .i64 1] (.agg #[.bool false,.string ⟨#[1]⟩]):=rc W (fun a w=>Tryz.call52 a w) fun W=>by
 have c:=rWOf_any 1 W (by decide) (by decide)
 rwa [show neg 1=false from by kernel_rfl,show mag 1=⟨#[1]⟩from by kernel_rfl]at c
theorem sg2_1(W:World): RetAt Tryz.prog W 108 #[.agg #[.bool false,.string ⟨#[1]⟩]] (.int .i64 1):=rc W (fun a w=>Tryz.call108 a w) fun W=>by
 have c:=rWSign_any ⟨#[1]⟩ false W (by decide)
 rwa [show sgn (ival false (sval ⟨#[1]⟩))=1 from by kernel_rfl]at c
theorem mk_0  (w:World):RetAt Tryz.prog w 51 #[.agg #[.bool false,.string ⟨#[]⟩],.int .i64 0] (.agg #[.bool false,.string ⟨#[]⟩,.int .i64 0]) :=
 ret_sk ttOk mixed (fun a w=>Tryz.call51 a w) Tryz.func51 Tryz.ntmps51 Tryz.results51 _ rfl _ [.o 1 1 (.ret (.agg [bV false,sV ⟨#[]⟩])),.o 2 2 (.set (.bool true))] (fun W hW hR=>aj2 (fm_0 W) (s_eq0 W (.tmp 8) (.const (.string ⟨#[]⟩)))<|(show(.agg #[.bool false,.string ⟨#[]⟩,.int .i64 0]:Value)=.agg #[.bool false,.string ⟨#[]⟩,.int .i64 0]from rfl)) fun W=>by kernel_rfl
theorem mk_1  (w:World):RetAt Tryz.prog w 51 #[.agg #[.bool false,.string ⟨#[1]⟩],.int .i64 0] (.agg #[.bool false,.string ⟨#[1]⟩,.int .i64 0]) :=
 ret_sk ttOk mixed (fun a w=>Tryz.call51 a w) Tryz.func51 Tryz.ntmps51 Tryz.results51 _ rfl _ [.o 1 1 (.ret (.agg [bV false,sV ⟨#[1]⟩])),.o 2 2 (.set (.bool false)),.unr 1,.o 4 4 (.eq (iV 1)),.o 4 5 (.eq (iV 0)),.o 4 6 (.set (.int .u8 1)),.unr 1,.o 7 4 (.eq (iV 1)),.o 7 5 (.eq (iV 0)),.o 7 6 (.set (.int .u8 1)),.o 7 7 (.set (.int .u8 1))] (fun W hW hR=>aj8 (fm_1 W) (s_eq1 W (.tmp 8) (.const (.string ⟨#[]⟩))) (show(((⟨#[1]⟩:ByteArray).size:Int):Int)=1 from rfl) (show IntKind.i64.wrap (1-1)=0 from by decide) (bt_idx W ⟨#[1]⟩ 0 (by decide)) (show(((⟨#[1]⟩:ByteArray).size:Int):Int)=1 from rfl) (show IntKind.i64.wrap (1-1)=0 from by decide) (bt_idx W ⟨#[1]⟩ 0 (by decide))<|ai (rem_1 Tryz.prog W 5 (.tmp 35) (.const (.int .u8 2)))<|(show(.agg #[.bool false,.string ⟨#[1]⟩,.int .i64 0]:Value)=.agg #[.bool false,.string ⟨#[1]⟩,.int .i64 0]from rfl)) fun W=>by kernel_rfl
theorem form_1  (w:World):RetAt Tryz.prog w 72 #[.agg #[.bool false,.string ⟨#[1]⟩,.int .i64 0]] (.agg #[.bool false,.string ⟨#[1]⟩,.int .i64 0]) :=
 ret_sk ttOk mixed (fun a w=>Tryz.call72 a w) Tryz.func72 Tryz.ntmps72 Tryz.results72 _ rfl _ [.o 1 4 (.ret (.agg [bV false,sV ⟨#[1]⟩,iV 0]))] (fun W hW hR=>ai (mk_1 W)<|(show(.agg #[.bool false,.string ⟨#[1]⟩,.int .i64 0]:Value)=.agg #[.bool false,.string ⟨#[1]⟩,.int .i64 0]from rfl)) fun W=>by kernel_rfl
theorem of_1  (w:World):RetAt Tryz.prog w 82 #[.int .i64 1] (.agg #[.bool false,.string ⟨#[1]⟩,.int .i64 0]) :=
 ret_sk ttOk mixed (fun a w=>Tryz.call82 a w) Tryz.func82 Tryz.ntmps82 Tryz.results82 _ rfl _ [.o 1 1 (.ret (.agg [bV false,sV ⟨#[1]⟩])),.o 1 2 (.ret (.agg [bV false,sV ⟨#[1]⟩,iV 0]))] (fun W hW hR=>aj2 (of2_1 W) (mk_1 W)<|(show(.agg #[.bool false,.string ⟨#[1]⟩,.int .i64 0]:Value)=.agg #[.bool false,.string ⟨#[1]⟩,.int .i64 0]from rfl)) fun W=>by kernel_rfl
theorem sign_1  (w:World):RetAt Tryz.prog w 73 #[.agg #[.bool false,.string ⟨#[1]⟩,.int .i64 0]] (.int .i64 1) :=
 ret_sk ttOk mixed (fun a w=>Tryz.call73 a w) Tryz.func73 Tryz.ntmps73 Tryz.results73 _ rfl _ [.o 1 2 (.ret (iV 1))] (fun W hW hR=>ai (sg2_1 W)<|(show(.int .i64 1:Value)=.int .i64 1 from rfl)) fun W=>by kernel_rfl
theorem num_0  (w:World):RetAt Tryz.prog w 19 #[.int .i64 0] (.agg #[.bool false,.string ⟨#[]⟩,.int .i64 0]) :=
 ret_sk ttOk mixed (fun a w=>Tryz.call19 a w) Tryz.func19 Tryz.ntmps19 Tryz.results19 _ rfl _ [.o 1 1 (.ret (.agg [bV false,sV ⟨#[]⟩])),.o 1 2 (.ret (.agg [bV false,sV ⟨#[]⟩,iV 0]))] (fun W hW hR=>aj2 (of2_0 W) (mk_0 W)<|(show(.agg #[.bool false,.string ⟨#[]⟩,.int .i64 0]:Value)=.agg #[.bool false,.string ⟨#[]⟩,.int .i64 0]from rfl)) fun W=>by kernel_rfl
theorem num_1  (w:World):RetAt Tryz.prog w 19 #[.int .i64 1] (.agg #[.bool false,.string ⟨#[1]⟩,.int .i64 0]) :=
 ret_sk ttOk mixed (fun a w=>Tryz.call19 a w) Tryz.func19 Tryz.ntmps19 Tryz.results19 _ rfl _ [.o 1 1 (.ret (.agg [bV false,sV ⟨#[1]⟩])),.o 1 2 (.ret (.agg [bV false,sV ⟨#[1]⟩,iV 0]))] (fun W hW hR=>aj2 (of2_1 W) (mk_1 W)<|(show(.agg #[.bool false,.string ⟨#[1]⟩,.int .i64 0]:Value)=.agg #[.bool false,.string ⟨#[1]⟩,.int .i64 0]from rfl)) fun W=>by kernel_rfl
