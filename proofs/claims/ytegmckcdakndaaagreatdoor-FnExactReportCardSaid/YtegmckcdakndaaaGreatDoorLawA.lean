/- The law of Report: part LP1. -/
import Derived.Test.YtegmckcdakndaaaGreatDoorQF
import Derived.Stop.LaidErr
import Derived.Test.YtegmckcdakndaaaGreatDoorRows
import Derived.Test.YtegmckcdakndaaaGreatDoorCards
import Derived.Test.YtegmckcdakndaaaGreatDoorTie
import Derived.WalkKit
import Derived.Deep.DeepHandedRow
import Derived.Deep.DeepLaidRun
import Derived.Lib.LaidTab
import Derived.MakeChecks
import Derived.ProofKit
import Derived.OpenShut
import Derived.ShutString
import Derived.ChangeOld
set_option linter.unusedSimpArgs false
set_option linter.unusedVariables false
set_option linter.constructorNameAsVariable false
namespace Go.Proofs.YtegmckcdakndaaaGreatDoor
open Go.RowKit Go.Px
open Go.ChangeShapes Go.WideShapes Go.ChangeAt
open Go.ChangeMaps (open_string shut_string)
theorem own_knob:ownKnob Tryz.prog.godebug=none:=by kernel_rfl
theorem laidOut:laidOutB Tryz.prog=true:=by kernel_rfl
def zVal:d4→Value
 | .sc v=>v
 | .nest _ _=> .slice none 0 0
def zArg (k:K):Value:= .agg ((aG (zK k)).map zVal).toArray
theorem rd0:rdT Tryz.prog 40 (Tryz.f3.params[0]!)=some (aG (zK .lSrv)):=by kernel_rfl
theorem table_L {W:World} (h:laidMetH Tryz.prog Rows.fnExactReportRow.laid W):aEM W:=by
 rw[Go.MakeChecks.laidMetH_plain _ _ _ (by kernel_rfl)]at h
 have h2:laidMet Tryz.prog [("internal/strconv.uint64pow10",Lib.tabData .u64 Lib.pow10Tab)] W:=(show laidMet Tryz.prog (_::_::("internal/strconv.uint64pow10",Lib.tabData .u64 Lib.pow10Tab):: []) W from h).tail.tail
 exact Lib.tabIs_of_head (rest:=[]) (g:=1) (t:=383) (e:=349) (n:=20) (by kernel_rfl) (by kernel_rfl) (by kernel_rfl) (by kernel_rfl) (by kernel_rfl) (by kernel_rfl) h2
theorem law_L (W:World) (x0:OV) {a0:Array Value} (h0:bC (mY (fun b=>b<W.heap.size) W) (aG (k:= .lSrv) x0) a0.toList) (ht:aEM W) :
  Calls Tryz.prog 3 #[.agg a0] W fun e W'=>e= .returned (.bool true)∧Below W.heap.size W W':=by
 have hf:=aFy x0 (aJa (n:=0) (aJe 3 h0))
 have hcl:Cl W.heap.size (fun w'=>∀b,b<W.heap.size→w'.heap[b]?=W.heap[b]?):=⟨fun w1 w2 h1 hh b hb=>(hh b hb).trans (h1 b hb),fun w' h=>aFU ht h⟩
 have hc:=c3 hcl 20000100 x0 true hf
 exact aJd (us:=[.agg a0]) Tryz.func3 (by kernel_rfl) rfl (fun _ _=>rfl) hc ⟨[],[],rfl,aLb h0,rfl⟩
def put_L (d:DataW Unit):Obj→Obj
 | .cells _ t frozen=> .cells (match d with| .agg l=>(l.map fun| .lit (.int k n)=>Value.int k n|_=>undef).toArray|_=> #[]) t frozen
 | o=>o
noncomputable def laidWorld_L (os:Os):World:=
 {World.holding Tryz.prog os ⟨#[],#[],[]⟩with heap:=((((World.holding Tryz.prog os ⟨#[],#[],[]⟩).heap.modify 2 (put_L Rows.laid_math_bits_deBruijn32tab)).modify 3 (put_L Rows.laid_math_bits_deBruijn64tab)).modify 1 (put_L Rows.laid_internal_strconv_uint64pow10))}
theorem laid_met_L (os:Os):laidMet Tryz.prog Rows.fnExactReportRow.laid ((laidWorld_L os).forCall (fun _ _=>0) ⟨#[],#[zArg .lSrv],[]⟩).memory:=
 laidMet_of_run' 8 (by kernel_rfl) (by kernel_rfl)
theorem reads_L (os:Os) {H:Type} (enc:TypeId×Value→H):∃places,DataW.whole enc Tryz.prog ((laidWorld_L os).forCall (fun _ _=>0) ⟨#[],#[zArg .lSrv],[]⟩).memory Tryz.f3.params.toList Rows.fnExactReportSpec.vars false (#[zArg .lSrv]:Array Value).toList 8=some ([.agg [.agg [.lit (.int .i64 0),.lit (.int .i64 0),.lit (.int .i64 0),.lit (.int .i64 0),.nil,.nil,.nil],.lit (.int .i64 0),.lit (.bool false),.agg [.lit (.int .i64 0),.lit (.int .i64 0),.lit (.int .i64 0),.lit (.int .i64 0),.nil,.nil,.nil],.agg [.agg [.lit (.int .i64 0),.lit (.int .i64 0),.lit (.int .i64 0),.nil,.nil,.nil],.lit (.int .i64 0),.lit (.int .i64 0),.lit (.int .i64 0),.lit (.bool false)],.agg [.lit (.int .i64 0),.lit (.int .i64 0),.lit (.int .i64 0),.nil,.nil,.nil],.agg [.lit (.int .i64 0),.nil,.nil],.lit (.int .i64 0),.nil]],[],places):=
 ⟨[],by kernel_rfl⟩
end Go.Proofs.YtegmckcdakndaaaGreatDoor
