/- The law of SrvNew: part LP1. -/
import Derived.Test.YtaeepiblggcjpaaGreatDoorQG
import Derived.Stop.LaidErr
import Derived.Test.YtaeepiblggcjpaaGreatDoorRows
import Derived.Test.YtaeepiblggcjpaaGreatDoorCards
import Derived.Test.YtaeepiblggcjpaaGreatDoorTie
import Derived.WalkKit
import Derived.Deep.DeepHandedRow
import Derived.Deep.DeepLaidRun
import Derived.Lib.LaidTab
import Derived.MakeChecks
import Derived.ProofKit
import Derived.OpenShut
import Derived.ShutString
import Derived.ChangeOld
set_option linter.unusedSimpArgs false
set_option linter.unusedVariables false
set_option linter.constructorNameAsVariable false
namespace Go.Proofs.YtaeepiblggcjpaaGreatDoor
open Go.RowKit Go.Px
open Go.ChangeShapes Go.WideShapes Go.ChangeAt
open Go.ChangeMaps (open_string shut_string)
theorem own_knob:ownKnob Tryz.prog.godebug=none:=by kernel_rfl
theorem table_L {W:World} (h:laidMetH Tryz.prog Rows.fnExactSrvNewRow.laid W):TabW W:=by
 rw[Go.MakeChecks.laidMetH_plain _ _ _ (by kernel_rfl)]at h
 have h2:laidMet Tryz.prog [("internal/strconv.uint64pow10",Lib.tabData .u64 Lib.pow10Tab)] W:=(show laidMet Tryz.prog (_::_::("internal/strconv.uint64pow10",Lib.tabData .u64 Lib.pow10Tab):: []) W from h).tail.tail
 exact Lib.tabIs_of_head (rest:=[]) (g:=1) (t:=400) (e:=342) (n:=20) (by kernel_rfl) (by kernel_rfl) (by kernel_rfl) (by kernel_rfl) (by kernel_rfl) (by kernel_rfl) h2
theorem wf_lit {n:Int} (h:(Lit.int .i64 n).wf=true):wfV (.int .i64 n):=by
 unfold Lit.wf at h
 simp only[Bool.and_eq_true,decide_eq_true_eq]at h
 exact inK64 h.1 h.2
theorem law_L (W:World) (x0:Int) (x1:Int) (x2:Int) (x3:Int) (x4:Int) (h0:wfV (.int .i64 x0)) (h1:wfV (.int .i64 x1)) (h2:wfV (.int .i64 x2)) (h3:wfV (.int .i64 x3)) (h4:wfV (.int .i64 x4)) (ht:TabW W) :
  Calls Tryz.prog 4 #[.int .i64 x0,.int .i64 x1,.int .i64 x2,.int .i64 x3,.int .i64 x4] W fun e W'=>e= .returned (.bool true)∧Below W.heap.size W W':=by
 have hf:=plain_law x0 x1 x2 x3 x4
 have hcl:Cl W.heap.size (fun w'=>∀b,b<W.heap.size→w'.heap[b]?=W.heap[b]?):=⟨fun w1 w2 h1 hh b hb=>(hh b hb).trans (h1 b hb),fun w' h=>tab_stays ht h⟩
 have hc:=c4 hcl 20000100 (x0,x1,x2,x3,x4) true hf
 exact law_ofE (us:=[.int .i64 x0,.int .i64 x1,.int .i64 x2,.int .i64 x3,.int .i64 x4]) Tryz.func4 (by kernel_rfl) rfl (fun _ _=>rfl) hc ⟨[],[],rfl,⟨rfl,rfl,h0⟩,⟨[],[],rfl,⟨rfl,rfl,h1⟩,⟨[],[],rfl,⟨rfl,rfl,h2⟩,⟨[],[],rfl,⟨rfl,rfl,h3⟩,⟨[],[],rfl,⟨rfl,rfl,h4⟩,rfl⟩⟩⟩⟩⟩
def put_L (d:DataW Unit):Obj→Obj
 | .cells _ t frozen=> .cells (match d with| .agg l=>(l.map fun| .lit (.int k n)=>Value.int k n|_=>undef).toArray|_=> #[]) t frozen
 | o=>o
noncomputable def laidWorld_L (os:Os):World:=
 {World.holding Tryz.prog os ⟨#[],#[],[]⟩with heap:=((((World.holding Tryz.prog os ⟨#[],#[],[]⟩).heap.modify 2 (put_L Rows.laid_math_bits_deBruijn32tab)).modify 3 (put_L Rows.laid_math_bits_deBruijn64tab)).modify 1 (put_L Rows.laid_internal_strconv_uint64pow10))}
theorem laid_met_L (os:Os):laidMet Tryz.prog Rows.fnExactSrvNewRow.laid ((laidWorld_L os).forCall (fun _ _=>0) ⟨#[],#[.int .i64 0,.int .i64 0,.int .i64 0,.int .i64 0,.int .i64 0],[]⟩).memory:=
 laidMet_of_run' 8 (by kernel_rfl) (by kernel_rfl)
theorem reads_L (os:Os) {H:Type} (enc:TypeId×Value→H):∃places,DataW.whole enc Tryz.prog ((laidWorld_L os).forCall (fun _ _=>0) ⟨#[],#[.int .i64 0,.int .i64 0,.int .i64 0,.int .i64 0,.int .i64 0],[]⟩).memory Tryz.f4.params.toList Rows.fnExactSrvNewSpec.vars false (#[.int .i64 0,.int .i64 0,.int .i64 0,.int .i64 0,.int .i64 0]:Array Value).toList 8=some ([.lit (.int .i64 0),.lit (.int .i64 0),.lit (.int .i64 0),.lit (.int .i64 0),.lit (.int .i64 0)],[],places):=
 ⟨[],by kernel_rfl⟩
end Go.Proofs.YtaeepiblggcjpaaGreatDoor
