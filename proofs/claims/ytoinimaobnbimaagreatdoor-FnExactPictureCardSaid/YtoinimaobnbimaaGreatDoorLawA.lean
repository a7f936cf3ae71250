/- The law of Picture: part LP1. -/
import Derived.Test.YtoinimaobnbimaaGreatDoorQF
import Derived.Stop.LaidErr
import Derived.Test.YtoinimaobnbimaaGreatDoorRows
import Derived.Test.YtoinimaobnbimaaGreatDoorCards
import Derived.Test.YtoinimaobnbimaaGreatDoorTie
import Derived.WalkKit
import Derived.Deep.DeepHandedRow
import Derived.Deep.DeepLaidRun
import Derived.Lib.LaidTab
import Derived.MakeChecks
import Derived.ProofKit
import Derived.OpenShut
import Derived.ShutString
import Derived.ChangeOld
set_option linter.unusedSimpArgs false
set_option linter.unusedVariables false
set_option linter.constructorNameAsVariable false
namespace Go.Proofs.YtoinimaobnbimaaGreatDoor
open Go.RowKit Go.Px
open Go.ChangeShapes Go.WideShapes Go.ChangeAt
open Go.ChangeMaps (open_string shut_string)
theorem own_knob:ownKnob Tryz.prog.godebug=none:=by kernel_rfl
theorem laidOut:laidOutB Tryz.prog=true:=by kernel_rfl
def zVal:Leaf→Value
 | .sc v=>v
 | .nest _ _=> .slice none 0 0
def zArg (k:K):Value:= .agg ((leaves (zK k)).map zVal).toArray
theorem rd0:rdT Tryz.prog 40 (Tryz.f3.params[0]!)=some (leaves (zK .lState)):=by kernel_rfl
theorem table_Picture {W:World} (h:laidMetH Tryz.prog Rows.fnExactPictureRow.laid W):TabW W:=by
 rw[Go.MakeChecks.laidMetH_plain _ _ _ (by kernel_rfl)]at h
 have h2:laidMet Tryz.prog [("internal/strconv.uint64pow10",Lib.tabData .u64 Lib.pow10Tab)] W:=(show laidMet Tryz.prog (_::_::("internal/strconv.uint64pow10",Lib.tabData .u64 Lib.pow10Tab):: []) W from h).tail.tail
 exact Lib.tabIs_of_head (rest:=[]) (g:=0) (t:=268) (e:=188) (n:=20) (by kernel_rfl) (by kernel_rfl) (by kernel_rfl) (by kernel_rfl) (by kernel_rfl) (by kernel_rfl) h2
theorem wf_lit {n:Int} (h:(Lit.int .i64 n).wf=true):wfV (.int .i64 n):=by
 unfold Lit.wf at h
 simp only[Bool.and_eq_true,decide_eq_true_eq]at h
 exact inK64 h.1 h.2
theorem law_Picture (W:World) {as0:Array Value} {s:LState} {n:ByteArray} (p q r:Int) (h0:All2 (LeafV (fun b=>b<W.heap.size) W) (leaves (k:= .lState) s) as0.toList) (hn:n.size≤9223372036854775807) (hp:wfV (.int .i64 p)) (hq:wfV (.int .i64 q)) (hr:wfV (.int .i64 r)) (ht:TabW W) :
  Calls Tryz.prog 3 #[.agg as0,.string n,.int .i64 p,.int .i64 q,.int .i64 r] W fun e W'=>e= .returned (.bool true)∧Below W.heap.size W W':=by
 have hf:=plain_law s n p q r (fit_State (lens_of 4 h0))
 have hcl:Cl W.heap.size (fun w'=>∀b,b<W.heap.size→w'.heap[b]?=W.heap[b]?):=⟨fun w1 w2 h1 hh b hb=>(hh b hb).trans (h1 b hb),fun w' h=>tab_stays ht h⟩
 have hc:=c3 hcl 20000100 (s,n,p,q,r) true hf
 exact law_ofE (us:=[.agg as0,.string n,.int .i64 p,.int .i64 q,.int .i64 r]) Tryz.func3 (by kernel_rfl) rfl (fun _ _=>rfl) hc ⟨[],[],rfl,own_st h0,[],[],rfl,⟨rfl,rfl,hn⟩,[],[],rfl,⟨rfl,rfl,hp⟩,[],[],rfl,⟨rfl,rfl,hq⟩,[],[],rfl,⟨rfl,rfl,hr⟩,rfl⟩
def put_Picture (d:DataW Unit):Obj→Obj
 | .cells _ t frozen=> .cells (match d with| .agg l=>(l.map fun| .lit (.int k n)=>Value.int k n|_=>undef).toArray|_=> #[]) t frozen
 | o=>o
noncomputable def laidWorld_Picture (os:Os):World:=
 {World.holding Tryz.prog os ⟨#[],#[],[]⟩with heap:=((((World.holding Tryz.prog os ⟨#[],#[],[]⟩).heap.modify 2 (put_Picture Rows.laid_math_bits_deBruijn32tab)).modify 3 (put_Picture Rows.laid_math_bits_deBruijn64tab)).modify 0 (put_Picture Rows.laid_internal_strconv_uint64pow10))}
theorem laid_met_Picture (os:Os):laidMet Tryz.prog Rows.fnExactPictureRow.laid ((laidWorld_Picture os).forCall (fun _ _=>0) ⟨#[],#[zArg .lState,.string ByteArray.empty,.int .i64 0,.int .i64 0,.int .i64 0],[]⟩).memory:=
 laidMet_of_run' 8 (by kernel_rfl) (by kernel_rfl)
theorem reads_Picture (os:Os) {H:Type} (enc:TypeId×Value→H):∃places,DataW.whole enc Tryz.prog ((laidWorld_Picture os).forCall (fun _ _=>0) ⟨#[],#[zArg .lState,.string ByteArray.empty,.int .i64 0,.int .i64 0,.int .i64 0],[]⟩).memory Tryz.f3.params.toList Rows.fnExactPictureSpec.vars false (#[zArg .lState,.string ByteArray.empty,.int .i64 0,.int .i64 0,.int .i64 0]:Array Value).toList 8=some ([.agg [.lit (.int .i64 0),.lit (.int .i64 0),.lit (.int .i64 0),.lit (.int .i64 0),.nil,.nil,.nil],.lit (.string []),.lit (.int .i64 0),.lit (.int .i64 0),.lit (.int .i64 0)],[],places):=
 ⟨[],by kernel_rfl⟩
end Go.Proofs.YtoinimaobnbimaaGreatDoor
