/- What a call may hold, as plain values and a store: a small machine over them, the functions of this program as its contracts, and the plain laws: texts T0 to QL. -/
import Derived.Test.YtaeepiblggcjpaaGreatDoorQC
import Derived.Test.YtaeepiblggcjpaaGreatDoorProg
import Derived.Shelf.Small.Strs
import Derived.Shelf.Sort.Plain
import Derived.Shelf.Slices.In.SortNone
import Derived.Shelf.Strconv.Itoa3
import Derived.Sort.OwnSortedInts
import Derived.Ground.NamesProg
import Derived.Lib.SmallJoins
import Derived.WalkKit
import Derived.Laws.IdiomCopy
import Derived.Lib.AppendZerosOnto
import Derived.Lib.Overlaps
import Derived.Lib.SliceRun
import Derived.Shelf.Spec.SlicesInsert
import Derived.Shelf.Spec.SlicesInsertGrow
import Derived.ProofKit
import Derived.Deep.Slices
import Derived.OpenShut
import Derived.Below
set_option linter.unusedSimpArgs false
set_option linter.unusedVariables false
set_option linter.constructorNameAsVariable false
namespace Go.Proofs.YtaeepiblggcjpaaGreatDoor
open Go.RowKit Go.Shelf
def Tryz.laysIndexByte_ren:Go.Shelf.Ren:=⟨fun|137=>276|217=>323|266=>350|n=>n,fun|9=>9|5=>5|3=>3|n=>n,fun|n=>n⟩
theorem Tryz.laysIndexByte:Go.Proofs.Lays.n137 Tryz.prog Tryz.laysIndexByte_ren:= {
 mixed:=by kernel_rfl
 f137:=Tryz.func276.trans (congrArg some (by kernel_rfl))
 f217:=Tryz.func323.trans (congrArg some (by kernel_rfl))
 f266:=Tryz.func350.trans (congrArg some (by kernel_rfl))
 t3:=Tryz.underlying3
 a3:=Tryz.isAgg3
 z3:=Tryz.sizeOf3
 v3:=Tryz.zeroValue3
 t5:=Tryz.underlying5
 a5:=Tryz.isAgg5
 z5:=Tryz.sizeOf5
 v5:=Tryz.zeroValue5
 t9:=Tryz.underlying9
 a9:=Tryz.isAgg9
 z9:=Tryz.sizeOf9
 v9:=Tryz.zeroValue9}
def Tryz.laysItoa_ren:Go.Shelf.Ren:=⟨fun|171=>253|243=>280|246=>324|283=>351|284=>352|285=>353|286=>354|129=>298|317=>368|318=>369|319=>370|320=>371|337=>375|338=>376|n=>n,fun|3=>3|9=>9|2=>2|4=>4|171=>384|0=>0|53=>342|37=>77|5=>5|173=>386|212=>400|51=>340|20=>20|213=>401|46=>306|232=>405|233=>406|n=>n,fun|17=>1|18=>2|19=>3|n=>n⟩
theorem Tryz.laysItoa:Go.Proofs.LaysM.n171 Tryz.prog Tryz.laysItoa_ren:= {
 mixed:=by kernel_rfl
 f129:=Tryz.func298.trans (congrArg some (by kernel_rfl))
 f171:=Tryz.func253.trans (congrArg some (by kernel_rfl))
 f243:=Tryz.func280.trans (congrArg some (by kernel_rfl))
 f246:=Tryz.func324.trans (congrArg some (by kernel_rfl))
 f283:=Tryz.func351.trans (congrArg some (by kernel_rfl))
 f284:=Tryz.func352.trans (congrArg some (by kernel_rfl))
 f285:=Tryz.func353.trans (congrArg some (by kernel_rfl))
 f286:=Tryz.func354.trans (congrArg some (by kernel_rfl))
 f317:=Tryz.func368.trans (congrArg some (by kernel_rfl))
 f318:=Tryz.func369.trans (congrArg some (by kernel_rfl))
 f319:=Tryz.func370.trans (congrArg some (by kernel_rfl))
 f320:=Tryz.func371.trans (congrArg some (by kernel_rfl))
 f337:=Tryz.func375.trans (congrArg some (by kernel_rfl))
 f338:=Tryz.func376.trans (congrArg some (by kernel_rfl))
 t0:=Tryz.underlying0
 a0:=Tryz.isAgg0
 z0:=Tryz.sizeOf0
 v0:=Tryz.zeroValue0
 t2:=Tryz.underlying2
 a2:=Tryz.isAgg2
 z2:=Tryz.sizeOf2
 v2:=Tryz.zeroValue2
 t3:=Tryz.underlying3
 a3:=Tryz.isAgg3
 z3:=Tryz.sizeOf3
 v3:=Tryz.zeroValue3
 t4:=Tryz.underlying4
 a4:=Tryz.isAgg4
 z4:=Tryz.sizeOf4
 v4:=Tryz.zeroValue4
 t5:=Tryz.underlying5
 a5:=Tryz.isAgg5
 z5:=Tryz.sizeOf5
 v5:=Tryz.zeroValue5
 t9:=Tryz.underlying9
 a9:=Tryz.isAgg9
 z9:=Tryz.sizeOf9
 v9:=Tryz.zeroValue9
 t20:=Tryz.underlying20
 a20:=Tryz.isAgg20
 z20:=Tryz.sizeOf20
 v20:=Tryz.zeroValue20
 t37:=Tryz.underlying77
 a37:=Tryz.isAgg77
 z37:=Tryz.sizeOf77
 v37:=Tryz.zeroValue77
 t46:=Tryz.underlying306
 a46:=Tryz.isAgg306
 z46:=Tryz.sizeOf306
 v46:=Tryz.zeroValue306
 t51:=Tryz.underlying340
 a51:=Tryz.isAgg340
 z51:=Tryz.sizeOf340
 v51:=Tryz.zeroValue340
 t53:=Tryz.underlying342
 a53:=Tryz.isAgg342
 z53:=Tryz.sizeOf342
 v53:=Tryz.zeroValue342
 t171:=Tryz.underlying384
 a171:=Tryz.isAgg384
 z171:=Tryz.sizeOf384
 v171:=Tryz.zeroValue384
 t173:=Tryz.underlying386
 a173:=Tryz.isAgg386
 z173:=Tryz.sizeOf386
 v173:=Tryz.zeroValue386
 t212:=Tryz.underlying400
 a212:=Tryz.isAgg400
 z212:=Tryz.sizeOf400
 v212:=Tryz.zeroValue400
 t213:=Tryz.underlying401
 a213:=Tryz.isAgg401
 z213:=Tryz.sizeOf401
 t232:=Tryz.underlying405
 a232:=Tryz.isAgg405
 z232:=Tryz.sizeOf405
 v232:=Tryz.zeroValue405
 t233:=Tryz.underlying406
 a233:=Tryz.isAgg406
 z233:=Tryz.sizeOf406
 v233:=Tryz.zeroValue406
 g17:=by kernel_rfl
 g18:=by kernel_rfl
 g19:=by kernel_rfl
 i0:=by kernel_rfl
 i2:=by kernel_rfl
 i3:=by kernel_rfl
 i4:=by kernel_rfl
 i5:=by kernel_rfl
 i9:=by kernel_rfl
 i20:=by kernel_rfl
 i37:=by kernel_rfl
 i46:=by kernel_rfl
 i51:=by kernel_rfl
 i53:=by kernel_rfl
 i171:=by kernel_rfl
 i173:=by kernel_rfl
 i212:=by kernel_rfl
 i232:=by kernel_rfl
 i233:=by kernel_rfl
 m17:=by kernel_rfl
 m18:=by kernel_rfl
 m19:=by kernel_rfl}
def Tryz.laysSort_ren:Go.Shelf.Ren:=⟨fun|189=>196|125=>257|257=>256|128=>297|129=>298|294=>288|295=>289|296=>290|297=>291|298=>292|299=>293|216=>294|300=>295|301=>296|328=>328|329=>329|330=>330|331=>331|332=>332|215=>333|343=>357|n=>n,fun|28=>124|3=>3|46=>306|0=>0|51=>340|53=>342|4=>4|183=>334|182=>333|131=>325|5=>5|9=>9|218=>363|222=>367|228=>388|229=>169|n=>n,fun|n=>n⟩
theorem Tryz.laysSort:Go.Proofs.Lays.n189 Tryz.prog Tryz.laysSort_ren:= {
 mixed:=by kernel_rfl
 f125:=Tryz.func257.trans (congrArg some (by kernel_rfl))
 f128:=Tryz.func297.trans (congrArg some (by kernel_rfl))
 f129:=Tryz.func298.trans (congrArg some (by kernel_rfl))
 f189:=Tryz.func196.trans (congrArg some (by kernel_rfl))
 f215:=Tryz.func333.trans (congrArg some (by kernel_rfl))
 f216:=Tryz.func294.trans (congrArg some (by kernel_rfl))
 f257:=Tryz.func256.trans (congrArg some (by kernel_rfl))
 f294:=Tryz.func288.trans (congrArg some (by kernel_rfl))
 f295:=Tryz.func289.trans (congrArg some (by kernel_rfl))
 f296:=Tryz.func290.trans (congrArg some (by kernel_rfl))
 f297:=Tryz.func291.trans (congrArg some (by kernel_rfl))
 f298:=Tryz.func292.trans (congrArg some (by kernel_rfl))
 f299:=Tryz.func293.trans (congrArg some (by kernel_rfl))
 f300:=Tryz.func295.trans (congrArg some (by kernel_rfl))
 f301:=Tryz.func296.trans (congrArg some (by kernel_rfl))
 f328:=Tryz.func328.trans (congrArg some (by kernel_rfl))
 f329:=Tryz.func329.trans (congrArg some (by kernel_rfl))
 f330:=Tryz.func330.trans (congrArg some (by kernel_rfl))
 f331:=Tryz.func331.trans (congrArg some (by kernel_rfl))
 f332:=Tryz.func332.trans (congrArg some (by kernel_rfl))
 f343:=Tryz.func357.trans (congrArg some (by kernel_rfl))
 t0:=Tryz.underlying0
 a0:=Tryz.isAgg0
 z0:=Tryz.sizeOf0
 v0:=Tryz.zeroValue0
 t3:=Tryz.underlying3
 a3:=Tryz.isAgg3
 z3:=Tryz.sizeOf3
 v3:=Tryz.zeroValue3
 t4:=Tryz.underlying4
 a4:=Tryz.isAgg4
 z4:=Tryz.sizeOf4
 v4:=Tryz.zeroValue4
 t5:=Tryz.underlying5
 a5:=Tryz.isAgg5
 z5:=Tryz.sizeOf5
 v5:=Tryz.zeroValue5
 t9:=Tryz.underlying9
 a9:=Tryz.isAgg9
 z9:=Tryz.sizeOf9
 v9:=Tryz.zeroValue9
 t28:=Tryz.underlying124
 a28:=Tryz.isAgg124
 z28:=Tryz.sizeOf124
 v28:=Tryz.zeroValue124
 t46:=Tryz.underlying306
 a46:=Tryz.isAgg306
 z46:=Tryz.sizeOf306
 v46:=Tryz.zeroValue306
 t51:=Tryz.underlying340
 a51:=Tryz.isAgg340
 z51:=Tryz.sizeOf340
 v51:=Tryz.zeroValue340
 t53:=Tryz.underlying342
 a53:=Tryz.isAgg342
 z53:=Tryz.sizeOf342
 v53:=Tryz.zeroValue342
 t131:=Tryz.underlying325
 a131:=Tryz.isAgg325
 z131:=Tryz.sizeOf325
 v131:=Tryz.zeroValue325
 t182:=Tryz.underlying333
 a182:=Tryz.isAgg333
 z182:=Tryz.sizeOf333
 v182:=Tryz.zeroValue333
 t183:=Tryz.underlying334
 a183:=Tryz.isAgg334
 z183:=Tryz.sizeOf334
 v183:=Tryz.zeroValue334
 t218:=Tryz.underlying363
 a218:=Tryz.isAgg363
 z218:=Tryz.sizeOf363
 v218:=Tryz.zeroValue363
 t222:=Tryz.underlying367
 a222:=Tryz.isAgg367
 z222:=Tryz.sizeOf367
 v222:=Tryz.zeroValue367
 t228:=Tryz.underlying388
 a228:=Tryz.isAgg388
 z228:=Tryz.sizeOf388
 v228:=Tryz.zeroValue388
 t229:=Tryz.underlying169
 a229:=Tryz.isAgg169
 z229:=Tryz.sizeOf169
 v229:=Tryz.zeroValue169}
def Tryz.laysCompare_ren:Go.Shelf.Ren:=⟨fun|106=>283|213=>325|265=>355|n=>n,fun|9=>9|3=>3|n=>n,fun|n=>n⟩
theorem Tryz.laysCompare:Go.Proofs.Lays.n106 Tryz.prog Tryz.laysCompare_ren:= {
 mixed:=by kernel_rfl
 f106:=Tryz.func283.trans (congrArg some (by kernel_rfl))
 f213:=Tryz.func325.trans (congrArg some (by kernel_rfl))
 f265:=Tryz.func355.trans (congrArg some (by kernel_rfl))
 t3:=Tryz.underlying3
 a3:=Tryz.isAgg3
 z3:=Tryz.sizeOf3
 v3:=Tryz.zeroValue3
 t9:=Tryz.underlying9
 a9:=Tryz.isAgg9
 z9:=Tryz.sizeOf9
 v9:=Tryz.zeroValue9}
end Go.Proofs.YtaeepiblggcjpaaGreatDoor
namespace Go.Px
variable {w:World} {S:Nat->Prop} {G:Nat} {k:K} {lfs:List Leaf} {O α J:Type}
open Go.RowKit Go.Proofs Go.Sort
theorem winOk:WinOk Tryz.prog:=by
 intro f t hf
 have:=look_mem hf
 simp[winL]at this
theorem selOk:SelOk Tryz.prog:=by
 intro f oc oa ob hf
 have:=look_mem hf
 simp[selL]at this
set_option maxRecDepth 100000 in
theorem facts:Facts Tryz.prog:=Facts.of winOk selOk (by kernel_rfl)
theorem mixed:Tryz.prog.follows .mixedOrders=true:=by kernel_rfl
def TabW (w:World):Prop:=Lib.TabIs Tryz.prog w "internal/strconv.uint64pow10" .u64 Lib.pow10Tab
structure Cl (G:Nat) (E:World->Prop):Prop where
 cl:∀w w':World,E w->(∀b,b<G->w'.heap[b]?=w.heap[b]?)->E w'
 tab:∀w,E w->TabW w
def CC (o:Nat->Orc):Prop:=∀{G:Nat} {E:World->Prop} (_:Cl G E) (m:Nat),Ctr Tryz.prog G E (o m)
def CL (C:Nat->List Orc):Prop:=∀{G:Nat} {E:World->Prop} (_:Cl G E) (m:Nat),∀o∈C m,Ctr Tryz.prog G E o
theorem cn:CL (fun _=> []):=fun _ _=>csn
theorem cs {o:Nat->Orc} {C:Nat->List Orc} (h:CC o) (t:CL C):CL (fun m=>o m::C m):=fun hcl m=>csc (h hcl m) (t hcl m)
def tn:Tab:=⟨[],[],[]⟩
theorem mq {C:Nat->List Orc} (hC:CL C) {o:Nat->Orc} (T:Tab) (fn:Func) {c:Code} (hf:∀m,Tryz.prog.funcs[(o m).f]?=some fn:=by intro _;kernel_rfl) (hb:fn.body=some c:=by rfl)
  (hB:((fn.name== "runtime.NumGoroutine")==false&&codeB fn.ntmps c)=true:=by kernel_rfl) (hok:∀m v,okB fn.ntmps (o m).nx ((o m).args v) ((o m).exts v)=true:=by intro _ _;kernel_rfl) (hel:∀m v r,((o m).back r).map List.length=((o m).exts v).map List.length:=by intro _ _ _;kernel_rfl) (h:∀m v,fev (C m) T (o m).nx m fn (o m).pat (o m).ins (o m).out v=(o m).p v:=by intro _ _;kernel_rfl):CC o:=fun hcl m=>Ctr.mk (hC hcl m) facts mixed hcl.cl T m (hf m) hb hB (hok m) (hel m) (h m)
section
variable {G:Nat} {E:World->Prop}
theorem PCalls.libV {P:Program} {f:FuncId} {fn:Func} {c:Code} (hf:P.funcs[f]?=some fn) (hname:(fn.name== "runtime.NumGoroutine")=false) (hb:fn.body=some c) {vs:List Value} {x:Value} (hx:wfV x)
  (h:∀w,E w->Calls P f vs.toArray w fun e w'=>e= .returned x/\Below w.heap.size w w'):PCalls P G E f (vs.map .v) [] (.v x) []:=by
 refine⟨rfl,fun w S us locs La Le hG hE hl1 hl2 hnd hF0 hS hargs hext=> ?_⟩
 obtain rfl:locs=[]:=List.eq_nil_of_length_eq_zero hl1
 obtain rfl:Le=[]:=List.eq_nil_of_length_eq_zero hl2
 have hus:us=vs/\La=[]:=by
  have key:∀(vs us:List Value) (L:List Nat),All3 (Own1 S w (extB []) (extS [])) (vs.map .v) us L->us=vs/\L=[]:=by
   intro vs
   induction vs with
   | nil=>intro us L h;cases us with
    | nil=>exact⟨rfl,h⟩
    | cons _ _=>exact h.elim
   | cons v vs ih=>
    intro us L h
    cases us with
    | nil=>exact h.elim
    | cons u us=>
     obtain⟨L1,L2,e,h1,h2⟩:=h
     obtain⟨q1,q2⟩:=ih us L2 h2
     obtain⟨p1,p2⟩:L1=[]/\u=v/\wfV v:=h1
     exact⟨by rw[q1,p2.1],by rw[e,p1,q2];rfl⟩
  exact key vs us La hargs
 obtain⟨rfl,rfl⟩:=hus
 refine Arrive.of hf hname hb (Calls.mono (h w hE) ?_)
 rintro e w' ⟨rfl,h1,h2,h3,h4,h5⟩
 exact⟨x,[],[],rfl,rfl,by simp,by simp,⟨rfl,rfl,hx⟩,fun j p cs L hj=>by simp at hj,⟨h1,h2,h3,h4,fun b hb _=>h5 b hb,fun j b off n hj=>by simp at hj⟩⟩
def pG_slices_Sort_int (l:List Int):Option (List Int):=gd (l.length<4611686018427387904) (some (l.mergeSort fun x y=>decide (x<=y)))
def o196 (fuel:Nat):Orc:=⟨196,[none],[.own .int 99],101,.one (.own .int 99),fun v=>pG_slices_Sort_int v⟩
theorem sort_calls (v r:List Int) (hr:pG_slices_Sort_int v=some r):PCalls Tryz.prog G E 196 [.row true .int v] [] (.gb (.tup []) [.row true .int r]) []:=by
 unfold pG_slices_Sort_int at hr
 obtain⟨hlen,hr⟩:=gd_some hr
 cases hr
 refine⟨rfl,fun w S us locs La Le hG hE hl1 hl2 hnd hF0 hS hargs hext=> ?_⟩
 obtain rfl:locs=[]:=List.eq_nil_of_length_eq_zero hl1
 obtain rfl:Le=[]:=List.eq_nil_of_length_eq_zero hl2
 match us,hargs with
 | [u],⟨L1,L2,e,h1,h2⟩=>
 have h2:L2=[]:=h2
 subst h2
 rw[List.append_nil]at e
 subst e
 have h1:Own S w .int u v La:=h1
 refine Arrive.of (fn:=Tryz.f196) (by kernel_rfl) (by kernel_rfl) rfl ?_
 rcases h1 with⟨rfl,rfl,rfl⟩ |⟨b,cap,cur,rfl,rfl,hlt,hrow,hcap,hmax,hsz,hcont⟩
 ·refine Calls.mono (Any.slices_Sort_int_none Go.Proofs.YtaeepiblggcjpaaGreatDoor.Tryz.laysSort none 0 w) ?_
  rintro e w' ⟨rfl,rfl⟩
  refine⟨.tuple #[],[],[],rfl,rfl,by simp,by simp,⟨[],[],rfl,⟨#[],rfl,rfl⟩,[],[],rfl,.inl ⟨rfl,?_,rfl⟩,rfl⟩,fun j p cs L hj=>by simp at hj,⟨rfl,rfl,rfl,Nat.le_refl _,fun _ _ _=>rfl,fun j b off n hj=>by simp at hj⟩⟩
  simp
 ·have hbl:b<w.heap.size:=hrow.lt
  have hH:Holds (Value.int .i64) w b 0 v.toArray:=fun j hj=>by
   have hj':j<v.length:=by simpa using hj
   obtain⟨u,hu,hl⟩:=hcont j v[j] (qE1 hj') 0 (.sc (.int .i64 v[j])) rfl
   have e1:j*size .int+0=j:=by show j*1+0=j;omega
   rw[e1]at hu
   have hlu:u= .int .i64 v[j]:=hl.1
   subst hlu
   have hjs:j<cur.size:=(Array.getElem?_eq_some_iff.1 hu).1
   rw[Nat.zero_add]
   refine⟨?_,hrow.frozen hjs⟩
   have hu:cur[j]?=some (.int .i64 v[j]):=hu
   rw[hrow.cell,hu]
   simp[hj']
  refine Calls.mono (Any.slices_Sort_int Go.Proofs.YtaeepiblggcjpaaGreatDoor.Tryz.laysSort b 0 cap v w hH hbl hlen) ?_
  rintro e w' ⟨rfl,n,os,rfl⟩
  obtain⟨fz,hheap,hice⟩:=hrow
  have hnew:=heap_sortedI (w:=w) (n:=n) (os:=os) (v.mergeSort fun x y=>decide (x<=y)).toArray hheap
  have hgr:=grownBy_sortedI (w:=w) (g:=b) (n:=n) (os:=os) (v.mergeSort fun x y=>decide (x<=y)).toArray
  obtain⟨g1,g2,g3,g4,g5⟩:=hgr
  have hml:(v.mergeSort fun x y=>decide (x<=y)).length=v.length:=List.length_mergeSort ..
  have hcs:(putCells (Value.int .i64) 0 (v.mergeSort fun x y=>decide (x<=y)).toArray cur).size=cur.size:=by simp[putCells]
  have hcz:cur.size=cap:=by rw[hsz];show cap*1=cap;omega
  refine⟨.tuple #[],[b],[],rfl,rfl,by simp,fun x hx=> ?_,⟨[],[b],rfl,⟨#[],rfl,rfl⟩,[b],[],rfl,.inr ⟨b,cap,_,?_,rfl,by rw[hml];exact hlt,⟨fz,hnew,by rw[hcs];exact hice⟩,by rw[hml];exact hcap,hmax,by rw[hcs];exact hsz,?_⟩,rfl⟩,fun j p cs L hj=>by simp at hj,⟨g1,g2,g3,g4,fun x hx hn=>g5 x hx fun e=>hn (by cases e;simp),fun j b off n hj=>by simp at hj⟩⟩
  ·have hx:x=b:=by simpa using hx
   subst hx
   exact⟨.inl (by simp),Nat.lt_of_lt_of_le hbl g4⟩
  ·rw[hml]
  ·intro i x hx j lf hlf
   have hi:i<v.length:=by have:=(qS1.1 hx).1;rwa[hml]at this
   have hj:j=0:=by
    have:=(qS1.1 hlf).1
    rw[leaves_len]at this
    have e:size K.int=1:=rfl
    omega
   subst hj
   have hlf:lf= .sc (.int .i64 x):=by
    have:(leaves (k:= .int) x)[0]?=some (.sc (.int .i64 x)):=rfl
    rw[this]at hlf;exact(Option.some.inj hlf).symm
   subst hlf
   have htk:=take_putCellsI cur (v.mergeSort fun x y=>decide (x<=y)) (by rw[hml,hcz];exact hcap)
   have e1:i*size .int+0=i:=by show i*1+0=i;omega
   refine⟨.int .i64 x,?_,rfl,?_⟩
   ·show(putCells (Value.int .i64) 0 (v.mergeSort fun x y=>decide (x<=y)).toArray cur)[i*size K.int+0]?=_
    rw[e1,<-Array.getElem?_toList]
    have h3:((putCells (Value.int .i64) 0 (v.mergeSort fun x y=>decide (x<=y)).toArray cur).toList.take (v.mergeSort fun x y=>decide (x<=y)).length)[i]?=some (.int .i64 x):=by
     rw[htk,List.getElem?_map,hx];rfl
    rw[List.getElem?_take_of_lt (by rw[hml];exact hi)]at h3
    exact h3
   ·have hxm:x∈v:=List.mem_mergeSort.1 (qM1 hx)
    obtain⟨m,hm⟩:=List.getElem?_of_mem hxm
    obtain⟨u,_,hl⟩:=hcont m x hm 0 (.sc (.int .i64 x)) rfl
    exact hl.2
theorem c196 (hcl:Cl G E) (fuel:Nat):Ctr Tryz.prog G E (o196 fuel):=fun v r hr=>sort_calls v r hr
def pG_strings_IndexByte (s:ByteArray) (c:Int):Option Int:=gd (s.size<=9223372036854775807) (some (Lib.indexByte s.data.toList (UInt8.ofNat c.toNat)))
def o276 (fuel:Nat):Orc:=⟨276,[none,none],[.S,.I .u8],0,.one (.I .i64),fun v=>pG_strings_IndexByte v.1 v.2⟩
theorem indexByte_le (c:UInt8):∀l:List UInt8,-1<=Lib.indexByte l c/\Lib.indexByte l c<=l.length
 | []=>by unfold Lib.indexByte;simp
 | b::l=>by
  have:=indexByte_le c l
  unfold Lib.indexByte
  split
  ·simp;omega
  ·split
   ·simp;omega
   ·simp;omega
theorem indexByte_calls (s:ByteArray) (c r:Int) (hr:pG_strings_IndexByte s c=some r):PCalls Tryz.prog G E 276 [.v (.string s),.v (.int .u8 c)] [] (.v (.int .i64 r)) []:=by
 unfold pG_strings_IndexByte at hr
 obtain⟨h2,hr⟩:=gd_some hr
 cases hr
 have hl:s.data.toList.length=s.size:=Array.length_toList
 have hb:=indexByte_le (UInt8.ofNat c.toNat) s.data.toList
 refine PCalls.libV (vs:=[.string s,.int .u8 c]) (fn:=Tryz.f276) (by kernel_rfl) (by kernel_rfl) rfl ((wrap_iff .i64 _).2 (by simp[loK,hiK];omega)) fun w hE=> ?_
 refine Calls.mono (Any.strings_IndexByte Go.Proofs.YtaeepiblggcjpaaGreatDoor.Tryz.laysIndexByte s c w) ?_
 rintro e w' ⟨rfl,rfl⟩
 exact⟨rfl,Below.refl _ _⟩
theorem c276 (hcl:Cl G E) (fuel:Nat):Ctr Tryz.prog G E (o276 fuel):=fun v r hr=>indexByte_calls v.1 v.2 r hr
def pG_strings_Compare (a b:ByteArray):Option Int:=some (Lib.compareBytes a.data.toList b.data.toList)
def o283 (fuel:Nat):Orc:=⟨283,[none,none],[.S,.S],0,.one (.I .i64),fun v=>pG_strings_Compare v.1 v.2⟩
theorem compareB_le:∀a b:List UInt8,-1<=Lib.compareBytes a b/\Lib.compareBytes a b<=1
 | [],[]=>by unfold Lib.compareBytes;omega
 | [],_::_=>by unfold Lib.compareBytes;omega
 | _::_,[]=>by unfold Lib.compareBytes;omega
 | a::l,b::m=>by
  have:=compareB_le l m
  unfold Lib.compareBytes
  split
  ·omega
  ·split<;>omega
theorem compare_calls (a b:ByteArray) (r:Int) (hr:pG_strings_Compare a b=some r):PCalls Tryz.prog G E 283 [.v (.string a),.v (.string b)] [] (.v (.int .i64 r)) []:=by
 unfold pG_strings_Compare at hr
 cases hr
 have hb:=compareB_le a.data.toList b.data.toList
 refine PCalls.libV (vs:=[.string a,.string b]) (fn:=Tryz.f283) (by kernel_rfl) (by kernel_rfl) rfl ((wrap_iff .i64 _).2 (by simp[loK,hiK];omega)) fun w hE=> ?_
 refine Calls.mono (Any.strings_Compare Go.Proofs.YtaeepiblggcjpaaGreatDoor.Tryz.laysCompare a b w) ?_
 rintro e w' ⟨rfl,rfl⟩
 exact⟨rfl,Below.refl _ _⟩
theorem c283 (hcl:Cl G E) (fuel:Nat):Ctr Tryz.prog G E (o283 fuel):=fun v r hr=>compare_calls v.1 v.2 r hr
def pG_strconv_Itoa (n:Int):Option ByteArray:=gd (0<=n/\n<=4294967295) (some ⟨(Lib.decDigits n.toNat).toArray⟩)
def o253 (fuel:Nat):Orc:=⟨253,[none],[.I .i64],0,.one .S,fun v=>pG_strconv_Itoa v⟩
theorem dec_small {u:Nat} (h:u<10):Lib.decDigits u=[UInt8.ofNat (48+u)]:=by rw[Lib.decDigits,dif_pos h]
theorem dec_big {u:Nat} (h:¬u<10):Lib.decDigits u=Lib.decDigits (u / 10)++ [UInt8.ofNat (48+u % 10)]:=by rw[Lib.decDigits,dif_neg h]
theorem dec_len:∀(k u:Nat),u<10 ^ (k+1)->(Lib.decDigits u).length<=k+1
 | 0,u,h=>by rw[dec_small (by omega)];simp
 | k+1,u,h=>by
  by_cases h1:u<10
  ·rw[dec_small h1];simp
  ·rw[dec_big h1]
   have:=dec_len k (u / 10) (by rw[Nat.pow_succ]at h;omega)
   simp;omega
theorem itoa_calls (hcl:Cl G E) (v:Int) (r:ByteArray) (hr:pG_strconv_Itoa v=some r):PCalls Tryz.prog G E 253 [.v (.int .i64 v)] [] (.v (.string r)) []:=by
 unfold pG_strconv_Itoa at hr
 obtain⟨⟨h0,h1⟩,hr⟩:=gd_some hr
 cases hr
 have hs:(Lib.decDigits v.toNat).length<=10:=dec_len 9 _ (by omega)
 refine PCalls.libV (vs:=[.int .i64 v]) (x:= .string ⟨(Lib.decDigits v.toNat).toArray⟩) (fn:=Tryz.f253) (by kernel_rfl) (by kernel_rfl) rfl (by show(Lib.decDigits v.toNat).toArray.size<=_;simp;omega) fun w hE=> ?_
 refine Calls.mono (Any.strconv_Itoa Go.Proofs.YtaeepiblggcjpaaGreatDoor.Tryz.laysItoa v (by omega) (by omega) w (hcl.tab w hE)) ?_
 rintro e w' ⟨rfl,k,os,rfl⟩
 refine⟨by simp[Lib.itoa,show¬v<0 from by omega],⟨rfl,rfl,rfl,by simp,fun b hb=>Sort.heap_grow_old (w.drewN k) os hb⟩⟩
theorem c253 (hcl:Cl G E) (fuel:Nat):Ctr Tryz.prog G E (o253 fuel):=fun v r hr=>itoa_calls hcl v r hr
end
open Go.Lib
theorem copyN {P:Program} (w:World) (dT sT ty elem:TypeId) (z b o dLen dCap:Nat) (a:Addr) (sLen sCap:Nat) (cs:List Value)
  (hu:P.underlying dT=some (.slice elem)) (hs:(P.info? elem).map (·.size)=some z) (hn:cs.length=Nat.min sLen dLen*z)
  (hsrc:∀j v,cs[j]?=some v->w.cell? (a.add j)=some v) (hc:∀j,j<cs.length->(w.cell? ⟨b,o+j,none⟩).isSome=true) (hf:∀j,j<cs.length->w.frozen? ⟨b,o+j,none⟩ = false) (h1:∀v∈cs,v.oneCell'=true) :
  (Builtin.copy_ #[dT,sT] ty #[.slice (some ⟨b,o,none⟩) dLen dCap,.slice (some a) sLen sCap]).run P w= .ok (goInt (Nat.min sLen dLen)) (w.setCells b o cs):=by
 have hl:=run_loadCells_list (P:=P) w a cs hsrc
 have hst:=run_storeCells_cells (P:=P) b o cs 0 w (by simpa using hc) (by simpa using hf) h1
 cases hq:P.info? elem with
 | none=>simp[hq]at hs
 | some i=>
  have hi:i.size=z:=by simpa [hq]using hs
  simp[Builtin.copy_,run_underlying hu,Builtin.lenOf,Builtin.firstCells,sizeOf,typeInfo,hq,hi,<-hn,hl,hst]
open Go.RowKit Go.Proofs Go.Lib
theorem mixI:Tryz.prog.follows .mixedOrders=true:=by kernel_rfl
theorem ins_info:(Tryz.prog.info? 139).map (·.size)=some 2:=by kernel_rfl
theorem ins_size:∀w,(Go.sizeOf 139).run Tryz.prog w= .ok 2 w:=fun w=>by
 have h:=ins_info
 cases hq:Tryz.prog.info? 139 with
 | none=>rw[hq]at h;cases h
 | some i=>
  rw[hq]at h
  have hi:i.size=2:=by simpa using h
  simp[Go.sizeOf,typeInfo,hq,hi]
set_option maxHeartbeats 4000000 in
set_option maxRecDepth 100000 in
theorem ins_shift (b n c i vb m vc:Nat) (cs vs:List Value) (w:World) (hi:i<n) (hm:0<m) (hroom:n+m<=c) (hc63:c<=9223372036854775807) (hvb:vb≠b)
  (hcl:cs.length=n*2) (hvl:vs.length=m*2)
  (hcs:∀j v,cs[j]?=some v->w.cell? ⟨b,j,none⟩ = some v) (hsp:∀j,j<(n+m)*2->(w.cell? ⟨b,j,none⟩).isSome=true) (hfz:∀j,j<(n+m)*2->w.frozen? ⟨b,j,none⟩ = false)
  (hvs:∀j v,vs[j]?=some v->w.cell? ⟨vb,j,none⟩ = some v) (h1c:∀v∈cs,v.oneCell'=true) (h1v:∀v∈vs,v.oneCell'=true)
  (tA tB:TypeId) (kA kB:Nat) (hsa:w.shape? vb=some (tA,kA)) (hsb:w.shape? b=some (tB,kB)) (hkB:kB≠0) (hfa:w.frozen? ⟨vb,0,none⟩ = false) (hfe:w.frozen? ⟨vb,kA,none⟩ = false) :
  Calls Tryz.prog 284 #[.slice (some ⟨b,0,none⟩) n c,.int .i64 i,.slice (some ⟨vb,0,none⟩) m vc] w fun e w'=>
   e= .returned (.slice (some ⟨b,0,none⟩) (n+m) c)/\w'=(w.drew.setCells b ((i+m)*2) (cs.drop (i*2))).setCells b (i*2) vs:=by
 have u0:=run_underlying Tryz.underlying3;have u24:=run_underlying Tryz.underlying49
 have hz1:¬((m:Int)=0):=by omega
 have hz2:¬((i:Int)=(n:Int)):=by omega
 have hsz:=ins_info
 have hz:=ins_size
 have hov:∀lb cb,(callFunc 326 #[.slice (some ⟨vb,0,none⟩) m vc,.slice (some ⟨b,(i+m)*2,none⟩) lb cb]).run Tryz.prog w= .ok (.value (.bool false)) w:=fun lb cb=>by
  rw[run_callFunc_extern Tryz.func326 (by kernel_rfl) (by kernel_rfl) (by kernel_rfl) (e:=Extern.SlicesOverlaps.overlaps #[49,49] #[4]) (by kernel_rfl),
   Lib.run_overlaps_apart w 49 4 139 Tryz.underlying49 2 ins_size ⟨vb,0,none⟩ ⟨b,(i+m)*2,none⟩ m vc lb cb hvb tA tB kA kB hsa hsb hkB hfa hfe]
  rfl
 have hdl:(cs.drop (i*2)).length=(n-i)*2:=by rw[List.length_drop,hcl];omega
 have hw1:IntKind.i64.wrap ((i:Int)+(m:Int))=(i:Int)+(m:Int):=by rw[IntKind.wrap_i64];omega
 have hb1:(0:Int)<=(i:Int)+(m:Int):=by omega
 have hin:i<=n:=by omega
 have htn:((i:Int)+(m:Int)).toNat=i+m:=by omega
 have hb2:¬(c=i+m):=by omega
 have hb3:(i:Int)<=(n:Int)+(m:Int):=by omega
 have hb4:¬(c=i):=by omega
 have hcp1:∀ty dc sc,(Builtin.copy_ #[49,49] ty #[.slice (some ⟨b,(i+m)*2,none⟩) (n+m-(i+m)) dc,.slice (some ⟨b,i*2,none⟩) (n+m-i) sc]).run Tryz.prog w.drew= .ok (goInt ((n-i:Nat))) (w.drew.setCells b ((i+m)*2) (cs.drop (i*2))):=fun ty dc sc=>by
  have hmn:Nat.min (n+m-i) (n+m-(i+m))=n-i:=by simp only[Nat.min_def];split<;>omega
  have:=copyN (P:=Tryz.prog) w.drew 49 49 ty 139 2 b ((i+m)*2) (n+m-(i+m)) dc ⟨b,i*2,none⟩ (n+m-i) sc (cs.drop (i*2)) Tryz.underlying49 hsz (by rw[hdl,hmn])
   (fun j v hj=>by rw[Addr.add_lit];exact hcs (i*2+j) v (by rwa[List.getElem?_drop]at hj))
   (fun j hj=>hsp _ (by omega)) (fun j hj=>hfz _ (by omega)) (fun v hv=>h1c v (List.mem_of_mem_drop hv))
  rw[hmn]at this
  exact this
 obtain⟨W1,hW1⟩:∃W1,W1=w.drew.setCells b ((i+m)*2) (cs.drop (i*2)):=⟨_,rfl⟩
 have hsp1:∀k,k<(n+m)*2->(W1.cell? ⟨b,k,none⟩).isSome=true:=fun k hk=>by
  rw[hW1]
  exact isSome_setCells b (cs.drop (i*2)) ((i+m)*2) w.drew (fun j hj=>hsp _ (by rw[hdl]at hj;omega)) _ (hsp k hk)
 have hcp2:∀(W:World),(∀x,W.cell? x=W1.cell? x)->(∀x,W.frozen? x=W1.frozen? x)->∀ty dc,(Builtin.copy_ #[49,49] ty #[.slice (some ⟨b,i*2,none⟩) (n+m-i) dc,.slice (some ⟨vb,0,none⟩) m vc]).run Tryz.prog W= .ok (goInt m) (W.setCells b (i*2) vs):=fun W hWc hWf ty dc=>by
  have hmn:Nat.min m (n+m-i)=m:=by simp only[Nat.min_def];split<;>omega
  have:=copyN (P:=Tryz.prog) W 49 49 ty 139 2 b (i*2) (n+m-i) dc ⟨vb,0,none⟩ m vc vs Tryz.underlying49 hsz (by rw[hvl,hmn])
   (fun j v hj=>by
    rw[Addr.add_lit,hWc,hW1,World.cell?_setCells_out b _ _ _ _ (fun h _=>absurd h hvb),Nat.zero_add]
    exact hvs j v hj)
   (fun j hj=>by rw[hWc];exact hsp1 _ (by omega)) (fun j hj=>by rw[hWf,hW1,World.frozen?_setCells];exact hfz _ (by omega)) h1v
  rw[hmn]at this
  exact this
 rw[<-hW1]at hcp1
 have mixed:=mixI
 go_enter Tryz.func284,Tryz.ntmps284
 go_wp2_with (simp only[hov])
 go_region_law_o (refine step_copy_runI rfl _ _ 49 49 rfl _ _ (by simp[Act.eval,Act.put]) (by simp[Act.eval,Act.put]) (hcp1 _ _ _) ?_)
 go_wp2_with (at_builtin;refine wpList_copy_runI _ rfl _ _ 49 49 rfl _ _ rfl rfl (hcp2 _ (fun _=>rfl) (fun _=>rfl) _ _) ?_)
 go_ret
 first|exact⟨rfl,rfl⟩ | exact⟨rfl,by rw[hW1]⟩
open Go.RowKit Go.Proofs Go.Lib Go.Shelf
def zLink:Value:= .agg #[.string ⟨#[]⟩,.int .i64 0]
theorem ins_info3:(Tryz.prog.info? 139).map (fun i=>(i.zero,i.size,i.bytes))=some (some zLink,2,24):=by kernel_rfl
set_option maxHeartbeats 4000000 in
set_option maxRecDepth 100000 in
theorem ins_grow (b n c i vb m vc:Nat) (cs vs:List Value) (w:World) (hi:i<n) (hm:0<m) (hnc:n<=c) (hroom:c<n+m) (hbig:(n+m)*24<=140737488355328)
  (hcl:cs.length=n*2) (hvl:vs.length=m*2)
  (hcs:∀j v,cs[j]?=some v->w.cell? ⟨b,j,none⟩ = some v)
  (hvs:∀j v,vs[j]?=some v->w.cell? ⟨vb,j,none⟩ = some v) (h1c:∀v∈cs,v.oneCell'=true) (h1v:∀v∈vs,v.oneCell'=true) :
  Calls Tryz.prog 284 #[.slice (some ⟨b,0,none⟩) n c,.int .i64 i,.slice (some ⟨vb,0,none⟩) m vc] w fun e w'=>
   e= .returned (.slice (some ⟨w.heap.size,0,none⟩) (n+m) (grownCap w (n+m) c 139))/\
   w'=(((w.alloc (.cells ((cs.take (i*2)).toArray++Builtin.zeroCells zLink.cells (n+m-i)++Builtin.zeroCells zLink.cells (grownCap w (n+m) c 139-(n+m))) 139)).drew.setCells w.heap.size (i*2) vs).drew).setCells w.heap.size ((i+m)*2) (cs.drop (i*2)):=by
 have u0:=run_underlying Tryz.underlying3;have u24:=run_underlying Tryz.underlying49
 have mixed:=mixI
 obtain⟨i0,hi0,hz0,hzs,hzb⟩:=info_parts ins_info3
 have hz1:¬((m:Int)=0):=by omega
 have hz2:¬((i:Int)=(n:Int)):=by omega
 have hz3:(c:Int)<(n:Int)+(m:Int):=by omega
 have hsz:=ins_info
 have hz:=ins_size
 have hbw:b<w.heap.size:=block_lt_of_cell (hcs 0 _ (qE1 (by omega)))
 have hvw:vb<w.heap.size:=block_lt_of_cell (hvs 0 _ (qE1 (by omega)))
 have hkk:(n:Int)+(m:Int)-(i:Int)=((n+m-i:Nat):Int):=by omega
 have hik:i+(n+m-i)=n+m:=by omega
 have hold:(Builtin.firstCells i0.size i (.slice (some ⟨b,0,none⟩) i c)).run Tryz.prog w.drew= .ok (cs.take (i*2)).toArray w.drew:=by
  rw[hzs]
  exact run_firstCells_some w.drew 2 i ⟨b,0,none⟩ i c (cs.take (i*2)) (by rw[List.length_take];omega) (fun j v hj=>by
   rw[Addr.add_lit,Nat.zero_add]
   rw[List.getElem?_take]at hj
   split at hj
   ·exact hcs j v hj
   ·cases hj)
 have hrz:∀ty,(Builtin.append_ #[49,3] ty #[.slice (some ⟨b,0,none⟩) i c,.int .i64 ((n:Int)+(m:Int)-(i:Int))]).run Tryz.prog w =
   .ok (.slice (some ⟨w.heap.size,0,none⟩) (n+m) (grownCap w (n+m) c 139)) (w.drew.alloc (.cells ((cs.take (i*2)).toArray++Builtin.zeroCells zLink.cells (n+m-i)++Builtin.zeroCells zLink.cells (grownCap w (n+m) c 139-(n+m))) 139)):=fun ty=>by
  have h:=Lib.run_append_grow_zeros w 49 3 ty 139 i0 _ .i64 .i64 Tryz.underlying49 Tryz.underlying3 hi0 hz0 (some ⟨b,0,none⟩) i c (cs.take (i*2)) hold (n+m-i) (by omega) (by omega) (by omega) (by omega) (by rw[hzb];omega) (by rw[hzb,hik];exact growslice_fits hroom hbig)
  rw[hik]at h
  rw[hkk]
  exact h
 obtain⟨G,hG⟩:∃G,G=grownCap w (n+m) c 139:=⟨_,rfl⟩
 obtain⟨ROW,hROW⟩:∃ROW:Array Value,ROW=(cs.take (i*2)).toArray++Builtin.zeroCells zLink.cells (n+m-i)++Builtin.zeroCells zLink.cells (G-(n+m)):=⟨_,rfl⟩
 rw[<-hG]at hrz⊢
 rw[<-hROW]at hrz⊢
 have hRl:(n+m)*2<=ROW.size:=by
  rw[hROW]
  simp[Builtin.zeroCells,Value.cells,zLink]
  omega
 obtain⟨W1,hW1⟩:∃W1,W1=w.drew.alloc (.cells ROW 139):=⟨_,rfl⟩
 rw[<-hW1]at hrz
 have hN:∀j,j<(n+m)*2->(W1.cell? ⟨w.heap.size,j,none⟩).isSome=true:=fun j hj=>by
  rw[hW1,World.cell?_alloc_at (w:=w.drew) ROW _ w.heap.size j rfl,Array.getElem?_eq_getElem (by omega)];rfl
 have hNf:∀j,W1.frozen? ⟨w.heap.size,j,none⟩ = false:=fun j=>by rw[hW1];exact World.frozen?_alloc_at (w:=w.drew) ROW _ w.heap.size j rfl
 have hOb:∀j v,w.cell? ⟨b,j,none⟩ = some v->W1.cell? ⟨b,j,none⟩ = some v:=fun j v h=>by rw[hW1,World.cell?_alloc_past (w:=w.drew) _ b j hbw];exact h
 have hOv:∀j v,w.cell? ⟨vb,j,none⟩ = some v->W1.cell? ⟨vb,j,none⟩ = some v:=fun j v h=>by rw[hW1,World.cell?_alloc_past (w:=w.drew) _ vb j hvw];exact h
 have hcpA:∀(W:World),(∀x,W.cell? x=W1.cell? x)->(∀x,W.frozen? x=W1.frozen? x)->∀ty dc,(Builtin.copy_ #[49,49] ty #[.slice (some ⟨w.heap.size,i*2,none⟩) (n+m-i) dc,.slice (some ⟨vb,0,none⟩) m vc]).run Tryz.prog W= .ok (goInt m) (W.setCells w.heap.size (i*2) vs):=fun W hWc hWf ty dc=>by
  have hmn:Nat.min m (n+m-i)=m:=by simp only[Nat.min_def];split<;>omega
  have:=copyN (P:=Tryz.prog) W 49 49 ty 139 2 w.heap.size (i*2) (n+m-i) dc ⟨vb,0,none⟩ m vc vs Tryz.underlying49 hsz (by rw[hvl,hmn])
   (fun j v hj=>by rw[Addr.add_lit,hWc,Nat.zero_add];exact hOv _ v (hvs j v hj))
   (fun j hj=>by rw[hWc];exact hN _ (by omega)) (fun j hj=>by rw[hWf];exact hNf _) h1v
  rw[hmn]at this
  exact this
 have hGn:n+m<=G:=by rw[hG];exact grownCap_ge w _ _ _
 have hG63:G<=9223372036854775807:=by
  have:=grownCap_le_maxLen w (n+m) c 139 (by unfold maxLen;omega)
  rw[<-hG]at this
  unfold maxLen at this
  omega
 have hGi:¬(G=i):=by omega
 have hGim:¬(G=i+m):=by omega
 have hci:¬(c=i):=by omega
 have hbN:b≠w.heap.size:=by omega
 have hdl:(cs.drop (i*2)).length=(n-i)*2:=by rw[List.length_drop,hcl];omega
 have hcpB:∀(W:World),(∀x,W.cell? x=(W1.setCells w.heap.size (i*2) vs).cell? x)->(∀x,W.frozen? x=(W1.setCells w.heap.size (i*2) vs).frozen? x)->∀ty dc sc,(Builtin.copy_ #[49,49] ty #[.slice (some ⟨w.heap.size,(i+m)*2,none⟩) (n+m-(i+m)) dc,.slice (some ⟨b,i*2,none⟩) (n-i) sc]).run Tryz.prog W= .ok (goInt ((n-i:Nat))) (W.setCells w.heap.size ((i+m)*2) (cs.drop (i*2))):=fun W hWc hWf ty dc sc=>by
  have hmn:Nat.min (n-i) (n+m-(i+m))=n-i:=by simp only[Nat.min_def];split<;>omega
  have:=copyN (P:=Tryz.prog) W 49 49 ty 139 2 w.heap.size ((i+m)*2) (n+m-(i+m)) dc ⟨b,i*2,none⟩ (n-i) sc (cs.drop (i*2)) Tryz.underlying49 hsz (by rw[hdl,hmn])
   (fun j v hj=>by
    rw[Addr.add_lit,hWc,World.cell?_setCells_out _ _ _ _ _ (fun h _=>absurd h hbN)]
    exact hOb _ v (hcs (i*2+j) v (by rwa[List.getElem?_drop]at hj)))
   (fun j hj=>by rw[hWc];exact isSome_setCells _ vs (i*2) W1 (fun t ht=>hN _ (by omega)) _ (hN _ (by omega)))
   (fun j hj=>by rw[hWf,World.frozen?_setCells];exact hNf _) (fun v hv=>h1c v (List.mem_of_mem_drop hv))
  rw[hmn]at this
  exact this
 subst hW1
 have hE1:∀x,((w.alloc (.cells ROW 139)).drew).cell? x=(w.drew.alloc (.cells ROW 139)).cell? x:=fun x=>rfl
 have hE2:∀x,((w.alloc (.cells ROW 139)).drew).frozen? x=(w.drew.alloc (.cells ROW 139)).frozen? x:=fun x=>rfl
 have hF1:∀x,(((w.alloc (.cells ROW 139)).drew.setCells w.heap.size (i*2) vs).drew).cell? x=((w.drew.alloc (.cells ROW 139)).setCells w.heap.size (i*2) vs).cell? x:=fun x=>rfl
 have hF2:∀x,(((w.alloc (.cells ROW 139)).drew.setCells w.heap.size (i*2) vs).drew).frozen? x=((w.drew.alloc (.cells ROW 139)).setCells w.heap.size (i*2) vs).frozen? x:=fun x=>rfl
 have hw1:IntKind.i64.wrap ((i:Int)+(m:Int))=(i:Int)+(m:Int):=by rw[IntKind.wrap_i64];omega
 have hb1:(0:Int)<=(i:Int)+(m:Int):=by omega
 have hin:i<=n:=by omega
 have htn:((i:Int)+(m:Int)).toNat=i+m:=by omega
 have hb3:(i:Int)<=(n:Int):=by omega
 clear hkk hik hold hROW hG hRl
 go_enter Tryz.func284,Tryz.ntmps284
 go_wp2_with (first
  | (at_builtin;refine Lib.wpList_append_run _ rfl _ _ _ _ rfl _ _ rfl rfl _ _ (hrz _) ?_)
  | (at_builtin;refine wpList_copy_runI _ rfl _ _ 49 49 rfl _ _ rfl rfl (hcpA _ hE1 hE2 _ _) ?_)
  | (at_builtin;refine wpList_copy_runI _ rfl _ _ 49 49 rfl _ _ rfl rfl (hcpB _ (fun _=>rfl) (fun _=>rfl) _ _ _) ?_))
 go_region_law_o (refine step_copy_runI rfl _ _ 49 49 rfl (.slice (some ⟨w.heap.size,(i+m)*2,none⟩) (n+m-(i+m)) (G-(i+m))) (.slice (some ⟨b,i*2,none⟩) (n-i) (c-i)) (by simp[Act.eval,Act.put]) (by simp[Act.eval,Act.put]) (hcpB _ hF1 hF2 3 (G-(i+m)) (c-i)) ?_)
 go_wp2
 go_ret
 exact⟨rfl,rfl⟩
open Go.RowKit Go.Proofs Go.Lib Go.Shelf
set_option maxHeartbeats 4000000 in
set_option maxRecDepth 100000 in
theorem ins_end_room (b n c vb m vc:Nat) (vs:List Value) (w:World) (hm:0<m) (hroom:n+m<=c) (hc63:c<=9223372036854775807)
  (hvl:vs.length=m*2) (hsp:∀j,j<m*2->(w.cell? ⟨b,n*2+j,none⟩).isSome=true) (hfz:∀j,j<m*2->w.frozen? ⟨b,n*2+j,none⟩ = false)
  (hvs:∀j v,vs[j]?=some v->w.cell? ⟨vb,j,none⟩ = some v) (h1v:∀v∈vs,v.oneCell'=true) :
  Calls Tryz.prog 284 #[.slice (some ⟨b,0,none⟩) n c,.int .i64 n,.slice (some ⟨vb,0,none⟩) m vc] w fun e w'=>
   e= .returned (.slice (some ⟨b,0,none⟩) (n+m) c)/\w'=w.setCells b (n*2) vs:=by
 have u0:=run_underlying Tryz.underlying3;have u24:=run_underlying Tryz.underlying49
 have mixed:=mixI
 obtain⟨i0,hi0,hz0,hzs,hzb⟩:=info_parts ins_info3
 have hz1:¬((m:Int)=0):=by omega
 have hsrc:Src Tryz.prog i0.size 49 (.slice (some ⟨vb,0,none⟩) m vc) m vs w:=by
  rw[hzs]
  exact Src.ofSlice w Tryz.underlying49 ⟨vb,0,none⟩ m vc vs (by omega) (fun j u hj=>by rw[Addr.add_lit,Nat.zero_add];exact hvs j u hj) h1v
 have hgoal:0+n*i0.size=n*2:=by rw[hzs];omega
 go_enter Tryz.func284,Tryz.ntmps284
 go_wp2_with (at_builtin;refine wpList_append_room_src _ rfl _ _ 49 49 rfl 139 i0 Tryz.underlying49 hi0 b 0 n c rfl _ rfl m vs hsrc hroom (by rw[hvl,hgoal];exact hsp) (by rw[hvl,hgoal];exact hfz) ?_)
 go_ret
 first|exact⟨rfl,rfl⟩ | exact⟨rfl,by rw[hgoal]⟩
set_option maxHeartbeats 4000000 in
set_option maxRecDepth 100000 in
theorem ins_end_grow (base:Option Addr) (n c vb m vc:Nat) (cs vs:List Value) (w:World) (hm:0<m) (hnc:n<=c) (hroom:c<n+m) (hbig:(n+m)*24<=140737488355328)
  (hcl:cs.length=n*2) (hvl:vs.length=m*2) (hnil:base=none->n=0)
  (hcs:∀a,base=some a->∀j v,cs[j]?=some v->w.cell? (a.add j)=some v)
  (hvs:∀j v,vs[j]?=some v->w.cell? ⟨vb,j,none⟩ = some v) (h1v:∀v∈vs,v.oneCell'=true) :
  Calls Tryz.prog 284 #[.slice base n c,.int .i64 n,.slice (some ⟨vb,0,none⟩) m vc] w fun e w'=>
   e= .returned (.slice (some ⟨w.heap.size,0,none⟩) (n+m) (grownCap w (n+m) c 139))/\
   w'=w.drew.alloc (.cells ((cs++vs).toArray++Builtin.zeroCells zLink.cells (grownCap w (n+m) c 139-(n+m))) 139):=by
 have u0:=run_underlying Tryz.underlying3;have u24:=run_underlying Tryz.underlying49
 have mixed:=mixI
 obtain⟨i0,hi0,hz0,hzs,hzb⟩:=info_parts ins_info3
 have hz1:¬((m:Int)=0):=by omega
 have hsrc:Src Tryz.prog i0.size 49 (.slice (some ⟨vb,0,none⟩) m vc) m vs w:=by
  rw[hzs]
  exact Src.ofSlice w Tryz.underlying49 ⟨vb,0,none⟩ m vc vs (by omega) (fun j u hj=>by rw[Addr.add_lit,Nat.zero_add];exact hvs j u hj) h1v
 have hold:(Builtin.firstCells i0.size n (.slice base n c)).run Tryz.prog w.drew= .ok cs.toArray w.drew:=by
  rw[hzs]
  cases base with
  | none=>
   have h0:=hnil rfl
   subst h0
   rw[List.length_eq_zero_iff.1 (show cs.length=0 by omega)]
   exact run_firstCells_none w.drew 2 0 0 c
  | some a=>exact run_firstCells_some w.drew 2 n a n c cs (by omega) (fun j v hj=>hcs a rfl j v hj)
 have hrun:∀ty,(Builtin.append_ #[49,49] ty #[.slice base n c,.slice (some ⟨vb,0,none⟩) m vc]).run Tryz.prog w=_:=fun ty=>
  run_append_grow_src w 49 49 ty 139 i0 _ Tryz.underlying49 hi0 hz0 base n c cs hold _ m vs hsrc hroom (by omega) (by rw[hzb];exact growslice_fits hroom hbig)
 go_enter Tryz.func284,Tryz.ntmps284
 cases base with
 | none=>
  have h0:=hnil rfl
  subst h0
  go_wp2_with (at_builtin;refine Lib.wpList_append_run _ rfl _ _ _ _ rfl _ _ rfl rfl _ _ (hrun _) ?_)
  go_ret
  exact⟨rfl,rfl⟩
 | some a=>
  obtain⟨ab,ao,asp⟩:=a
  go_wp2_with (at_builtin;refine Lib.wpList_append_run _ rfl _ _ _ _ rfl _ _ rfl rfl _ _ (hrun _) ?_)
  all_goals (go_ret;exact⟨rfl,rfl⟩)
open Go.RowKit
theorem heap_setCell (g o:Nat) (v:Value) {cur:Array Value} {E:TypeId} {fz:Nat×Nat} (h:w.heap[g]?=some (.cells cur E fz)):(w.setCell ⟨g,o,none⟩ v).heap[g]?=some (.cells (cur.setIfInBounds o v) E fz):=by
 unfold World.setCell
 show(w.heap.modify g _)[g]?=_
 rw[Array.getElem?_modify,if_pos rfl,h]
 rfl
theorem heap_setCells (g:Nat):∀(vs:List Value) (o:Nat) {w:World} {cur:Array Value} {E:TypeId} {fz:Nat×Nat},w.heap[g]?=some (.cells cur E fz)->o+vs.length<=cur.size->
  ∃cur',(w.setCells g o vs).heap[g]?=some (.cells cur' E fz)/\cur'.size=cur.size/\(∀j,j<vs.length->cur'[o+j]?=vs[j]?)/\∀j,j<o∨o+vs.length<=j->cur'[j]?=cur[j]?
 | [],o,w,cur,E,fz,h,_=>⟨cur,h,rfl,fun j hj=>by simp at hj,fun _ _=>rfl⟩
 | v::vs,o,w,cur,E,fz,h,hl=>by
  have hl:o+(vs.length+1)<=cur.size:=hl
  obtain⟨cur',h1,h2,h3,h4⟩:=heap_setCells g vs (o+1) (heap_setCell g o v h) (by rw[Array.size_setIfInBounds];omega)
  rw[Array.size_setIfInBounds]at h2
  refine⟨cur',h1,h2,fun j hj=> ?_,fun j hj=> ?_⟩
  ·cases j with
   | zero=>
    rw[Nat.add_zero,h4 o (by omega),Array.getElem?_setIfInBounds,if_pos rfl,if_pos (by omega)]
    rfl
   | succ j=>
    have:=h3 j (by simpa using hj)
    rw[show o+1+j=o+(j+1) by omega]at this
    rw[this]
    rfl
  ·have hj:j<o∨o+(vs.length+1)<=j:=hj
   rw[h4 j (by omega),Array.getElem?_setIfInBounds,if_neg (by omega)]
theorem setCells_os (g:Nat):∀(vs:List Value) (o:Nat) (w:World),(w.setCells g o vs).os=w.os/\(w.setCells g o vs).tape=w.tape/\(w.setCells g o vs).output=w.output/\(w.setCells g o vs).heap.size=w.heap.size/\∀b,b≠g->(w.setCells g o vs).heap[b]?=w.heap[b]?
 | [],_,_=>⟨rfl,rfl,rfl,rfl,fun _ _=>rfl⟩
 | v::vs,o,w=>by
  obtain⟨h1,h2,h3,h4,h5⟩:=setCells_os g vs (o+1) (w.setCell ⟨g,o,none⟩ v)
  refine⟨h1,h2,h3,h4.trans (by simp[World.setCell]),fun b hb=>(h5 b hb).trans ?_⟩
  show(w.heap.modify g _)[b]?=_
  rw[Array.getElem?_modify,if_neg (fun e=>hb e.symm)]
open Go.RowKit Go.Proofs
def cellsL (x:ILink):List Value:=[.string x.Name,.int .i64 x.Id]
def flatL (l:List ILink):List Value:=l.flatMap cellsL
theorem flatL_len:∀(l:List ILink),(flatL l).length=l.length*2
 | []=>rfl
 | x::l=>by
  have:flatL (x::l)=cellsL x++flatL l:=rfl
  rw[this,List.length_append,flatL_len l,List.length_cons]
  simp[cellsL]
  omega
theorem flatL_append (a b:List ILink):flatL (a++b)=flatL a++flatL b:=List.flatMap_append
theorem flatL_take:∀(l:List ILink) (i:Nat),flatL (l.take i)=(flatL l).take (i*2)
 | [],i=>by simp[flatL]
 | x::l,0=>by simp[flatL]
 | x::l,i+1=>by
  have e:flatL (x::l)= .string x.Name:: .int .i64 x.Id::flatL l:=rfl
  have e2:flatL (x::l.take i)= .string x.Name:: .int .i64 x.Id::flatL (l.take i):=rfl
  rw[List.take_succ_cons,e,e2,flatL_take l i,show(i+1)*2=i*2+1+1 by omega]
  rfl
theorem flatL_drop:∀(l:List ILink) (i:Nat),flatL (l.drop i)=(flatL l).drop (i*2)
 | [],i=>by simp[flatL]
 | x::l,0=>by simp
 | x::l,i+1=>by
  have e:flatL (x::l)= .string x.Name:: .int .i64 x.Id::flatL l:=rfl
  rw[List.drop_succ_cons,e,flatL_drop l i,show(i+1)*2=i*2+1+1 by omega]
  rfl
theorem flatL_one (l:List ILink):∀v∈flatL l,v.oneCell'=true:=fun v hv=>by
 obtain⟨x,_,hx⟩:=List.mem_flatMap.1 hv
 simp only[cellsL,List.mem_cons,List.not_mem_nil,or_false]at hx
 rcases hx with rfl|rfl<;>rfl
theorem flatL_get {l:List ILink} {i:Nat} {x:ILink} (h:l[i]?=some x):(flatL l)[i*2]?=some (.string x.Name)/\(flatL l)[i*2+1]?=some (.int .i64 x.Id):=by
 have hd:flatL (l.drop i)= .string x.Name:: .int .i64 x.Id::flatL (l.drop (i+1)):=by
  rw[List.drop_eq_getElem_cons (qS1.1 h).1]
  rw[(qS1.1 h).2]
  rfl
 rw[flatL_drop]at hd
 have h0:((flatL l).drop (i*2))[0]?=some (.string x.Name):=by rw[hd];rfl
 have h1:((flatL l).drop (i*2))[1]?=some (.int .i64 x.Id):=by rw[hd];rfl
 rw[List.getElem?_drop]at h0 h1
 exact⟨h0,h1⟩
def wfL (x:ILink):Prop:=wfV (.string x.Name)/\wfV (.int .i64 x.Id)
theorem cont_flat {l:List ILink} {f:Nat->Option Value} (h:Cont S w (k:= .iLink) l f):(∀(j:Nat) (u:Value),(flatL l)[j]?=some u->f j=some u)/\∀x∈l,wfL x:=by
 have key:∀i x,l[i]?=some x->(f (i*2)=some (.string x.Name)/\f (i*2+1)=some (.int .i64 x.Id))/\wfL x:=fun i x hx=>by
  obtain⟨u,hu,e,w1⟩:=h i x hx 0 (.sc (.string x.Name)) rfl
  obtain⟨u',hu',e',w2⟩:=h i x hx 1 (.sc (.int .i64 x.Id)) rfl
  subst e e'
  exact⟨⟨hu,hu'⟩,w1,w2⟩
 refine⟨fun j u hj=> ?_,fun x hx=> ?_⟩
 ·have hl:=(qS1.1 hj).1
  rw[flatL_len]at hl
  have hi:j / 2<l.length:=by omega
  have hx:=qE1 hi
  obtain⟨h1,h2⟩:=flatL_get hx
  obtain⟨⟨h3,h4⟩,_⟩:=key _ _ hx
  rcases Nat.mod_two_eq_zero_or_one j with e|e
  ·have e:j / 2*2=j:=by omega
   rw[e]at h1 h3
   rw[<-hj,h1,h3]
  ·have e:j / 2*2+1=j:=by omega
   rw[e]at h2 h4
   rw[<-hj,h2,h4]
 ·obtain⟨i,hi⟩:=List.getElem?_of_mem hx
  exact(key i x hi).2
theorem own_flat {g cap:Nat} {r:List ILink} {cur:Array Value} {fz:Nat×Nat} (h:w.heap[g]?=some (.cells cur 139 fz)) (hf:NoIce 139 cur.size fz) (hr:r.length<=cap) (hc:cap<=maxLen) (hs:cur.size=cap*2) (hl:∀(j:Nat) (u:Value),(flatL r)[j]?=some u->cur[j]?=some u) (hw:∀x∈r,wfL x):Own S w .iLink (.slice (some ⟨g,0,none⟩) r.length cap) r [g]:=by
 refine .inr ⟨g,cap,cur,rfl,rfl,?_,⟨fz,h,hf⟩,hr,hc,hs,fun i x hx j lf hlf=> ?_⟩
 ·unfold maxLen at hc;omega
 ·obtain⟨h1,h2⟩:=flatL_get hx
  obtain⟨w1,w2⟩:=hw x (qM1 hx)
  match j,hlf with
  | 0,hlf=>
   obtain rfl:Leaf.sc (.string x.Name)=lf:=Option.some.inj hlf
   exact⟨_,hl _ _ h1,rfl,w1⟩
  | 1,hlf=>
   obtain rfl:Leaf.sc (.int .i64 x.Id)=lf:=Option.some.inj hlf
   exact⟨_,hl _ _ h2,rfl,w2⟩
  | j+2,hlf=>cases hlf
def pG_slices_Insert_ILink (l:List ILink) (i:Int) (x:List ILink):Option (List ILink):=gd (0<=i/\i<=l.length/\0<x.length/\(l.length+x.length)*24<=140737488355328) (some (l.take i.toNat++x++l.drop i.toNat))
open Go.RowKit Go.Proofs
theorem ins_get {a x:List Value} {p:Nat} (hp:p<=a.length) {j:Nat} {u:Value} (h:(a.take p++x++a.drop p)[j]?=some u):(j<p/\a[j]?=some u)∨(∃t,j=p+t/\t<x.length/\x[t]?=some u)∨∃t,j=p+x.length+t/\t<(a.drop p).length/\(a.drop p)[t]?=some u:=by
 have hl:(a.take p).length=p:=by rw[List.length_take];omega
 by_cases h1:j<p
 ·rw[List.append_assoc,List.getElem?_append_left (by omega),List.getElem?_take,if_pos h1]at h
  exact .inl ⟨h1,h⟩
 ·by_cases h2:j<p+x.length
  ·rw[List.append_assoc,List.getElem?_append_right (by omega),List.getElem?_append_left (by omega),hl]at h
   exact .inr (.inl ⟨j-p,by omega,by omega,h⟩)
  ·rw[List.getElem?_append_right (by rw[List.length_append];omega),List.length_append,hl]at h
   exact .inr (.inr ⟨j-(p+x.length),by omega,(qS1.1 h).1,h⟩)
theorem alloc_at (w:World) (o:Obj):(w.drew.alloc o).heap[w.heap.size]?=some o:=by
 show(w.heap.push o)[w.heap.size]?=some o
 simp
theorem alloc_le (w:World) (o:Obj):w.heap.size<=(w.drew.alloc o).heap.size:=by
 show w.heap.size<=(w.heap.push o).size
 rw[Array.size_push];omega
set_option maxHeartbeats 4000000 in
set_option maxRecDepth 100000 in
theorem insert_calls {E:World->Prop} (l x r:List ILink) (i:Int) (hr:pG_slices_Insert_ILink l i x=some r):PCalls Tryz.prog G E 284 [.row true .iLink l,.v (.int .i64 i),.row true .iLink x] [] (.row true .iLink r) []:=by
 unfold pG_slices_Insert_ILink at hr
 obtain⟨⟨i0,i1,hm,hbig⟩,hr⟩:=gd_some hr
 obtain⟨k,rfl⟩:∃k:Nat,i=k:=⟨i.toNat,by omega⟩
 rw[Int.toNat_natCast]at hr
 have hr:l.take k++x++l.drop k=r:=Option.some.inj hr
 have hkl:k<=l.length:=by omega
 have hrl:r.length=l.length+x.length:=by rw[<-hr];simp;omega
 have hflat:flatL r=(flatL l).take (k*2)++flatL x++(flatL l).drop (k*2):=by rw[<-hr,flatL_append,flatL_append,flatL_take,flatL_drop]
 refine⟨rfl,fun w S us locs La Le hG hE hl1 hl2 hnd hF0 hS hargs hext=> ?_⟩
 obtain rfl:locs=[]:=List.eq_nil_of_length_eq_zero hl1
 obtain rfl:Le=[]:=List.eq_nil_of_length_eq_zero hl2
 match us,hargs with
 | [u1,u2,u3],⟨L1,M1,e1,h1,L2,M2,e2,h2,L3,M3,e3,h3,h4⟩=>
 have h1:Own S w .iLink u1 l L1:=h1
 have h3:Own S w .iLink u3 x L3:=h3
 have h4:M3=[]:=h4
 obtain⟨h2a,h2b,h2c⟩:L2=[]/\u2= .int .i64 k/\wfV (.int .i64 k):=h2
 subst h4 h2a h2b
 rw[List.append_nil]at e3
 rw[List.nil_append]at e2
 subst e3 e2 e1
 refine Arrive.of (fn:=Tryz.f284) (by kernel_rfl) (by kernel_rfl) rfl ?_
 rcases h3 with⟨_,rfl,_⟩ |⟨vb,vc,cur2,rfl,rfl,v1,v2,v3,v4,v5,v6⟩
 ·simp at hm
 have v5:cur2.size=vc*2:=v5
 obtain⟨fx,hwx⟩:=cont_flat v6
 have hvs:∀j v,(flatL x)[j]?=some v->w.cell? ⟨vb,j,none⟩ = some v:=fun j v hj=>(v2.cell j).trans (fx j v hj)
 have hlx:=flatL_len x
 have hll:=flatL_len l
 have fin:∀(g cap':Nat) (ROW:Array Value) (fz:Nat×Nat) (w':World),(∀y∈l,wfL y)->w'.heap[g]?=some (.cells ROW 139 fz)->NoIce 139 ROW.size fz->r.length<=cap'->cap'<=maxLen->ROW.size=cap'*2->(∀(j:Nat) (u:Value),(flatL r)[j]?=some u->ROW[j]?=some u)->(g∈L1++ [vb]∨w.heap.size<=g)->w'.os=w.os->w'.tape=w.tape->w'.output=w.output->w.heap.size<=w'.heap.size->(∀b,b<w.heap.size->b∉L1++ [vb]->w'.heap[b]?=w.heap[b]?)->
   ∃(u:Value) (Lr:List Nat) (Le':List (List Nat)),Ending.returned (.slice (some ⟨g,0,none⟩) (l.length+x.length) cap')= .returned u/\Le'.length=([]:List (List PV)).length/\(([]:List (Nat×Nat)).map (·.1)++Lr++Le'.flatten).Nodup/\
   (∀b∈Lr++Le'.flatten,(b∈(L1++ [vb])++([]:List (List Nat)).flatten∨w.heap.size<=b)/\b<w'.heap.size)/\
   OwnG (fun b=>(S b∨b∈(L1++ [vb])++([]:List (List Nat)).flatten∨w.heap.size<=b)/\b<w'.heap.size/\b∉([]:List (Nat×Nat)).map (·.1)++Lr++Le'.flatten) w' (extB []) (extS []) (ownVals [.row true .iLink l,.v (.int .i64 k),.row true .iLink x] [u1,.int .i64 k,.slice (some ⟨vb,0,none⟩) x.length vc]) (.row true .iLink r) u Lr/\
   (∀(j:Nat) p cs L,([]:List (Nat×Nat))[j]?=some p->([]:List (List PV))[j]?=some cs->Le'[j]?=some L->BoxO (fun b=>(S b∨b∈(L1++ [vb])++([]:List (List Nat)).flatten∨w.heap.size<=b)/\b<w'.heap.size/\b∉([]:List (Nat×Nat)).map (·.1)++Lr++Le'.flatten) w' (extB []) (extS []) p cs L)/\
   Stay w w' (([]:List (Nat×Nat)).map (·.1)++(L1++ [vb])++([]:List (List Nat)).flatten) [] (([]:List (List PV)).map List.length):=by
  intro g cap' ROW fz w' hwl a1 a2 a3 a4 a5 a6 a7 b1 b2 b3 b4 b5
  have hg:g<w'.heap.size:=(Array.getElem?_eq_some_iff.1 a1).1
  refine⟨_,[g],[],rfl,rfl,by simp,fun b hb=> ?_,?_,fun j p cs L hj=>by simp at hj,⟨b1,b2,b3,b4,fun b hb hn=>b5 b hb (fun hm=>hn (by simpa using hm)),fun j b off n hj=>by simp at hj⟩⟩
  ·obtain rfl:b=g:=by simpa using hb
   exact⟨a7.elim (fun h=> .inl (by simpa using h)) .inr,hg⟩
  ·rw[<-hrl]
   exact own_flat a1 a2 a3 a4 a5 a6 (fun y hy=>by
    rw[<-hr]at hy
    rcases List.mem_append.1 hy with hy|hy
    ·rcases List.mem_append.1 hy with hy|hy
     ·exact hwl y (List.mem_of_mem_take hy)
     ·exact hwx y hy
    ·exact hwl y (List.mem_of_mem_drop hy))
 have zsz:∀n,(Builtin.zeroCells zLink.cells n).size=n*2:=fun n=>by simp[Builtin.zeroCells,Value.cells,zLink]
 have hmx:l.length+x.length<=maxLen:=by unfold maxLen;omega
 rcases h1 with⟨rfl,rfl,rfl⟩ |⟨b,c,cur,rfl,rfl,p1,p2,p3,p4,p5,p6⟩
 ·have hk:k=0:=by simpa using hkl
  subst hk
  have hg1:=grownCap_ge w (0+x.length) 0 139
  have hg2:=grownCap_le_maxLen w (0+x.length) 0 139 (by unfold maxLen at hmx⊢;simp at hmx;omega)
  refine Calls.mono (ins_end_grow none 0 0 vb x.length vc [] (flatL x) w (by omega) (by omega) (by omega) (by simpa using hbig) rfl hlx (fun _=>rfl) (fun a ha=>by cases ha) hvs (flatL_one x)) ?_
  rintro e w' ⟨rfl,rfl⟩
  generalize grownCap w (0+x.length) 0 139=Gc at *
  refine fin w.heap.size Gc _ (0,0) _ (fun y hy=>by cases hy) (alloc_at _ _) (.inl rfl) (by rw[hrl];simp at *;omega) hg2 ?_ ?_ (.inr (Nat.le_refl _)) rfl rfl rfl (alloc_le _ _) fun b hb _=> ?_
  ·rw[Array.size_append,zsz];simp[hlx];omega
  ·intro j u hj
   rw[hflat]at hj
   have hj:(flatL x)[j]?=some u:=by simpa [flatL]using hj
   rw[Array.getElem?_append_left (by simp;exact(qS1.1 hj).1)]
   simpa using hj
  ·show(w.heap.push _)[b]?=_
   rw[Array.getElem?_push_lt hb]
   exact(Array.getElem?_eq_getElem hb).symm
 ·have p5:cur.size=c*2:=p5
  obtain⟨fl,hwl⟩:=cont_flat p6
  have hcs:∀j v,(flatL l)[j]?=some v->w.cell? ⟨b,j,none⟩ = some v:=fun j v hj=>(p2.cell j).trans (fl j v hj)
  have hbv:vb≠b:=fun e=>by
   subst e
   simp at hnd
  obtain⟨fz,hz,hice⟩:=id p2
  obtain⟨fz2,hz2,hice2⟩:=id v2
  have hsome:∀j,j<c*2->(w.cell? ⟨b,j,none⟩).isSome=true:=fun j hj=>by rw[p2.cell,Array.getElem?_eq_getElem (by omega)];rfl
  have hfrz:∀j,j<c*2->w.frozen? ⟨b,j,none⟩ = false:=fun j hj=>p2.frozen (by omega)
  have hcm:c<=9223372036854775807:=by unfold maxLen at p4;omega
  by_cases hkn:k=l.length
  ·subst hkn
   by_cases hroom:l.length+x.length<=c
   ·refine Calls.mono (ins_end_room b l.length c vb x.length vc (flatL x) w (by omega) hroom hcm hlx (fun j hj=>hsome _ (by omega)) (fun j hj=>hfrz _ (by omega)) hvs (flatL_one x)) ?_
    rintro e w' ⟨rfl,rfl⟩
    obtain⟨s1,s2,s3,s4,s5⟩:=setCells_os b (flatL x) (l.length*2) w
    obtain⟨cur',q1,q2,q3,q4⟩:=heap_setCells b (flatL x) (l.length*2) hz (by omega)
    refine fin b c cur' fz _ hwl q1 (by rw[q2];exact hice) (by omega) p4 (by omega) ?_ (.inl (by simp)) s1 s2 s3 (by omega) fun b' hb hn=>s5 b' (fun e=>hn (by subst e;simp))
    intro j u hj
    rw[hflat]at hj
    rcases ins_get (by omega) hj with⟨h1,h2⟩ |⟨t,rfl,h1,h2⟩ |⟨t,rfl,h1,h2⟩
    ·rw[q4 j (by omega)];exact fl j u h2
    ·rw[q3 t h1];exact h2
    ·rw[List.length_drop]at h1;omega
   ·have hg1:=grownCap_ge w (l.length+x.length) c 139
    have hg2:=grownCap_le_maxLen w (l.length+x.length) c 139 hmx
    refine Calls.mono (ins_end_grow (some ⟨b,0,none⟩) l.length c vb x.length vc (flatL l) (flatL x) w (by omega) p3 (by omega) hbig hll hlx (fun h=>by cases h) (fun a ha j v hj=>by cases ha;rw[Addr.add_lit,Nat.zero_add];exact hcs j v hj) hvs (flatL_one x)) ?_
    rintro e w' ⟨rfl,rfl⟩
    generalize grownCap w (l.length+x.length) c 139=Gc at *
    refine fin w.heap.size Gc _ (0,0) _ hwl (alloc_at _ _) (.inl rfl) (by omega) hg2 ?_ ?_ (.inr (Nat.le_refl _)) rfl rfl rfl (alloc_le _ _) fun b hb _=> ?_
    ·rw[Array.size_append,zsz];simp[hlx,hll];omega
    ·intro j u hj
     have hj:(flatL l++flatL x)[j]?=some u:=by
      rw[hflat,List.take_of_length_le (by omega),List.drop_of_length_le (by omega),List.append_nil]at hj
      exact hj
     rw[Array.getElem?_append_left (by simpa using(qS1.1 hj).1)]
     simpa using hj
    ·show(w.heap.push _)[b]?=_
     rw[Array.getElem?_push_lt hb]
     exact(Array.getElem?_eq_getElem hb).symm
  ·by_cases hroom:l.length+x.length<=c
   ·have hend:fz2.2=0:=hice2.elim id fun h=>absurd (show(139:Nat)=5 from h.2) (by decide)
    refine Calls.mono (ins_shift b l.length c k vb x.length vc (flatL l) (flatL x) w (by omega) (by omega) hroom hcm hbv hll hlx hcs (fun j hj=>hsome _ (by omega)) (fun j hj=>hfrz _ (by omega)) hvs (flatL_one l) (flatL_one x) 139 139 cur2.size cur.size (by unfold World.shape?;rw[hz2];rfl) (by unfold World.shape?;rw[hz];rfl) (by omega) (v2.frozen (by omega)) (by unfold World.frozen?;rw[hz2];simp[hend])) ?_
    rintro e w' ⟨rfl,rfl⟩
    obtain⟨s1,s2,s3,s4,s5⟩:=setCells_os b ((flatL l).drop (k*2)) ((k+x.length)*2) w.drew
    obtain⟨cur',q1,q2,q3,q4⟩:=heap_setCells b ((flatL l).drop (k*2)) ((k+x.length)*2) (w:=w.drew) hz (by rw[List.length_drop];omega)
    obtain⟨t1,t2,t3,t4,t5⟩:=setCells_os b (flatL x) (k*2) (w.drew.setCells b ((k+x.length)*2) ((flatL l).drop (k*2)))
    obtain⟨cur'',r1,r2,r3,r4⟩:=heap_setCells b (flatL x) (k*2) q1 (by omega)
    refine fin b c cur'' fz _ hwl r1 (by rw[r2,q2];exact hice) (by omega) p4 (by omega) ?_ (.inl (by simp)) (t1.trans s1) (t2.trans s2) (t3.trans s3) (by rw[t4,s4];exact Nat.le_refl _) fun b' hb hn=>(t5 b' (fun e=>hn (by subst e;simp))).trans (s5 b' (fun e=>hn (by subst e;simp)))
    intro j u hj
    rw[hflat]at hj
    rcases ins_get (by omega) hj with⟨h1,h2⟩ |⟨t,rfl,h1,h2⟩ |⟨t,rfl,h1,h2⟩
    ·rw[r4 j (by omega),q4 j (by omega)];exact fl j u h2
    ·rw[r3 t h1];exact h2
    ·rw[r4 _ (by omega),show k*2+(flatL x).length+t=(k+x.length)*2+t by omega,q3 t h1];exact h2
   ·have hg1:=grownCap_ge w (l.length+x.length) c 139
    have hg2:=grownCap_le_maxLen w (l.length+x.length) c 139 hmx
    refine Calls.mono (ins_grow b l.length c k vb x.length vc (flatL l) (flatL x) w (by omega) (by omega) p3 (by omega) hbig hll hlx hcs hvs (flatL_one l) (flatL_one x)) ?_
    rintro e w' ⟨rfl,rfl⟩
    generalize grownCap w (l.length+x.length) c 139=Gc at *
    generalize hR:((flatL l).take (k*2)).toArray++Builtin.zeroCells zLink.cells (l.length+x.length-k)++Builtin.zeroCells zLink.cells (Gc-(l.length+x.length))=ROW
    have hRs:ROW.size=Gc*2:=by
     rw[<-hR,Array.size_append,Array.size_append,zsz,zsz]
     simp[hll]
     omega
    have a0:((w.alloc (.cells ROW 139)).drew).heap[w.heap.size]?=some (.cells ROW 139 (0,0)):=alloc_at w _
    have aO:∀b',b'<w.heap.size->((w.alloc (.cells ROW 139)).drew).heap[b']?=w.heap[b']?:=fun b' hb=>by
     show(w.heap.push _)[b']?=_
     rw[Array.getElem?_push_lt hb]
     exact(Array.getElem?_eq_getElem hb).symm
    obtain⟨s1,s2,s3,s4,s5⟩:=setCells_os w.heap.size (flatL x) (k*2) ((w.alloc (.cells ROW 139)).drew)
    obtain⟨cur',q1,q2,q3,q4⟩:=heap_setCells w.heap.size (flatL x) (k*2) a0 (by omega)
    obtain⟨t1,t2,t3,t4,t5⟩:=setCells_os w.heap.size ((flatL l).drop (k*2)) ((k+x.length)*2) (((w.alloc (.cells ROW 139)).drew.setCells w.heap.size (k*2) (flatL x)).drew)
    obtain⟨cur'',r1,r2,r3,r4⟩:=heap_setCells w.heap.size ((flatL l).drop (k*2)) ((k+x.length)*2) (w:=((w.alloc (.cells ROW 139)).drew.setCells w.heap.size (k*2) (flatL x)).drew) q1 (by rw[List.length_drop];omega)
    refine fin w.heap.size Gc cur'' (0,0) _ hwl r1 (.inl rfl) (by omega) hg2 (by omega) ?_ (.inr (Nat.le_refl _)) (t1.trans s1) (t2.trans s2) (t3.trans s3) (by rw[t4];exact Nat.le_trans (alloc_le w _) (Nat.le_of_eq s4.symm)) fun b' hb hn=>(t5 b' (by omega)).trans ((s5 b' (by omega)).trans (aO b' hb))
    intro j u hj
    rw[hflat]at hj
    rcases ins_get (by omega) hj with⟨h1,h2⟩ |⟨t,rfl,h1,h2⟩ |⟨t,rfl,h1,h2⟩
    ·rw[r4 j (by omega),q4 j (by omega),<-hR,Array.append_assoc,Array.getElem?_append_left (by simp;omega)]
     simp only[List.getElem?_toArray]
     rw[List.getElem?_take,if_pos h1]
     exact h2
    ·rw[r4 _ (by omega),q3 t h1];exact h2
    ·rw[show k*2+(flatL x).length+t=(k+x.length)*2+t by omega,r3 t h1];exact h2
open Go.RowKit Go.Proofs
def o284 (fuel:Nat):Orc:=⟨284,[none,none,none],[.own .iLink 99,.I .i64,.own .iLink 99],0,.one (.own .iLink 99),fun v=>pG_slices_Insert_ILink v.1 v.2.1 v.2.2⟩
theorem c284 {E:World->Prop} (hcl:Cl G E) (fuel:Nat):Ctr Tryz.prog G E (o284 fuel):=fun v r hr=>insert_calls v.1 v.2.2 r v.2.1 hr
open Go.Proofs
abbrev eI (n:Nat):En:= .sl n (.I .i64)
abbrev eB (n:Nat):En:= .sl n .B
abbrev eS (n:Nat):En:= .sl n .S
abbrev eR (n:Nat) (k:K):En:= .sl n (.row k)
abbrev eO (n:Nat) (k:K) (x:Nat):En:= .sl n (.own k x)
abbrev jI:Sh:= .I .i64
abbrev jS (k:K):Sh:= .st k []
abbrev dB:Nat:=1000000000
abbrev oI:Ro:= .one jI
abbrev oB:Ro:= .one .B
abbrev mx (f:FuncId) (pat:List (Option PV)) (ins:List Sh) (nx:Nat) (out:Ro) (p:Nat->PL ins->Option out.V) (m:Nat):Orc:=⟨f,pat,ins,nx,out,p m⟩
abbrev mo (f:FuncId) (ins:List Sh) (out:Ro) (p:Nat->PL ins->Option out.V) (m:Nat):Orc:=⟨f,ins.map fun _=>none,ins,0,out,p m⟩
abbrev q2 {a b r:Type} (f:Nat->a->b->Option r) (m:Nat) (v:a×b):Option r:=f m v.1 v.2
abbrev q3 {a b c r:Type} (f:Nat->a->b->c->Option r) (m:Nat) (v:a×b×c):Option r:=f m v.1 v.2.1 v.2.2
abbrev q4 {a b c d r:Type} (f:Nat->a->b->c->d->Option r) (m:Nat) (v:a×b×c×d):Option r:=f m v.1 v.2.1 v.2.2.1 v.2.2.2
abbrev q5 {a b c d e r:Type} (f:Nat->a->b->c->d->e->Option r) (m:Nat) (v:a×b×c×d×e):Option r:=f m v.1 v.2.1 v.2.2.1 v.2.2.2.1 v.2.2.2.2
abbrev q6 {a b c d e g r:Type} (f:Nat->a->b->c->d->e->g->Option r) (m:Nat) (v:a×b×c×d×e×g):Option r:=f m v.1 v.2.1 v.2.2.1 v.2.2.2.1 v.2.2.2.2.1 v.2.2.2.2.2
abbrev Lp (V O:Type):=V->Option (V⊕O)
noncomputable section
def pL_szIntS (m:Nat) (a1:List Int) (a2:Int):Option Int:=
 gd (inK .i64 (a2-(↑a1.length:Int))) <|
 br (decide (a2-(↑a1.length:Int)<0)) (
 some (-1)) <|
 some (a2-(↑a1.length:Int))
theorem c218:CC (mo 218 [.row .int,jI] oI (q2 pL_szIntS)):=mq cn tn Tryz.f218
def pL_szByteS (m:Nat) (a1:List UInt8) (a2:Int):Option Int:=
 gd (inK .i64 (a2-(↑a1.length:Int))) <|
 br (decide (a2-(↑a1.length:Int)<0)) (
 some (-1)) <|
 some (a2-(↑a1.length:Int))
theorem c219:CC (mo 219 [.row .u8,jI] oI (q2 pL_szByteS)):=mq cn tn Tryz.f219
def pL_szVp (m:Nat) (a1:LVp) (a2:Int):Option Int:=
 bd (pL_szIntS m a1.Args a2) fun x3=>
 br (decide (x3<0)) (
 some (-1)) <|
 bd (pL_szByteS m a1.Part x3) fun x4=>
 br (decide (x4<0)) (
 some (-1)) <|
 some x4
theorem c262:CC (mo 262 [jS .lVp,jI] oI (q2 pL_szVp)):=mq (cs c218 (cs c219 cn)) tn Tryz.f262
def pL_szCellS (m:Nat) (a1:List LCell) (a2:Int):Option Int:=
 gd (inK .i64 (a2-(↑a1.length:Int))) <|
 br (decide (a2-(↑a1.length:Int)<0)) (
 some (-1)) <|
 some (a2-(↑a1.length:Int))
theorem c337:CC (mo 337 [.row .lCell,jI] oI (q2 pL_szCellS)):=mq cn tn Tryz.f337
def pL_szGrid (m:Nat) (a1:LGrid) (a2:Int):Option Int:=
 bd (pL_szCellS m a1.Cells a2) fun x3=>
 br (decide (x3<0)) (
 some (-1)) <|
 some x3
theorem c302:CC (mo 302 [jS .lGrid,jI] oI (q2 pL_szGrid)):=mq (cs c337 cn) tn Tryz.f302
def pL_szRow (m:Nat) (a1:LRow) (a2:Int):Option Int:=
 bd (pL_szCellS m a1.Cells a2) fun x3=>
 br (decide (x3<0)) (
 some (-1)) <|
 some x3
theorem c338:CC (mo 338 [jS .lRow,jI] oI (q2 pL_szRow)):=mq (cs c337 cn) tn Tryz.f338
def pL_szRowS_b1 (m:Nat):Lp (List LRow×Int×Int) (Int⊕Int):=fun(v5,v6,v7)=>
 br (decide (v7<(↑v5.length:Int))) (
 gd (0<=v7/\v7<(↑v5.length:Int)) <|
 bd v5[v7.toNat]? fun x8=>
 bd (pL_szRow m x8 v6) fun x9=>
 br (decide (x9<0)) (
 some (.inr (.inr (-1)))) <|
 some (.inl (v5,x9,IntKind.i64.wrap (v7+1)))) <|
 some (.inr (.inl v6))
def pL_szRowS (m:Nat) (a1:List LRow) (a2:Int):Option Int:=
 gd (inK .i64 (a2-(↑a1.length:Int))) <|
 br (decide (a2-(↑a1.length:Int)<0)) (
 some (-1)) <|
 jn (V:=Int) (
 loopF (pL_szRowS_b1 m) m (a1,a2-(↑a1.length:Int),0)) fun v4=>
 some v4
theorem c303:CC (mo 303 [.row .lRow,jI] oI (q2 pL_szRowS)):=mq (cs c338 cn) ⟨[],[],[(5,true,⟨[],[eR 0 .lRow,eI 1,eI 5]⟩,0,⟨[],[eI 1]⟩)]⟩ Tryz.f303
def pL_szScr (m:Nat) (a1:LScr) (a2:Int):Option Int:=
 bd (pL_szGrid m a1.Main a2) fun x3=>
 br (decide (x3<0)) (
 some (-1)) <|
 bd (pL_szGrid m a1.Alt x3) fun x4=>
 br (decide (x4<0)) (
 some (-1)) <|
 bd (pL_szIntS m a1.Tabs x4) fun x5=>
 br (decide (x5<0)) (
 some (-1)) <|
 bd (pL_szRowS m a1.Back x5) fun x6=>
 br (decide (x6<0)) (
 some (-1)) <|
 some x6
theorem c263:CC (mo 263 [jS .lScr,jI] oI (q2 pL_szScr)):=mq (cs c302 (cs c218 (cs c303 cn))) tn Tryz.f263
def pL_szTerm (m:Nat) (a1:LTerm) (a2:Int):Option Int:=
 bd (pL_szVp m a1.P a2) fun x3=>
 br (decide (x3<0)) (
 some (-1)) <|
 bd (pL_szScr m a1.S x3) fun x4=>
 br (decide (x4<0)) (
 some (-1)) <|
 some x4
theorem c216:CC (mo 216 [jS .lTerm,jI] oI (q2 pL_szTerm)):=mq (cs c262 (cs c263 cn)) tn Tryz.f216
def pL_szPane (m:Nat) (a1:LPane) (a2:Int):Option Int:=
 gd (inK .i64 (a2-(↑a1.Cmd.size:Int))) <|
 br (decide (a2-(↑a1.Cmd.size:Int)<0)) (
 some (-1)) <|
 gd (inK .i64 (a2-(↑a1.Cmd.size:Int)-(↑a1.Dir.size:Int))) <|
 br (decide (a2-(↑a1.Cmd.size:Int)-(↑a1.Dir.size:Int)<0)) (
 some (-1)) <|
 bd (pL_szTerm m a1.Term (a2-(↑a1.Cmd.size:Int)-(↑a1.Dir.size:Int))) fun x3=>
 br (decide (x3<0)) (
 some (-1)) <|
 some x3
theorem c142:CC (mo 142 [jS .lPane,jI] oI (q2 pL_szPane)):=mq (cs c216 cn) tn Tryz.f142
def pL_szPaneS_b1 (m:Nat):Lp (List LPane×Int×Int) (Int⊕Int):=fun(v5,v6,v7)=>
 br (decide (v7<(↑v5.length:Int))) (
 gd (0<=v7/\v7<(↑v5.length:Int)) <|
 bd v5[v7.toNat]? fun x8=>
 bd (pL_szPane m x8 v6) fun x9=>
 br (decide (x9<0)) (
 some (.inr (.inr (-1)))) <|
 some (.inl (v5,x9,IntKind.i64.wrap (v7+1)))) <|
 some (.inr (.inl v6))
def pL_szPaneS (m:Nat) (a1:List LPane) (a2:Int):Option Int:=
 gd (inK .i64 (a2-(↑a1.length:Int))) <|
 br (decide (a2-(↑a1.length:Int)<0)) (
 some (-1)) <|
 jn (V:=Int) (
 loopF (pL_szPaneS_b1 m) m (a1,a2-(↑a1.length:Int),0)) fun v4=>
 some v4
theorem c64:CC (mo 64 [.row .lPane,jI] oI (q2 pL_szPaneS)):=mq (cs c142 cn) ⟨[],[],[(5,true,⟨[],[eR 0 .lPane,eI 1,eI 5]⟩,0,⟨[],[eI 1]⟩)]⟩ Tryz.f64
def pL_szNodeS (m:Nat) (a1:List LNode) (a2:Int):Option Int:=
 gd (inK .i64 (a2-(↑a1.length:Int))) <|
 br (decide (a2-(↑a1.length:Int)<0)) (
 some (-1)) <|
 some (a2-(↑a1.length:Int))
theorem c217:CC (mo 217 [.row .lNode,jI] oI (q2 pL_szNodeS)):=mq cn tn Tryz.f217
def pL_szWin (m:Nat) (a1:LWin) (a2:Int):Option Int:=
 gd (inK .i64 (a2-(↑a1.Name.size:Int))) <|
 br (decide (a2-(↑a1.Name.size:Int)<0)) (
 some (-1)) <|
 bd (pL_szNodeS m a1.Tree (a2-(↑a1.Name.size:Int))) fun x3=>
 br (decide (x3<0)) (
 some (-1)) <|
 some x3
theorem c143:CC (mo 143 [jS .lWin,jI] oI (q2 pL_szWin)):=mq (cs c217 cn) tn Tryz.f143
def pL_szWinS_b1 (m:Nat):Lp (List LWin×Int×Int) (Int⊕Int):=fun(v5,v6,v7)=>
 br (decide (v7<(↑v5.length:Int))) (
 gd (0<=v7/\v7<(↑v5.length:Int)) <|
 bd v5[v7.toNat]? fun x8=>
 bd (pL_szWin m x8 v6) fun x9=>
 br (decide (x9<0)) (
 some (.inr (.inr (-1)))) <|
 some (.inl (v5,x9,IntKind.i64.wrap (v7+1)))) <|
 some (.inr (.inl v6))
def pL_szWinS (m:Nat) (a1:List LWin) (a2:Int):Option Int:=
 gd (inK .i64 (a2-(↑a1.length:Int))) <|
 br (decide (a2-(↑a1.length:Int)<0)) (
 some (-1)) <|
 jn (V:=Int) (
 loopF (pL_szWinS_b1 m) m (a1,a2-(↑a1.length:Int),0)) fun v4=>
 some v4
theorem c65:CC (mo 65 [.row .lWin,jI] oI (q2 pL_szWinS)):=mq (cs c143 cn) ⟨[],[],[(5,true,⟨[],[eR 0 .lWin,eI 1,eI 5]⟩,0,⟨[],[eI 1]⟩)]⟩ Tryz.f65
def pL_szSess (m:Nat) (a1:LSess) (a2:Int):Option Int:=
 gd (inK .i64 (a2-(↑a1.Name.size:Int))) <|
 br (decide (a2-(↑a1.Name.size:Int)<0)) (
 some (-1)) <|
 bd (pL_szIntS m a1.Wins (a2-(↑a1.Name.size:Int))) fun x3=>
 br (decide (x3<0)) (
 some (-1)) <|
 some x3
theorem c144:CC (mo 144 [jS .lSess,jI] oI (q2 pL_szSess)):=mq (cs c218 cn) tn Tryz.f144
def pL_szSessS_b1 (m:Nat):Lp (List LSess×Int×Int) (Int⊕Int):=fun(v5,v6,v7)=>
 br (decide (v7<(↑v5.length:Int))) (
 gd (0<=v7/\v7<(↑v5.length:Int)) <|
 bd v5[v7.toNat]? fun x8=>
 bd (pL_szSess m x8 v6) fun x9=>
 br (decide (x9<0)) (
 some (.inr (.inr (-1)))) <|
 some (.inl (v5,x9,IntKind.i64.wrap (v7+1)))) <|
 some (.inr (.inl v6))
def pL_szSessS (m:Nat) (a1:List LSess) (a2:Int):Option Int:=
 gd (inK .i64 (a2-(↑a1.length:Int))) <|
 br (decide (a2-(↑a1.length:Int)<0)) (
 some (-1)) <|
 jn (V:=Int) (
 loopF (pL_szSessS_b1 m) m (a1,a2-(↑a1.length:Int),0)) fun v4=>
 some v4
theorem c66:CC (mo 66 [.row .lSess,jI] oI (q2 pL_szSessS)):=mq (cs c144 cn) ⟨[],[],[(5,true,⟨[],[eR 0 .lSess,eI 1,eI 5]⟩,0,⟨[],[eI 1]⟩)]⟩ Tryz.f66
def pL_szState (m:Nat) (a1:LState) (a2:Int):Option Int:=
 bd (pL_szPaneS m a1.Panes a2) fun x3=>
 br (decide (x3<0)) (
 some (-1)) <|
 bd (pL_szWinS m a1.Wins x3) fun x4=>
 br (decide (x4<0)) (
 some (-1)) <|
 bd (pL_szSessS m a1.Sess x4) fun x5=>
 br (decide (x5<0)) (
 some (-1)) <|
 some x5
theorem c14:CC (mo 14 [jS .lState,jI] oI (q2 pL_szState)):=mq (cs c64 (cs c65 (cs c66 cn))) tn Tryz.f14
def pL_szFile (m:Nat) (a1:LFile) (a2:Int):Option Int:=
 bd (pL_szByteS m a1.Body a2) fun x3=>
 br (decide (x3<0)) (
 some (-1)) <|
 some x3
theorem c145:CC (mo 145 [jS .lFile,jI] oI (q2 pL_szFile)):=mq (cs c219 cn) tn Tryz.f145
def pL_szFileS_b1 (m:Nat):Lp (List LFile×Int×Int) (Int⊕Int):=fun(v5,v6,v7)=>
 br (decide (v7<(↑v5.length:Int))) (
 gd (0<=v7/\v7<(↑v5.length:Int)) <|
 bd v5[v7.toNat]? fun x8=>
 bd (pL_szFile m x8 v6) fun x9=>
 br (decide (x9<0)) (
 some (.inr (.inr (-1)))) <|
 some (.inl (v5,x9,IntKind.i64.wrap (v7+1)))) <|
 some (.inr (.inl v6))
def pL_szFileS (m:Nat) (a1:List LFile) (a2:Int):Option Int:=
 gd (inK .i64 (a2-(↑a1.length:Int))) <|
 br (decide (a2-(↑a1.length:Int)<0)) (
 some (-1)) <|
 jn (V:=Int) (
 loopF (pL_szFileS_b1 m) m (a1,a2-(↑a1.length:Int),0)) fun v4=>
 some v4
theorem c67:CC (mo 67 [.row .lFile,jI] oI (q2 pL_szFileS)):=mq (cs c145 cn) ⟨[],[],[(5,true,⟨[],[eR 0 .lFile,eI 1,eI 5]⟩,0,⟨[],[eI 1]⟩)]⟩ Tryz.f67
def pL_szLink (m:Nat) (a1:LLink) (a2:Int):Option Int:=
 gd (inK .i64 (a2-(↑a1.Name.size:Int))) <|
 br (decide (a2-(↑a1.Name.size:Int)<0)) (
 some (-1)) <|
 some (a2-(↑a1.Name.size:Int))
theorem c146:CC (mo 146 [jS .lLink,jI] oI (q2 pL_szLink)):=mq cn tn Tryz.f146
def pL_szLinkS_b1 (m:Nat):Lp (List LLink×Int×Int) (Int⊕Int):=fun(v5,v6,v7)=>
 br (decide (v7<(↑v5.length:Int))) (
 gd (0<=v7/\v7<(↑v5.length:Int)) <|
 bd v5[v7.toNat]? fun x8=>
 bd (pL_szLink m x8 v6) fun x9=>
 br (decide (x9<0)) (
 some (.inr (.inr (-1)))) <|
 some (.inl (v5,x9,IntKind.i64.wrap (v7+1)))) <|
 some (.inr (.inl v6))
def pL_szLinkS (m:Nat) (a1:List LLink) (a2:Int):Option Int:=
 gd (inK .i64 (a2-(↑a1.length:Int))) <|
 br (decide (a2-(↑a1.length:Int)<0)) (
 some (-1)) <|
 jn (V:=Int) (
 loopF (pL_szLinkS_b1 m) m (a1,a2-(↑a1.length:Int),0)) fun v4=>
 some v4
theorem c68:CC (mo 68 [.row .lLink,jI] oI (q2 pL_szLinkS)):=mq (cs c146 cn) ⟨[],[],[(5,true,⟨[],[eR 0 .lLink,eI 1,eI 5]⟩,0,⟨[],[eI 1]⟩)]⟩ Tryz.f68
def pL_szTurn (m:Nat) (a1:LTurn) (a2:Int):Option Int:=
 gd (inK .i64 (a2-(↑a1.Name.size:Int))) <|
 br (decide (a2-(↑a1.Name.size:Int)<0)) (
 some (-1)) <|
 gd (inK .i64 (a2-(↑a1.Name.size:Int)-(↑a1.To.size:Int))) <|
 br (decide (a2-(↑a1.Name.size:Int)-(↑a1.To.size:Int)<0)) (
 some (-1)) <|
 some (a2-(↑a1.Name.size:Int)-(↑a1.To.size:Int))
theorem c147:CC (mo 147 [jS .lTurn,jI] oI (q2 pL_szTurn)):=mq cn tn Tryz.f147
def pL_szTurnS_b1 (m:Nat):Lp (List LTurn×Int×Int) (Int⊕Int):=fun(v5,v6,v7)=>
 br (decide (v7<(↑v5.length:Int))) (
 gd (0<=v7/\v7<(↑v5.length:Int)) <|
 bd v5[v7.toNat]? fun x8=>
 bd (pL_szTurn m x8 v6) fun x9=>
 br (decide (x9<0)) (
 some (.inr (.inr (-1)))) <|
 some (.inl (v5,x9,IntKind.i64.wrap (v7+1)))) <|
 some (.inr (.inl v6))
def pL_szTurnS (m:Nat) (a1:List LTurn) (a2:Int):Option Int:=
 gd (inK .i64 (a2-(↑a1.length:Int))) <|
 br (decide (a2-(↑a1.length:Int)<0)) (
 some (-1)) <|
 jn (V:=Int) (
 loopF (pL_szTurnS_b1 m) m (a1,a2-(↑a1.length:Int),0)) fun v4=>
 some v4
theorem c69:CC (mo 69 [.row .lTurn,jI] oI (q2 pL_szTurnS)):=mq (cs c147 cn) ⟨[],[],[(5,true,⟨[],[eR 0 .lTurn,eI 1,eI 5]⟩,0,⟨[],[eI 1]⟩)]⟩ Tryz.f69
def pL_szDisk (m:Nat) (a1:LDisk) (a2:Int):Option Int:=
 bd (pL_szFileS m a1.Files a2) fun x3=>
 br (decide (x3<0)) (
 some (-1)) <|
 bd (pL_szLinkS m a1.Kept x3) fun x4=>
 br (decide (x4<0)) (
 some (-1)) <|
 bd (pL_szTurnS m a1.Turns x4) fun x5=>
 br (decide (x5<0)) (
 some (-1)) <|
 some x5
theorem c16:CC (mo 16 [jS .lDisk,jI] oI (q2 pL_szDisk)):=mq (cs c67 (cs c68 (cs c69 cn))) tn Tryz.f16
def pL_szDepot (m:Nat) (a1:LDepot) (a2:Int):Option Int:=
 bd (pL_szDisk m a1.Disk a2) fun x3=>
 br (decide (x3<0)) (
 some (-1)) <|
 some x3
theorem c15:CC (mo 15 [jS .lDepot,jI] oI (q2 pL_szDepot)):=mq (cs c16 cn) tn Tryz.f15
def pL_szProcS (m:Nat) (a1:List LProc) (a2:Int):Option Int:=
 gd (inK .i64 (a2-(↑a1.length:Int))) <|
 br (decide (a2-(↑a1.length:Int)<0)) (
 some (-1)) <|
 some (a2-(↑a1.length:Int))
theorem c70:CC (mo 70 [.row .lProc,jI] oI (q2 pL_szProcS)):=mq cn tn Tryz.f70
def pL_szAsk (m:Nat) (a1:LAsk) (a2:Int):Option Int:=
 gd (inK .i64 (a2-(↑a1.Cmd.size:Int))) <|
 br (decide (a2-(↑a1.Cmd.size:Int)<0)) (
 some (-1)) <|
 gd (inK .i64 (a2-(↑a1.Cmd.size:Int)-(↑a1.Dir.size:Int))) <|
 br (decide (a2-(↑a1.Cmd.size:Int)-(↑a1.Dir.size:Int)<0)) (
 some (-1)) <|
 some (a2-(↑a1.Cmd.size:Int)-(↑a1.Dir.size:Int))
theorem c148:CC (mo 148 [jS .lAsk,jI] oI (q2 pL_szAsk)):=mq cn tn Tryz.f148
def pL_szAskS_b1 (m:Nat):Lp (List LAsk×Int×Int) (Int⊕Int):=fun(v5,v6,v7)=>
 br (decide (v7<(↑v5.length:Int))) (
 gd (0<=v7/\v7<(↑v5.length:Int)) <|
 bd v5[v7.toNat]? fun x8=>
 bd (pL_szAsk m x8 v6) fun x9=>
 br (decide (x9<0)) (
 some (.inr (.inr (-1)))) <|
 some (.inl (v5,x9,IntKind.i64.wrap (v7+1)))) <|
 some (.inr (.inl v6))
def pL_szAskS (m:Nat) (a1:List LAsk) (a2:Int):Option Int:=
 gd (inK .i64 (a2-(↑a1.length:Int))) <|
 br (decide (a2-(↑a1.length:Int)<0)) (
 some (-1)) <|
 jn (V:=Int) (
 loopF (pL_szAskS_b1 m) m (a1,a2-(↑a1.length:Int),0)) fun v4=>
 some v4
theorem c71:CC (mo 71 [.row .lAsk,jI] oI (q2 pL_szAskS)):=mq (cs c148 cn) ⟨[],[],[(5,true,⟨[],[eR 0 .lAsk,eI 1,eI 5]⟩,0,⟨[],[eI 1]⟩)]⟩ Tryz.f71
def pL_szTable (m:Nat) (a1:LTable) (a2:Int):Option Int:=
 bd (pL_szProcS m a1.Live a2) fun x3=>
 br (decide (x3<0)) (
 some (-1)) <|
 bd (pL_szAskS m a1.Asked x3) fun x4=>
 br (decide (x4<0)) (
 some (-1)) <|
 some x4
theorem c17:CC (mo 17 [jS .lTable,jI] oI (q2 pL_szTable)):=mq (cs c70 (cs c71 cn)) tn Tryz.f17
def pL_szOp (m:Nat) (a1:LOp) (a2:Int):Option Int:=
 gd (inK .i64 (a2-(↑a1.Name.size:Int))) <|
 br (decide (a2-(↑a1.Name.size:Int)<0)) (
 some (-1)) <|
 gd (inK .i64 (a2-(↑a1.Name.size:Int)-(↑a1.Text.size:Int))) <|
 br (decide (a2-(↑a1.Name.size:Int)-(↑a1.Text.size:Int)<0)) (
 some (-1)) <|
 gd (inK .i64 (a2-(↑a1.Name.size:Int)-(↑a1.Text.size:Int)-(↑a1.Dir.size:Int))) <|
 br (decide (a2-(↑a1.Name.size:Int)-(↑a1.Text.size:Int)-(↑a1.Dir.size:Int)<0)) (
 some (-1)) <|
 bd (pL_szByteS m a1.Data (a2-(↑a1.Name.size:Int)-(↑a1.Text.size:Int)-(↑a1.Dir.size:Int))) fun x3=>
 br (decide (x3<0)) (
 some (-1)) <|
 some x3
theorem c149:CC (mo 149 [jS .lOp,jI] oI (q2 pL_szOp)):=mq (cs c219 cn) tn Tryz.f149
def pL_szHist (m:Nat) (a1:LHist) (a2:Int):Option Int:=
 bd (pL_szOp m a1.Op a2) fun x3=>
 br (decide (x3<0)) (
 some (-1)) <|
 some x3
theorem c72:CC (mo 72 [jS .lHist,jI] oI (q2 pL_szHist)):=mq (cs c149 cn) tn Tryz.f72
def pL_szHistS_b1 (m:Nat):Lp (List LHist×Int×Int) (Int⊕Int):=fun(v5,v6,v7)=>
 br (decide (v7<(↑v5.length:Int))) (
 gd (0<=v7/\v7<(↑v5.length:Int)) <|
 bd v5[v7.toNat]? fun x8=>
 bd (pL_szHist m x8 v6) fun x9=>
 br (decide (x9<0)) (
 some (.inr (.inr (-1)))) <|
 some (.inl (v5,x9,IntKind.i64.wrap (v7+1)))) <|
 some (.inr (.inl v6))
def pL_szHistS (m:Nat) (a1:List LHist) (a2:Int):Option Int:=
 gd (inK .i64 (a2-(↑a1.length:Int))) <|
 br (decide (a2-(↑a1.length:Int)<0)) (
 some (-1)) <|
 jn (V:=Int) (
 loopF (pL_szHistS_b1 m) m (a1,a2-(↑a1.length:Int),0)) fun v4=>
 some v4
theorem c18:CC (mo 18 [.row .lHist,jI] oI (q2 pL_szHistS)):=mq (cs c72 cn) ⟨[],[],[(5,true,⟨[],[eR 0 .lHist,eI 1,eI 5]⟩,0,⟨[],[eI 1]⟩)]⟩ Tryz.f18
def pL_szSrv (m:Nat) (a1:LSrv) (a2:Int):Option Int:=
 bd (pL_szState m a1.Base a2) fun x3=>
 br (decide (x3<0)) (
 some (-1)) <|
 bd (pL_szState m a1.St x3) fun x4=>
 br (decide (x4<0)) (
 some (-1)) <|
 bd (pL_szDepot m a1.Dep x4) fun x5=>
 br (decide (x5<0)) (
 some (-1)) <|
 bd (pL_szDisk m a1.Disk x5) fun x6=>
 br (decide (x6<0)) (
 some (-1)) <|
 bd (pL_szTable m a1.Tab x6) fun x7=>
 br (decide (x7<0)) (
 some (-1)) <|
 bd (pL_szHistS m a1.Done x7) fun x8=>
 br (decide (x8<0)) (
 some (-1)) <|
 some x8
theorem c5:CC (mo 5 [jS .lSrv,jI] oI (q2 pL_szSrv)):=mq (cs c14 (cs c15 (cs c16 (cs c17 (cs c18 cn))))) tn Tryz.f5
def pS_l07Blank (m:Nat):Option ICell:=
 some (ICell.mk 32 (IAttr.mk 0 0 false false false))
theorem c150:CC (mx 150 [] [] 0 (.one (jS .iCell)) (fun m v=>pS_l07Blank m)):=mq cn tn Tryz.f150
def pS_GridNew_b1 (m:Nat):Lp (IGrid×IGrid×Int×Int×Int) (IGrid×IGrid):=fun(v10,v11,v12,v13,v14)=>
 gd (inK .i64 (v12*v13)) <|
 br (decide (v14<v12*v13)) (
 bd (pS_l07Blank m) fun x15=>
 gd (roomB .iCell (v11.Cells++ [x15]).length) <|
 gd (inK .i64 (v14+1)) <|
 some (.inl (v10,IGrid.mk v11.W v11.H (v11.Cells++ [x15]),v12,v13,v14+1))) <|
 some (.inr (v10,v11))
def pS_GridNew (m:Nat) (a1 a2:Int):Option (IGrid×Bool):=
 bd (α:=IGrid×Int×Int×Bool) (
 br (decide (a1<1)) (
 some (IGrid.mk 0 0 [],a1,a2,true)) <|
 br (decide (120<a1)) (
 some (IGrid.mk 0 0 [],a1,a2,true)) <|
 br (decide (a2<1)) (
 some (IGrid.mk 0 0 [],a1,a2,true)) <|
 br (decide (120<a2)) (
 some (IGrid.mk 0 0 [],a1,a2,true)) <|
 gd (inK .i64 (a1*a2)) <|
 some (IGrid.mk 0 0 [],a1,a2,decide (4000<a1*a2))) fun(x3,x4,x5,x6)=>
 br x6 (
 some (IGrid.mk 0 0 [],false)) <|
 bd (α:=IGrid×IGrid) (
 loopF (pS_GridNew_b1 m) m (x3,IGrid.mk x4 x5 [],x4,x5,0)) fun(x8,x9)=>
 some (x9,true)
theorem c73:CC (mo 73 [jI,jI] (.tup [.st .iGrid [(2,99)],.B]) (q2 pS_GridNew)):=mq (cs c150 cn) ⟨[(1,⟨[(4,.ptr 500 0)],[.sto 500 .iGrid [(2,50000001)],eI 0,eI 1,eB 27]⟩)],[],[(5,false,⟨[(4,.ptr 500 0),(6,.ptr 700 0)],[.sto 500 .iGrid [(2,50000001)],.sto 700 .iGrid [(2,50000002)],eI 0,eI 1,eI 7]⟩,0,⟨[(4,.ptr 500 0),(6,.ptr 700 0)],[.sto 500 .iGrid [(2,50000001)],.sto 700 .iGrid [(2,50000002)]]⟩)]⟩ Tryz.f73
def pS_l02HasInt_b1 (m:Nat):Lp (Int×List Int×Int×Int) (Unit⊕Bool):=fun(v4,v5,v6,v7)=>
 br (decide (v7<v6)) (
 gd (0<=v7/\v7<(↑v5.length:Int)) <|
 bd v5[v7.toNat]? fun x8=>
 br (x8==v4) (
 some (.inr (.inr true))) <|
 gd (inK .i64 (v7+1)) <|
 some (.inl (v4,v5,v6,v7+1))) <|
 some (.inr (.inl ()))
def pS_l02HasInt (m:Nat) (a1:List Int) (a2:Int):Option Bool:=
 jn (V:=Unit) (
 loopF (pS_l02HasInt_b1 m) m (a2,a1,(↑a1.length:Int),0)) fun _=>
 some false
theorem c77:CC (mo 77 [.row .int,jI] oB (q2 pS_l02HasInt)):=mq cn ⟨[],[],[(2,true,⟨[],[eI 1,eR 7 .int,eI 8,eI 9]⟩,0,⟨[],[]⟩)]⟩ Tryz.f77
def pS_WordOk_b1 (m:Nat):Lp (ByteArray×Int) (ByteArray⊕Bool):=fun(v5,v6)=>
 br (decide (v6<(↑v5.size:Int))) (
 bd (α:=ByteArray×Int×Bool) (
 gd (0<=v6) <|
 bd v5[v6.toNat]? fun x7=>
 br (decide ((↑x7.toNat:Int)<97)) (
 gd (0<=v6) <|
 bd v5[v6.toNat]? fun x8=>
 br (decide ((↑x8.toNat:Int)<48)) (
 some (v5,v6,true)) <|
 gd (0<=v6) <|
 bd v5[v6.toNat]? fun x9=>
 some (v5,v6,decide (57<(↑x9.toNat:Int)))) <|
 gd (0<=v6) <|
 bd v5[v6.toNat]? fun x10=>
 br (decide (122<(↑x10.toNat:Int))) (
 gd (0<=v6) <|
 bd v5[v6.toNat]? fun x11=>
 br (decide ((↑x11.toNat:Int)<48)) (
 some (v5,v6,true)) <|
 gd (0<=v6) <|
 bd v5[v6.toNat]? fun x12=>
 some (v5,v6,decide (57<(↑x12.toNat:Int)))) <|
 some (v5,v6,false)) fun(x13,x14,x15)=>
 br x15 (
 some (.inr (.inr false))) <|
 gd (inK .i64 (x14+1)) <|
 some (.inl (x13,x14+1))) <|
 some (.inr (.inl v5))
def pS_WordOk (m:Nat) (a1:ByteArray):Option Bool:=
 jn (V:=ByteArray) (
 loopF (pS_WordOk_b1 m) m (a1,0)) fun v3=>
 bd (α:=Bool) (
 br (decide (1<=(↑v3.size:Int))) (
 some (decide ((↑v3.size:Int)<=12))) <|
 some false) fun x4=>
 some x4
theorem c80:CC (mo 80 [.S] oB pS_WordOk):=mq cn ⟨[(4,⟨[],[eS 0,eI 3,eB 31]⟩),(6,⟨[],[eB 2]⟩)],[],[(2,true,⟨[],[eS 0,eI 3]⟩,0,⟨[],[eS 0]⟩)]⟩ Tryz.f80
def pS_l13End_b1 (m:Nat):Lp (List INode×Int×Int) (Unit⊕Int):=fun(v4,v5,v6)=>
 br (decide (v6<(↑v4.length:Int))) (
 bd (α:=List INode×Int×Int) (
 gd (0<=v6/\v6<(↑v4.length:Int)) <|
 bd v4[v6.toNat]? fun x7=>
 br (x7.Pane==0) (
 gd (inK .i64 (v5+1)) <|
 some (v4,v5+1,v6)) <|
 gd (inK .i64 (v5-1)) <|
 some (v4,v5-1,v6)) fun(x8,x9,x10)=>
 br (x9==0) (
 gd (inK .i64 (x10+1)) <|
 some (.inr (.inr (x10+1)))) <|
 gd (inK .i64 (x10+1)) <|
 some (.inl (x8,x9,x10+1))) <|
 some (.inr (.inl ()))
def pS_l13End (m:Nat) (a1:List INode) (a2:Int):Option Int:=
 jn (V:=Unit) (
 loopF (pS_l13End_b1 m) m (a1,1,a2)) fun _=>
 some (-1)
theorem c264:CC (mo 264 [.row .iNode,jI] oI (q2 pS_l13End)):=mq cn ⟨[],[(8,false,⟨[],[eR 0 .iNode,eI 5,eI 6]⟩)],[(3,true,⟨[],[eR 0 .iNode,eI 5,eI 6]⟩,0,⟨[],[]⟩)]⟩ Tryz.f264
def pS_TreeOk_b1 (m:Nat):Lp (List Int×List INode×Int×Int) (Unit⊕Bool):=fun(v6,v7,v8,v9)=>
 br (decide (v9<v8)) (
 jn (V:=List Int×List INode×Int×Int) (
 gd (0<=v9/\v9<(↑v7.length:Int)) <|
 bd v7[v9.toNat]? fun x10=>
 bd (α:=INode×List Int×Bool×List INode×Int×Int) (
 br (decide (1<=x10.Pane)) (
 br (decide (x10.Pane<=1000000)) (
 br (!x10.Down) (
 some (x10,v6,x10.First==0,v7,v8,v9)) <|
 some (x10,v6,false,v7,v8,v9)) <|
 some (x10,v6,false,v7,v8,v9)) <|
 some (x10,v6,false,v7,v8,v9)) fun(x11,x12,x13,x14,x15,x16)=>
 bd (α:=INode×List Int×Bool×Bool×List INode×Int×Int) (
 br (x11.Pane==0) (
 br (decide (1<=x11.First)) (
 some (x11,x12,x13,decide (x11.First<=120),x14,x15,x16)) <|
 some (x11,x12,x13,false,x14,x15,x16)) <|
 some (x11,x12,x13,false,x14,x15,x16)) fun(x17,x18,x19,x20,x21,x22,x23)=>
 bd (α:=INode×List Int×Bool×List INode×Int×Int×Bool) (
 br (!x19) (
 br (!x20) (
 some (x17,x18,x19,x21,x22,x23,true)) <|
 br x19 (
 bd (pS_l02HasInt m x18 x17.Pane) fun x24=>
 some (x17,x18,x19,x21,x22,x23,x24)) <|
 some (x17,x18,x19,x21,x22,x23,false)) <|
 br x19 (
 bd (pS_l02HasInt m x18 x17.Pane) fun x25=>
 some (x17,x18,x19,x21,x22,x23,x25)) <|
 some (x17,x18,x19,x21,x22,x23,false)) fun(x26,x27,x28,x29,x30,x31,x32)=>
 br x32 (
 some (.inr (.inr (.inr false)))) <|
 br x28 (
 gd (roomB .int (x27++ [x26.Pane]).length) <|
 some (.inl (x27++ [x26.Pane],x29,x30,x31))) <|
 some (.inl (x27,x29,x30,x31))) fun(v33,v34,v35,v36)=>
 gd (inK .i64 (v36+1)) <|
 some (.inl (v33,v34,v35,v36+1))) <|
 some (.inr (.inl ()))
def pS_TreeOk (m:Nat) (a1:List INode):Option Bool:=
 bd (α:=List INode×Bool) (
 br (decide (31<(↑a1.length:Int))) (
 some (a1,true)) <|
 bd (pS_l13End m a1 0) fun x2=>
 some (a1,x2 !=(↑a1.length:Int))) fun(x3,x4)=>
 br x4 (
 some false) <|
 jn (V:=Unit) (
 loopF (pS_TreeOk_b1 m) m ([],x3,(↑x3.length:Int),0)) fun _=>
 some true
theorem c220:CC (mo 220 [.row .iNode] oB pS_TreeOk):=mq (cs c264 (cs c77 cn)) ⟨[(1,⟨[],[eR 0 .iNode,eB 17]⟩),(7,⟨[(5,.ptr 600 0)],[.sto 600 .iNode [],eO 3 .int 1900,eB 6,eR 19 .iNode,eI 20,eI 21]⟩),(8,⟨[(5,.ptr 600 0)],[.sto 600 .iNode [],eO 3 .int 1900,eB 6,eB 7,eR 19 .iNode,eI 20,eI 21]⟩),(9,⟨[(5,.ptr 600 0)],[.sto 600 .iNode [],eO 3 .int 1900,eB 6,eR 19 .iNode,eI 20,eI 21,eB 70]⟩)],[(13,true,⟨[],[eO 3 .int 1900,eR 19 .iNode,eI 20,eI 21]⟩)],[(5,true,⟨[],[eO 3 .int 1900,eR 19 .iNode,eI 20,eI 21]⟩,0,⟨[],[]⟩)]⟩ Tryz.f220
def pS_l13First (m:Nat) (a1 a2:Int):Option Int:=
 gd (inK .i64 (a2-2)) <|
 br (decide (a2-2<a1)) (
 gd (inK .i64 (a2-2)) <|
 some (a2-2)) <|
 some a1
theorem c265:CC (mo 265 [jI,jI] oI (q2 pS_l13First)):=mq cn tn Tryz.f265
def pS_l13Place (m:Nat) (slf:List INode×Int×IRect->Option (List IRect×Bool)):List INode×Int×IRect->Option (List IRect×Bool):=fun(a1,a2,a3)=>
 gd (0<=a2/\a2<(↑a1.length:Int)) <|
 bd a1[a2.toNat]? fun x4=>
 br (decide (0<x4.Pane)) (
 some ([IRect.mk x4.Pane a3.X a3.Y a3.W a3.H],true)) <|
 jn (V:=IRect×IRect×List INode×Int) (
 br x4.Down (
 br (decide (a3.H<3)) (
 some (.inr ([],false))) <|
 bd (pS_l13First m x4.First a3.H) fun x5=>
 gd (inK .i64 (a3.Y+x5)) <|
 gd (inK .i64 (a3.Y+x5+1)) <|
 gd (inK .i64 (a3.H-x5)) <|
 gd (inK .i64 (a3.H-x5-1)) <|
 some (.inl (IRect.mk a3.Pane a3.X a3.Y a3.W x5,IRect.mk a3.Pane a3.X (a3.Y+x5+1) a3.W (a3.H-x5-1),a1,a2))) <|
 br (decide (a3.W<3)) (
 some (.inr ([],false))) <|
 bd (pS_l13First m x4.First a3.W) fun x6=>
 gd (inK .i64 (a3.X+x6)) <|
 gd (inK .i64 (a3.X+x6+1)) <|
 gd (inK .i64 (a3.W-x6)) <|
 gd (inK .i64 (a3.W-x6-1)) <|
 some (.inl (IRect.mk a3.Pane a3.X a3.Y x6 a3.H,IRect.mk a3.Pane (a3.X+x6+1) a3.Y (a3.W-x6-1) a3.H,a1,a2))) fun(v7,v8,v9,v10)=>
 gd (inK .i64 (v10+1)) <|
 bd (slf (v9,v10+1,v7)) fun(x11,x12)=>
 gd (inK .i64 (v10+1)) <|
 bd (pS_l13End m v9 (v10+1)) fun x13=>
 bd (slf (v9,x13,v8)) fun(x14,x15)=>
 bd (α:=List IRect×Bool) (
 gd (roomB .iRect (x11++x14).length) <|
 br x12 (
 some (x11++x14,x15)) <|
 some (x11++x14,false)) fun(x16,x17)=>
 some (x16,x17)
def o221 (m:Nat):Orc:=⟨221,[none,none,none],[.row .iNode,.I .i64,.st .iRect []],0,(.tup [.own .iRect 99,.B]),recF (pS_l13Place m) m⟩
theorem c221 {E:World->Prop} (hcl:Cl G E) (m:Nat):Ctr Tryz.prog G E (o221 m):=Ctr.rec (fun slf h=>Ctr.mk (o:=⟨221,[none,none,none],[.row .iNode,.I .i64,.st .iRect []],0,(.tup [.own .iRect 99,.B]),pS_l13Place m slf⟩) (csc h (csc (c265 hcl m) (csc (c264 hcl m) csn))) facts mixed hcl.cl ⟨[(20,⟨[],[eO 6 .iRect 83000000,eB 7]⟩)],[(18,true,⟨[(9,.ptr 1000 0),(10,.ptr 1100 0)],[.sto 1000 .iRect [],.sto 1100 .iRect [],eR 0 .iNode,eI 1]⟩)],[]⟩ m (fn:=Tryz.f221) (by kernel_rfl) rfl (by kernel_rfl) (fun _=>by kernel_rfl) (fun _ _=>by kernel_rfl) (fun _=>by kernel_rfl)) m
def pS_Places (m:Nat) (a1:List INode) (a2 a3:Int):Option (List IRect×Bool):=
 bd (α:=List INode×Int×Int×Bool) (
 bd (pS_TreeOk m a1) fun x4=>
 br (!x4) (
 some (a1,a2,a3,true)) <|
 br (decide (a2<1)) (
 some (a1,a2,a3,true)) <|
 br (decide (120<a2)) (
 some (a1,a2,a3,true)) <|
 br (decide (a3<1)) (
 some (a1,a2,a3,true)) <|
 some (a1,a2,a3,decide (120<a3))) fun(x5,x6,x7,x8)=>
 br x8 (
 some ([],false)) <|
 bd (recF (pS_l13Place m) m (x5,0,IRect.mk 0 0 0 x6 x7)) fun(x9,x10)=>
 br (!x10) (
 some ([],false)) <|
 some (x9,true)
theorem c151:CC (mo 151 [.row .iNode,jI,jI] (.tup [.own .iRect 99,.B]) (q3 pS_Places)):=mq (cs c220 (cs c221 cn)) ⟨[(1,⟨[],[eR 0 .iNode,eI 1,eI 2,eB 28]⟩)],[],[]⟩ Tryz.f151
def pS_PaneAt_b1 (m:Nat):Lp (Int×List IPane×Int×Int) (Unit⊕Int):=fun(v4,v5,v6,v7)=>
 br (decide (v7<v6)) (
 gd (0<=v7/\v7<(↑v5.length:Int)) <|
 bd v5[v7.toNat]? fun x8=>
 br (x8.Id==v4) (
 some (.inr (.inr v7))) <|
 gd (inK .i64 (v7+1)) <|
 some (.inl (v4,v5,v6,v7+1))) <|
 some (.inr (.inl ()))
def pS_PaneAt (m:Nat) (a1:IState) (a2:Int):Option Int:=
 jn (V:=Unit) (
 loopF (pS_PaneAt_b1 m) m (a2,a1.Panes,(↑a1.Panes.length:Int),0)) fun _=>
 some (-1)
theorem c152:CC (mo 152 [jS .iState,jI] oI (q2 pS_PaneAt)):=mq cn ⟨[],[],[(2,true,⟨[],[eI 1,eR 8 .iPane,eI 9,eI 10]⟩,0,⟨[],[]⟩)]⟩ Tryz.f152
def pS_Leaves_b1 (m:Nat):Lp (List Int×List INode×Int×Int) (List Int):=fun(v5,v6,v7,v8)=>
 br (decide (v8<v7)) (
 bd (α:=List Int×List INode×Int×Int) (
 gd (0<=v8/\v8<(↑v6.length:Int)) <|
 bd v6[v8.toNat]? fun x9=>
 br (decide (0<x9.Pane)) (
 gd (roomB .int (v5++ [x9.Pane]).length) <|
 some (v5++ [x9.Pane],v6,v7,v8)) <|
 some (v5,v6,v7,v8)) fun(x10,x11,x12,x13)=>
 gd (inK .i64 (x13+1)) <|
 some (.inl (x10,x11,x12,x13+1))) <|
 some (.inr v5)
def pS_Leaves (m:Nat) (a1:List INode):Option (List Int):=
 bd (pS_TreeOk m a1) fun x2=>
 br (!x2) (
 some []) <|
 bd (α:=List Int) (
 loopF (pS_Leaves_b1 m) m ([],a1,(↑a1.length:Int),0)) fun x4=>
 some x4
theorem c153:CC (mo 153 [.row .iNode] (.one (.own .int 99)) pS_Leaves):=mq (cs c220 cn) ⟨[],[(9,false,⟨[],[eO 3 .int 700,eR 11 .iNode,eI 12,eI 13]⟩)],[(5,false,⟨[],[eO 3 .int 700,eR 11 .iNode,eI 12,eI 13]⟩,0,⟨[],[eO 3 .int 700]⟩)]⟩ Tryz.f153
def pS_l14Wins_b2 (m:Nat):Lp (IState×List Int×Int×Int) (IState×List Int⊕Bool):=fun(v33,v34,v35,v36)=>
 br (decide (v36<v35)) (
 gd (0<=v36/\v36<(↑v34.length:Int)) <|
 bd (v34[0+v36.toNat]?) fun x37=>
 bd (α:=IState×List Int×Int×Int×Bool) (
 gd (0<=v36/\v36<=(↑v34.length:Int)) <|
 bd (pS_l02HasInt m (viewL false v34 (0+0) (v36.toNat-0)) x37) fun x38=>
 br x38 (
 some (v33,v34,v35,v36,true)) <|
 bd (pS_PaneAt m v33 x37) fun x39=>
 some (v33,v34,v35,v36,decide (x39<0))) fun(x40,x41,x42,x43,x44)=>
 br x44 (
 some (.inr (.inr false))) <|
 gd (inK .i64 (x43+1)) <|
 some (.inl (x40,x41,x42,x43+1))) <|
 some (.inr (.inl (v33,v34)))
def pS_l14Wins_b1 (m:Nat):Lp (IState×List Int×List IWin×Int×Int) (IState×List Int⊕Bool):=fun(v8,v9,v10,v11,v12)=>
 br (decide (v12<v11)) (
 gd (0<=v12/\v12<(↑v10.length:Int)) <|
 bd v10[v12.toNat]? fun x13=>
 bd (pS_Places m x13.Tree v8.W v8.H) fun(x14,x15)=>
 bd (α:=IState×IWin×List Int×List IWin×Int×Int×Bool) (
 br (!x15) (
 some (v8,x13,v9,v10,v11,v12,true)) <|
 br (decide (x13.Id<1)) (
 some (v8,x13,v9,v10,v11,v12,true)) <|
 br (decide (v8.Next<=x13.Id)) (
 some (v8,x13,v9,v10,v11,v12,true)) <|
 br (decide (0<v12)) (
 gd (inK .i64 (v12-1)) <|
 gd (0<=v12-1/\v12-1<(↑v8.Wins.length:Int)) <|
 bd (v8.Wins[(v12-1).toNat]?) fun x16=>
 br (decide (x13.Id<=x16.Id)) (
 some (v8,x13,v9,v10,v11,v12,true)) <|
 bd (pS_PaneAt m v8 x13.Id) fun x17=>
 br (decide (0<=x17)) (
 some (v8,x13,v9,v10,v11,v12,true)) <|
 bd (pS_WordOk m x13.Name) fun x18=>
 br (!x18) (
 some (v8,x13,v9,v10,v11,v12,true)) <|
 bd (pS_Leaves m x13.Tree) fun x19=>
 bd (pS_l02HasInt m x19 x13.Active) fun x20=>
 some (v8,x13,v9,v10,v11,v12,!x20)) <|
 bd (pS_PaneAt m v8 x13.Id) fun x21=>
 br (decide (0<=x21)) (
 some (v8,x13,v9,v10,v11,v12,true)) <|
 bd (pS_WordOk m x13.Name) fun x22=>
 br (!x22) (
 some (v8,x13,v9,v10,v11,v12,true)) <|
 bd (pS_Leaves m x13.Tree) fun x23=>
 bd (pS_l02HasInt m x23 x13.Active) fun x24=>
 some (v8,x13,v9,v10,v11,v12,!x24)) fun(x25,x26,x27,x28,x29,x30,x31)=>
 br x31 (
 some (.inr (.inr false))) <|
 bd (pS_Leaves m x26.Tree) fun x32=>
 gd (roomB .int (x27++x32).length) <|
 gd (inK .i64 (x30+1)) <|
 some (.inl (x25,x27++x32,x28,x29,x30+1))) <|
 some (.inr (.inl (v8,v9)))
def pS_l14Wins (m:Nat) (a1:IState):Option Bool:=
 jn (V:=IState×List Int) (
 loopF (pS_l14Wins_b1 m) m (a1,[],a1.Wins,(↑a1.Wins.length:Int),0)) fun(v3,v4)=>
 jn (V:=IState×List Int) (
 loopF (pS_l14Wins_b2 m) m (v3,v4,(↑v4.length:Int),0)) fun(v6,v7)=>
 some ((↑v7.length:Int)==(↑v6.Panes.length:Int))
theorem c74:CC (mo 74 [jS .iState] oB pS_l14Wins):=mq (cs c151 (cs c152 (cs c80 (cs c153 (cs c77 cn))))) ⟨[(6,⟨[(1,.ptr 200 0),(5,.ptr 600 0)],[.sto 200 .iState [],.sto 600 .iWin [],eO 3 .int 1100,eR 12 .iWin,eI 13,eI 14,eB 80]⟩),(13,⟨[(1,.ptr 200 0),(87,.ref 1100)],[.sto 200 .iState [],eO 3 .int 1100,eI 88,eI 89,eB 104]⟩)],[],[(3,true,⟨[(1,.ptr 200 0)],[.sto 200 .iState [],eO 3 .int 1100,eR 12 .iWin,eI 13,eI 14]⟩,0,⟨[(1,.ptr 200 0)],[.sto 200 .iState [],eO 3 .int 1100]⟩),(11,true,⟨[(1,.ptr 200 0),(87,.ref 1100)],[.sto 200 .iState [],eO 3 .int 1100,eI 88,eI 89]⟩,2,⟨[(1,.ptr 200 0)],[.sto 200 .iState [],eO 3 .int 1100]⟩)]⟩ Tryz.f74
def pS_SessAt_b1 (m:Nat):Lp (ByteArray×List ISess×Int×Int) (Unit⊕Int):=fun(v4,v5,v6,v7)=>
 br (decide (v7<v6)) (
 gd (0<=v7/\v7<(↑v5.length:Int)) <|
 bd v5[v7.toNat]? fun x8=>
 br (decide (x8.Name=v4)) (
 some (.inr (.inr v7))) <|
 gd (inK .i64 (v7+1)) <|
 some (.inl (v4,v5,v6,v7+1))) <|
 some (.inr (.inl ()))
def pS_SessAt (m:Nat) (a1:IState) (a2:ByteArray):Option Int:=
 jn (V:=Unit) (
 loopF (pS_SessAt_b1 m) m (a2,a1.Sess,(↑a1.Sess.length:Int),0)) fun _=>
 some (-1)
theorem c154:CC (mo 154 [jS .iState,.S] oI (q2 pS_SessAt)):=mq cn ⟨[],[],[(2,true,⟨[],[eS 1,eR 8 .iSess,eI 9,eI 10]⟩,0,⟨[],[]⟩)]⟩ Tryz.f154
def pS_WinAt_b1 (m:Nat):Lp (Int×List IWin×Int×Int) (Unit⊕Int):=fun(v4,v5,v6,v7)=>
 br (decide (v7<v6)) (
 gd (0<=v7/\v7<(↑v5.length:Int)) <|
 bd v5[v7.toNat]? fun x8=>
 br (x8.Id==v4) (
 some (.inr (.inr v7))) <|
 gd (inK .i64 (v7+1)) <|
 some (.inl (v4,v5,v6,v7+1))) <|
 some (.inr (.inl ()))
def pS_WinAt (m:Nat) (a1:IState) (a2:Int):Option Int:=
 jn (V:=Unit) (
 loopF (pS_WinAt_b1 m) m (a2,a1.Wins,(↑a1.Wins.length:Int),0)) fun _=>
 some (-1)
theorem c155:CC (mo 155 [jS .iState,jI] oI (q2 pS_WinAt)):=mq cn ⟨[],[],[(2,true,⟨[],[eI 1,eR 8 .iWin,eI 9,eI 10]⟩,0,⟨[],[]⟩)]⟩ Tryz.f155
def pS_l14Sess_b2 (m:Nat):Lp (IState×List Int×Int×Int) (IState×List Int⊕Bool):=fun(v24,v25,v26,v27)=>
 br (decide (v27<v26)) (
 gd (0<=v27/\v27<(↑v25.length:Int)) <|
 bd (v25[0+v27.toNat]?) fun x28=>
 bd (α:=IState×List Int×Int×Int×Bool) (
 gd (0<=v27/\v27<=(↑v25.length:Int)) <|
 bd (pS_l02HasInt m (viewL false v25 (0+0) (v27.toNat-0)) x28) fun x29=>
 br x29 (
 some (v24,v25,v26,v27,true)) <|
 bd (pS_WinAt m v24 x28) fun x30=>
 some (v24,v25,v26,v27,decide (x30<0))) fun(x31,x32,x33,x34,x35)=>
 br x35 (
 some (.inr (.inr false))) <|
 gd (inK .i64 (x34+1)) <|
 some (.inl (x31,x32,x33,x34+1))) <|
 some (.inr (.inl (v24,v25)))
def pS_l14Sess_b1 (m:Nat):Lp (IState×List Int×List ISess×Int×Int) (IState×List Int⊕Bool):=fun(v8,v9,v10,v11,v12)=>
 br (decide (v12<v11)) (
 gd (0<=v12/\v12<(↑v10.length:Int)) <|
 bd v10[v12.toNat]? fun x13=>
 bd (α:=IState×ISess×List Int×List ISess×Int×Int×Bool) (
 bd (pS_WordOk m x13.Name) fun x14=>
 br (!x14) (
 some (v8,x13,v9,v10,v11,v12,true)) <|
 bd (pS_SessAt m v8 x13.Name) fun x15=>
 br (x15 !=v12) (
 some (v8,x13,v9,v10,v11,v12,true)) <|
 bd (pS_l02HasInt m x13.Wins x13.Active) fun x16=>
 some (v8,x13,v9,v10,v11,v12,!x16)) fun(x17,x18,x19,x20,x21,x22,x23)=>
 br x23 (
 some (.inr (.inr false))) <|
 gd (roomB .int (x19++x18.Wins).length) <|
 gd (inK .i64 (x22+1)) <|
 some (.inl (x17,x19++x18.Wins,x20,x21,x22+1))) <|
 some (.inr (.inl (v8,v9)))
def pS_l14Sess (m:Nat) (a1:IState):Option Bool:=
 jn (V:=IState×List Int) (
 loopF (pS_l14Sess_b1 m) m (a1,[],a1.Sess,(↑a1.Sess.length:Int),0)) fun(v3,v4)=>
 jn (V:=IState×List Int) (
 loopF (pS_l14Sess_b2 m) m (v3,v4,(↑v4.length:Int),0)) fun(v6,v7)=>
 some ((↑v7.length:Int)==(↑v6.Wins.length:Int))
theorem c75:CC (mo 75 [jS .iState] oB pS_l14Sess):=mq (cs c80 (cs c154 (cs c77 (cs c155 cn)))) ⟨[(5,⟨[(1,.ptr 200 0),(5,.ptr 600 0)],[.sto 200 .iState [],.sto 600 .iSess [],eO 3 .int 900,eR 10 .iSess,eI 11,eI 12,eB 36]⟩),(12,⟨[(1,.ptr 200 0),(42,.ref 900)],[.sto 200 .iState [],eO 3 .int 900,eI 43,eI 44,eB 59]⟩)],[],[(3,true,⟨[(1,.ptr 200 0)],[.sto 200 .iState [],eO 3 .int 900,eR 10 .iSess,eI 11,eI 12]⟩,0,⟨[(1,.ptr 200 0)],[.sto 200 .iState [],eO 3 .int 900]⟩),(10,true,⟨[(1,.ptr 200 0),(42,.ref 900)],[.sto 200 .iState [],eO 3 .int 900,eI 43,eI 44]⟩,2,⟨[(1,.ptr 200 0)],[.sto 200 .iState [],eO 3 .int 900]⟩)]⟩ Tryz.f75
def pS_l08Keeps (m:Nat) (a1:Int):Option Bool:=
 bd (α:=Bool) (
 br (a1==2) (
 some true) <|
 some (a1==3)) fun x2=>
 some x2
theorem c304:CC (mo 304 [jI] oB pS_l08Keeps):=mq cn ⟨[(1,⟨[],[eB 2]⟩)],[],[]⟩ Tryz.f304
def pS_Shows (m:Nat) (a1:Int):Option Bool:=
 bd (α:=Bool) (
 br (decide (32<=a1)) (
 br (decide (a1<=126)) (
 some true) <|
 br (decide (160<=a1)) (
 br (decide (a1<=65535)) (
 br (decide (a1<55296)) (
 some true) <|
 some (decide (57343<a1))) <|
 some false) <|
 some false) <|
 br (decide (160<=a1)) (
 br (decide (a1<=65535)) (
 br (decide (a1<55296)) (
 some true) <|
 some (decide (57343<a1))) <|
 some false) <|
 some false) fun x2=>
 some x2
theorem c361:CC (mo 361 [jI] oB pS_Shows):=mq cn ⟨[(1,⟨[],[eB 2]⟩)],[],[]⟩ Tryz.f361
def pS_RuneBytes (m:Nat) (a1:Int):Option (List UInt8):=
 bd (pS_Shows m a1) fun x2=>
 br (!x2) (
 some []) <|
 br (decide (a1<128)) (
 some ([UInt8.ofNat (IntKind.u8.wrap a1).toNat])) <|
 br (decide (a1<2048)) (
 gd ((64:Int)≠(0:Int)) <|
 gd (inK .i64 (a1.tdiv 64)) <|
 gd (inK .i64 (192+a1.tdiv 64)) <|
 gd ((64:Int)≠(0:Int)) <|
 gd (inK .i64 (128+a1.tmod 64)) <|
 some ([UInt8.ofNat (IntKind.u8.wrap (192+a1.tdiv 64)).toNat,UInt8.ofNat (IntKind.u8.wrap (128+a1.tmod 64)).toNat])) <|
 gd ((4096:Int)≠(0:Int)) <|
 gd (inK .i64 (a1.tdiv 4096)) <|
 gd (inK .i64 (224+a1.tdiv 4096)) <|
 gd ((64:Int)≠(0:Int)) <|
 gd (inK .i64 (a1.tdiv 64)) <|
 gd ((64:Int)≠(0:Int)) <|
 gd (inK .i64 (128+(a1.tdiv 64).tmod 64)) <|
 gd ((64:Int)≠(0:Int)) <|
 gd (inK .i64 (128+a1.tmod 64)) <|
 some ([UInt8.ofNat (IntKind.u8.wrap (224+a1.tdiv 4096)).toNat,UInt8.ofNat (IntKind.u8.wrap (128+(a1.tdiv 64).tmod 64)).toNat,UInt8.ofNat (IntKind.u8.wrap (128+a1.tmod 64)).toNat])
theorem c360:CC (mo 360 [jI] (.one (.own .u8 99)) pS_RuneBytes):=mq (cs c361 cn) tn Tryz.f360
def pS_RuneRead_b2 (m:Nat):Lp (List UInt8×Int×Int×Int×Int) (List UInt8×Int×Int×Int):=fun(v27,v28,v29,v30,v31)=>
 br (decide (v31<v29)) (
 gd (inK .i64 (v30*64)) <|
 gd (inK .i64 (v28+v31)) <|
 gd (0<=v28+v31/\v28+v31<(↑v27.length:Int)) <|
 bd (v27[(v28+v31).toNat]?) fun x32=>
 gd (inK .i64 (v30*64+(↑x32.toNat:Int))) <|
 gd (inK .i64 (v30*64+(↑x32.toNat:Int)-128)) <|
 gd (inK .i64 (v31+1)) <|
 some (.inl (v27,v28,v29,v30*64+(↑x32.toNat:Int)-128,v31+1))) <|
 some (.inr (v27,v28,v29,v30))
def pS_RuneRead_b1 (m:Nat):Lp (List UInt8×Int×Int) (Unit⊕Int×Int):=fun(v7,v8,v9)=>
 bd (α:=List UInt8×Int×Int×Bool) (
 br (decide (v9<=3)) (
 gd (inK .i64 ((↑v7.length:Int)-v8)) <|
 some (v7,v8,v9,decide (v9<=(↑v7.length:Int)-v8))) <|
 some (v7,v8,v9,false)) fun(x10,x11,x12,x13)=>
 br x13 (
 gd (0<=x11/\x11<(↑x10.length:Int)) <|
 bd x10[x11.toNat]? fun x14=>
 gd (0<=x12/\x12<(↑4:Int)) <|
 bd ([0,0,192,224][0+x12.toNat]?) fun x15=>
 gd (inK .i64 ((↑x14.toNat:Int)-x15)) <|
 bd (α:=List UInt8×Int×Int×Int) (
 loopF (pS_RuneRead_b2 m) m (x10,x11,x12,(↑x14.toNat:Int)-x15,1)) fun(x17,x18,x19,x20)=>
 bd (pS_RuneBytes m x20) fun x21=>
 bd (α:=List UInt8×Int×Int×Int×Bool) (
 br ((↑x21.length:Int)==x19) (
 gd (inK .i64 (x18+x19)) <|
 gd (0<=x18+x19/\x18+x19<=(↑x17.length:Int)) <|
 gd (0<=x18/\x18<=(↑(x18+x19).toNat:Int)) <|
 some (x17,x18,x19,x20,decide (ByteArray.mk x21.toArray=ByteArray.mk (List.drop x18.toNat (List.take (x18+x19).toNat x17)).toArray))) <|
 some (x17,x18,x19,x20,false)) fun(x22,x23,x24,x25,x26)=>
 br x26 (
 some (.inr (.inr (x25,x24)))) <|
 gd (inK .i64 (x24+1)) <|
 some (.inl (x22,x23,x24+1))) <|
 some (.inr (.inl ()))
def pS_RuneRead (m:Nat) (a1:List UInt8) (a2:Int):Option (Int×Int):=
 bd (α:=List UInt8×Int×Bool) (
 br (decide (a2<0)) (
 some (a1,a2,true)) <|
 some (a1,a2,decide ((↑a1.length:Int)<=a2))) fun(x3,x4,x5)=>
 br x5 (
 some (0,0)) <|
 jn (V:=Unit) (
 loopF (pS_RuneRead_b1 m) m (x3,x4,1)) fun _=>
 some (0,0)
theorem c339:CC (mo 339 [.row .u8,jI] (.tup [jI,jI]) (q2 pS_RuneRead)):=mq (cs c360 cn) ⟨[(1,⟨[],[eR 0 .u8,eI 1,eB 17]⟩),(4,⟨[],[eR 0 .u8,eI 1,eI 6,eB 27]⟩),(12,⟨[],[eR 0 .u8,eI 1,eI 6,eI 7,eB 73]⟩)],[],[(8,false,⟨[],[eR 0 .u8,eI 1,eI 6,eI 7,eI 8]⟩,2,⟨[],[eR 0 .u8,eI 1,eI 6,eI 7]⟩),(4,true,⟨[],[eR 0 .u8,eI 1,eI 6]⟩,0,⟨[],[]⟩)]⟩ Tryz.f339
def pS_RuneBegin_b1 (m:Nat):Lp (List UInt8×Int) (Unit⊕Bool):=fun(v5,v6)=>
 br (decide (v6<192)) (
 jn (V:=List UInt8×Int) (
 gd (roomB .u8 ([]++v5).length) <|
 gd (roomB .u8 ([]++v5++ [UInt8.ofNat (IntKind.u8.wrap v6).toNat]).length) <|
 bd (pS_RuneRead m ([]++v5++ [UInt8.ofNat (IntKind.u8.wrap v6).toNat]) 0) fun(x7,x8)=>
 br (x8==(↑([]++v5++ [UInt8.ofNat (IntKind.u8.wrap v6).toNat]).length:Int)) (
 some (.inr (.inr (.inr true)))) <|
 br ((↑v5.length:Int)==1) (
 gd (roomB .u8 ([]++([]++v5++ [UInt8.ofNat (IntKind.u8.wrap v6).toNat])).length) <|
 gd (roomB .u8 ([]++([]++v5++ [UInt8.ofNat (IntKind.u8.wrap v6).toNat])++ [UInt8.ofNat (Int.toNat 129)]).length) <|
 bd (pS_RuneRead m ([]++([]++v5++ [UInt8.ofNat (IntKind.u8.wrap v6).toNat])++ [UInt8.ofNat (Int.toNat 129)]) 0) fun(x9,x10)=>
 br (x10==3) (
 some (.inr (.inr (.inr true)))) <|
 some (.inl (v5,v6))) <|
 some (.inl (v5,v6))) fun(v11,v12)=>
 gd (inK .i64 (v12+1)) <|
 some (.inl (v11,v12+1))) <|
 some (.inr (.inl ()))
def pS_RuneBegin (m:Nat) (a1:List UInt8):Option Bool:=
 bd (α:=List UInt8×Bool) (
 br (decide ((↑a1.length:Int)<1)) (
 some (a1,true)) <|
 some (a1,decide (2<(↑a1.length:Int)))) fun(x2,x3)=>
 br x3 (
 some false) <|
 jn (V:=Unit) (
 loopF (pS_RuneBegin_b1 m) m (x2,128)) fun _=>
 some false
theorem c305:CC (mo 305 [.row .u8] oB pS_RuneBegin):=mq (cs c339 cn) ⟨[(1,⟨[],[eR 0 .u8,eB 17]⟩)],[(5,true,⟨[],[eR 0 .u8,eI 3]⟩)],[(4,true,⟨[],[eR 0 .u8,eI 3]⟩,0,⟨[],[]⟩)]⟩ Tryz.f305
def pS_VpOk_b1 (m:Nat):Lp (IVp×List Int×Int×Int) (IVp⊕Bool):=fun(v9,v10,v11,v12)=>
 br (decide (v12<v11)) (
 gd (0<=v12/\v12<(↑v10.length:Int)) <|
 bd v10[v12.toNat]? fun x13=>
 bd (α:=IVp×List Int×Int×Int×Bool) (
 br (decide (x13<0)) (
 some (v9,v10,v11,v12,true)) <|
 some (v9,v10,v11,v12,decide (9999<x13))) fun(x14,x15,x16,x17,x18)=>
 br x18 (
 some (.inr (.inr false))) <|
 gd (inK .i64 (x17+1)) <|
 some (.inl (x14,x15,x16,x17+1))) <|
 some (.inr (.inl v9))
def pS_VpOk (m:Nat) (a1:IVp):Option Bool:=
 bd (α:=IVp×Bool) (
 br (decide (a1.State<0)) (
 some (a1,true)) <|
 br (decide (3<a1.State)) (
 some (a1,true)) <|
 br (decide (8<(↑a1.Args.length:Int))) (
 some (a1,true)) <|
 bd (pS_l08Keeps m a1.State) fun x2=>
 br (!x2) (
 br a1.Mark (
 some (a1,true)) <|
 some (a1,decide (0<(↑a1.Args.length:Int)))) <|
 some (a1,false)) fun(x3,x4)=>
 br x4 (
 some false) <|
 jn (V:=IVp) (
 loopF (pS_VpOk_b1 m) m (x3,x3.Args,(↑x3.Args.length:Int),0)) fun v6=>
 bd (α:=Bool) (
 br ((↑v6.Part.length:Int)==0) (
 some true) <|
 br (v6.State==0) (
 bd (pS_RuneBegin m v6.Part) fun x7=>
 some x7) <|
 some false) fun x8=>
 some x8
theorem c266:CC (mo 266 [jS .iVp] oB pS_VpOk):=mq (cs c304 (cs c305 cn)) ⟨[(1,⟨[(1,.ptr 200 0)],[.sto 200 .iVp [],eB 34]⟩),(6,⟨[(1,.ptr 200 0)],[.sto 200 .iVp [],eR 36 .int,eI 37,eI 38,eB 47]⟩),(9,⟨[],[eB 2]⟩)],[],[(4,true,⟨[(1,.ptr 200 0)],[.sto 200 .iVp [],eR 36 .int,eI 37,eI 38]⟩,0,⟨[(1,.ptr 200 0)],[.sto 200 .iVp []]⟩)]⟩ Tryz.f266
def pS_AttrOk (m:Nat) (a1:IAttr):Option Bool:=
 bd (α:=Bool) (
 br (decide (0<=a1.Fg)) (
 br (decide (a1.Fg<=8)) (
 br (decide (0<=a1.Bg)) (
 some (decide (a1.Bg<=8))) <|
 some false) <|
 some false) <|
 some false) fun x2=>
 some x2
theorem c307:CC (mo 307 [jS .iAttr] oB pS_AttrOk):=mq cn ⟨[(1,⟨[],[eB 2]⟩)],[],[]⟩ Tryz.f307
def pS_CellOk (m:Nat) (a1:ICell):Option Bool:=
 bd (α:=Bool) (
 bd (pS_Shows m a1.R) fun x2=>
 br x2 (
 bd (pS_AttrOk m a1.A) fun x3=>
 some x3) <|
 some false) fun x4=>
 some x4
theorem c340:CC (mo 340 [jS .iCell] oB pS_CellOk):=mq (cs c361 (cs c307 cn)) ⟨[(1,⟨[],[eB 2]⟩)],[],[]⟩ Tryz.f340
def pS_GridOk_b1 (m:Nat):Lp (List ICell×Int×Int) (Unit⊕Bool):=fun(v5,v6,v7)=>
 br (decide (v7<v6)) (
 gd (0<=v7/\v7<(↑v5.length:Int)) <|
 bd v5[v7.toNat]? fun x8=>
 bd (pS_CellOk m x8) fun x9=>
 br (!x9) (
 some (.inr (.inr false))) <|
 gd (inK .i64 (v7+1)) <|
 some (.inl (v5,v6,v7+1))) <|
 some (.inr (.inl ()))
def pS_GridOk (m:Nat) (a1:IGrid):Option Bool:=
 bd (α:=IGrid×Bool) (
 br (decide (a1.W<1)) (
 some (a1,true)) <|
 br (decide (120<a1.W)) (
 some (a1,true)) <|
 br (decide (a1.H<1)) (
 some (a1,true)) <|
 br (decide (120<a1.H)) (
 some (a1,true)) <|
 gd (inK .i64 (a1.W*a1.H)) <|
 br (decide (4000<a1.W*a1.H)) (
 some (a1,true)) <|
 gd (inK .i64 (a1.W*a1.H)) <|
 some (a1,(↑a1.Cells.length:Int) !=a1.W*a1.H)) fun(x2,x3)=>
 br x3 (
 some false) <|
 jn (V:=Unit) (
 loopF (pS_GridOk_b1 m) m (x2.Cells,(↑x2.Cells.length:Int),0)) fun _=>
 some true
theorem c306:CC (mo 306 [jS .iGrid] oB pS_GridOk):=mq (cs c340 cn) ⟨[(1,⟨[(1,.ptr 200 0)],[.sto 200 .iGrid [],eB 41]⟩)],[],[(4,true,⟨[],[eR 43 .iCell,eI 44,eI 45]⟩,0,⟨[],[]⟩)]⟩ Tryz.f306
def pS_l09Row_b1 (m:Nat):Lp (IRow×List ICell×Int×Int) (IRow⊕Bool):=fun(v5,v6,v7,v8)=>
 br (decide (v8<v7)) (
 gd (0<=v8/\v8<(↑v6.length:Int)) <|
 bd v6[v8.toNat]? fun x9=>
 bd (pS_CellOk m x9) fun x10=>
 br (!x10) (
 some (.inr (.inr false))) <|
 gd (inK .i64 (v8+1)) <|
 some (.inl (v5,v6,v7,v8+1))) <|
 some (.inr (.inl v5))
def pS_l09Row (m:Nat) (a1:IRow):Option Bool:=
 jn (V:=IRow) (
 loopF (pS_l09Row_b1 m) m (a1,a1.Cells,(↑a1.Cells.length:Int),0)) fun v3=>
 bd (α:=Bool) (
 br (decide (1<=(↑v3.Cells.length:Int))) (
 some (decide ((↑v3.Cells.length:Int)<=120))) <|
 some false) fun x4=>
 some x4
theorem c308:CC (mo 308 [jS .iRow] oB pS_l09Row):=mq (cs c340 cn) ⟨[(7,⟨[],[eB 2]⟩)],[],[(2,true,⟨[(1,.ptr 200 0)],[.sto 200 .iRow [],eR 6 .iCell,eI 7,eI 8]⟩,0,⟨[(1,.ptr 200 0)],[.sto 200 .iRow []]⟩)]⟩ Tryz.f308
def pS_ScrOk_b2 (m:Nat):Lp (List IRow×Int×Int) (Unit⊕Bool):=fun(v28,v29,v30)=>
 br (decide (v30<v29)) (
 gd (0<=v30/\v30<(↑v28.length:Int)) <|
 bd v28[v30.toNat]? fun x31=>
 bd (pS_l09Row m x31) fun x32=>
 br (!x32) (
 some (.inr (.inr false))) <|
 gd (inK .i64 (v30+1)) <|
 some (.inl (v28,v29,v30+1))) <|
 some (.inr (.inl ()))
def pS_ScrOk_b1 (m:Nat):Lp (IScr×List Int×Int×Int) (IScr⊕Bool):=fun(v17,v18,v19,v20)=>
 br (decide (v20<v19)) (
 gd (0<=v20/\v20<(↑v18.length:Int)) <|
 bd v18[v20.toNat]? fun x21=>
 bd (α:=IScr×List Int×Int×Int×Bool) (
 br (decide (x21<0)) (
 some (v17,v18,v19,v20,true)) <|
 br (decide (v17.W<=x21)) (
 some (v17,v18,v19,v20,true)) <|
 br (decide (0<v20)) (
 gd (inK .i64 (v20-1)) <|
 gd (0<=v20-1/\v20-1<(↑v17.Tabs.length:Int)) <|
 bd (v17.Tabs[(v20-1).toNat]?) fun x22=>
 some (v17,v18,v19,v20,decide (x21<=x22))) <|
 some (v17,v18,v19,v20,false)) fun(x23,x24,x25,x26,x27)=>
 br x27 (
 some (.inr (.inr false))) <|
 gd (inK .i64 (x26+1)) <|
 some (.inl (x23,x24,x25,x26+1))) <|
 some (.inr (.inl v17))
def pS_ScrOk (m:Nat) (a1:IScr):Option Bool:=
 bd (α:=IScr×Bool) (
 bd (pS_GridOk m a1.Main) fun x2=>
 br (!x2) (
 some (a1,true)) <|
 bd (pS_GridOk m a1.Alt) fun x3=>
 br (!x3) (
 some (a1,true)) <|
 br (a1.Main.W !=a1.W) (
 some (a1,true)) <|
 br (a1.Main.H !=a1.H) (
 some (a1,true)) <|
 br (a1.Alt.W !=a1.W) (
 some (a1,true)) <|
 some (a1,a1.Alt.H !=a1.H)) fun(x4,x5)=>
 br x5 (
 some false) <|
 bd (α:=IScr×Bool) (
 br (decide (x4.X<0)) (
 some (x4,true)) <|
 br (decide (x4.W<=x4.X)) (
 some (x4,true)) <|
 br (decide (x4.Y<0)) (
 some (x4,true)) <|
 br (decide (x4.H<=x4.Y)) (
 some (x4,true)) <|
 br x4.Wrap (
 gd (inK .i64 (x4.W-1)) <|
 br (x4.X !=x4.W-1) (
 some (x4,true)) <|
 br (decide (x4.SaveX<0)) (
 some (x4,true)) <|
 br (decide (x4.W<=x4.SaveX)) (
 some (x4,true)) <|
 br (decide (x4.SaveY<0)) (
 some (x4,true)) <|
 br (decide (x4.H<=x4.SaveY)) (
 some (x4,true)) <|
 bd (pS_AttrOk m x4.A) fun x6=>
 br (!x6) (
 some (x4,true)) <|
 bd (pS_AttrOk m x4.SaveA) fun x7=>
 some (x4,!x7)) <|
 br (decide (x4.SaveX<0)) (
 some (x4,true)) <|
 br (decide (x4.W<=x4.SaveX)) (
 some (x4,true)) <|
 br (decide (x4.SaveY<0)) (
 some (x4,true)) <|
 br (decide (x4.H<=x4.SaveY)) (
 some (x4,true)) <|
 bd (pS_AttrOk m x4.A) fun x8=>
 br (!x8) (
 some (x4,true)) <|
 bd (pS_AttrOk m x4.SaveA) fun x9=>
 some (x4,!x9)) fun(x10,x11)=>
 br x11 (
 some false) <|
 bd (α:=IScr×Bool) (
 br (decide (x10.Top<0)) (
 some (x10,true)) <|
 br (decide (x10.H<=x10.Bot)) (
 some (x10,true)) <|
 br (decide (x10.Bot<x10.Top)) (
 some (x10,true)) <|
 br (x10.Top==x10.Bot) (
 br (x10.H !=1) (
 some (x10,true)) <|
 br (decide (x10.Limit<0)) (
 some (x10,true)) <|
 br (decide (100<x10.Limit)) (
 some (x10,true)) <|
 some (x10,decide (x10.Limit<(↑x10.Back.length:Int)))) <|
 br (decide (x10.Limit<0)) (
 some (x10,true)) <|
 br (decide (100<x10.Limit)) (
 some (x10,true)) <|
 some (x10,decide (x10.Limit<(↑x10.Back.length:Int)))) fun(x12,x13)=>
 br x13 (
 some false) <|
 jn (V:=IScr) (
 loopF (pS_ScrOk_b1 m) m (x12,x12.Tabs,(↑x12.Tabs.length:Int),0)) fun v15=>
 jn (V:=Unit) (
 loopF (pS_ScrOk_b2 m) m (v15.Back,(↑v15.Back.length:Int),0)) fun _=>
 some true
theorem c267:CC (mo 267 [jS .iScr] oB pS_ScrOk):=mq (cs c306 (cs c307 (cs c308 cn))) ⟨[(1,⟨[(1,.ptr 200 0)],[.sto 200 .iScr [],eB 48]⟩),(3,⟨[(1,.ptr 200 0)],[.sto 200 .iScr [],eB 118]⟩),(5,⟨[(1,.ptr 200 0)],[.sto 200 .iScr [],eB 165]⟩),(10,⟨[(1,.ptr 200 0)],[.sto 200 .iScr [],eR 167 .int,eI 168,eI 169,eB 195]⟩)],[],[(8,true,⟨[(1,.ptr 200 0)],[.sto 200 .iScr [],eR 167 .int,eI 168,eI 169]⟩,0,⟨[(1,.ptr 200 0)],[.sto 200 .iScr []]⟩),(14,true,⟨[],[eR 198 .iRow,eI 199,eI 200]⟩,2,⟨[],[]⟩)]⟩ Tryz.f267
def pS_TermOk (m:Nat) (a1:ITerm):Option Bool:=
 bd (α:=Bool) (
 bd (pS_VpOk m a1.P) fun x2=>
 br x2 (
 bd (pS_ScrOk m a1.S) fun x3=>
 some x3) <|
 some false) fun x4=>
 some x4
theorem c222:CC (mo 222 [jS .iTerm] oB pS_TermOk):=mq (cs c266 (cs c267 cn)) ⟨[(1,⟨[],[eB 2]⟩)],[],[]⟩ Tryz.f222
def pS_PaneOk (m:Nat) (a1:IPane):Option Bool:=
 bd (α:=IPane×Bool) (
 br (decide (a1.Id<1)) (
 some (a1,true)) <|
 br (decide (1000000<a1.Id)) (
 some (a1,true)) <|
 br (decide (60<(↑a1.Cmd.size:Int))) (
 some (a1,true)) <|
 br (decide (60<(↑a1.Dir.size:Int))) (
 some (a1,true)) <|
 bd (pS_TermOk m a1.Term) fun x2=>
 some (a1,!x2)) fun(x3,x4)=>
 br x4 (
 some false) <|
 br (x3.Life==1) (
 bd (α:=Bool) (
 br (decide (1<=x3.Pid)) (
 br (decide (x3.Pid<=1000000)) (
 some (x3.Code==0)) <|
 some false) <|
 some false) fun x5=>
 some x5) <|
 br (x3.Life==2) (
 bd (α:=Bool) (
 br (x3.Pid==0) (
 br (decide (0<=x3.Code)) (
 some (decide (x3.Code<=255))) <|
 some false) <|
 some false) fun x6=>
 some x6) <|
 br (x3.Life==3) (
 bd (α:=Bool) (
 br (x3.Pid==0) (
 some (x3.Code==0)) <|
 some false) fun x7=>
 some x7) <|
 some false
theorem c156:CC (mo 156 [jS .iPane] oB pS_PaneOk):=mq (cs c222 cn) ⟨[(1,⟨[(1,.ptr 200 0)],[.sto 200 .iPane [],eB 28]⟩),(5,⟨[],[eB 2]⟩),(7,⟨[],[eB 2]⟩),(9,⟨[],[eB 2]⟩)],[],[]⟩ Tryz.f156
def pS_WinOf_b1 (m:Nat):Lp (Int×List IWin×Int×Int) (Unit⊕Int):=fun(v4,v5,v6,v7)=>
 br (decide (v7<v6)) (
 gd (0<=v7/\v7<(↑v5.length:Int)) <|
 bd v5[v7.toNat]? fun x8=>
 bd (pS_Leaves m x8.Tree) fun x9=>
 bd (pS_l02HasInt m x9 v4) fun x10=>
 br x10 (
 some (.inr (.inr v7))) <|
 gd (inK .i64 (v7+1)) <|
 some (.inl (v4,v5,v6,v7+1))) <|
 some (.inr (.inl ()))
def pS_WinOf (m:Nat) (a1:IState) (a2:Int):Option Int:=
 jn (V:=Unit) (
 loopF (pS_WinOf_b1 m) m (a2,a1.Wins,(↑a1.Wins.length:Int),0)) fun _=>
 some (-1)
theorem c223:CC (mo 223 [jS .iState,jI] oI (q2 pS_WinOf)):=mq (cs c153 (cs c77 cn)) ⟨[],[],[(2,true,⟨[],[eI 1,eR 8 .iWin,eI 9,eI 10]⟩,0,⟨[],[]⟩)]⟩ Tryz.f223
def pS_PlaceOf_b1 (m:Nat):Lp (IRect×Int×List IRect×Int×Int) (IRect⊕IRect×Bool):=fun(v9,v10,v11,v12,v13)=>
 br (decide (v13<v12)) (
 gd (0<=v13/\v13<(↑v11.length:Int)) <|
 bd (v11[0+v13.toNat]?) fun x14=>
 br (x14.Pane==v10) (
 some (.inr (.inr (x14,true)))) <|
 gd (inK .i64 (v13+1)) <|
 some (.inl (v9,v10,v11,v12,v13+1))) <|
 some (.inr (.inl v9))
def pS_PlaceOf (m:Nat) (a1:List INode) (a2 a3 a4:Int):Option (IRect×Bool):=
 bd (pS_Places m a1 a2 a3) fun(x5,x6)=>
 jn (V:=IRect) (
 loopF (pS_PlaceOf_b1 m) m (IRect.mk 0 0 0 0 0,a4,x5,(↑x5.length:Int),0)) fun v8=>
 some (IRect.mk 0 0 0 0 0,false)
theorem c224:CC (mo 224 [.row .iNode,jI,jI,jI] (.tup [jS .iRect,.B]) (q4 pS_PlaceOf)):=mq (cs c151 cn) ⟨[],[],[(3,true,⟨[(8,.ptr 900 0)],[.sto 900 .iRect [],eI 3,eO 21 .iRect 19000000,eI 22,eI 23]⟩,0,⟨[(8,.ptr 900 0)],[.sto 900 .iRect []]⟩)]⟩ Tryz.f224
def pS_Area (m:Nat) (a1:IState) (a2:Int):Option (Int×Int):=
 bd (pS_WinOf m a1 a2) fun x3=>
 br (decide (x3<0)) (
 some (0,0)) <|
 gd (0<=x3/\x3<(↑a1.Wins.length:Int)) <|
 bd a1.Wins[x3.toNat]? fun x4=>
 bd (α:=IState×IWin×Int×Bool) (
 br x4.Zoom (
 some (a1,x4,a2,x4.Active==a2)) <|
 some (a1,x4,a2,false)) fun(x5,x6,x7,x8)=>
 br x8 (
 some (x5.W,x5.H)) <|
 bd (pS_PlaceOf m x6.Tree x5.W x5.H x7) fun(x9,x10)=>
 some (x9.W,x9.H)
theorem c157:CC (mo 157 [jS .iState,jI] (.tup [jI,jI]) (q2 pS_Area)):=mq (cs c223 (cs c224 cn)) ⟨[(5,⟨[(2,.ptr 300 0),(7,.ptr 800 0)],[.sto 300 .iState [],.sto 800 .iWin [],eI 1,eB 27]⟩)],[],[]⟩ Tryz.f157
def pS_l14Panes_b1 (m:Nat):Lp (IState×List Int×List IPane×Int×Int) (Unit⊕Bool):=fun(v3,v4,v5,v6,v7)=>
 br (decide (v7<v6)) (
 jn (V:=IState×List Int×List IPane×Int×Int) (
 gd (0<=v7/\v7<(↑v5.length:Int)) <|
 bd v5[v7.toNat]? fun x8=>
 bd (α:=IState×IPane×List Int×List IPane×Int×Int×Bool) (
 bd (pS_PaneOk m x8) fun x9=>
 br (!x9) (
 some (v3,x8,v4,v5,v6,v7,true)) <|
 br (decide (v3.Next<=x8.Id)) (
 some (v3,x8,v4,v5,v6,v7,true)) <|
 br (decide (0<v7)) (
 gd (inK .i64 (v7-1)) <|
 gd (0<=v7-1/\v7-1<(↑v3.Panes.length:Int)) <|
 bd (v3.Panes[(v7-1).toNat]?) fun x10=>
 some (v3,x8,v4,v5,v6,v7,decide (x8.Id<=x10.Id))) <|
 some (v3,x8,v4,v5,v6,v7,false)) fun(x11,x12,x13,x14,x15,x16,x17)=>
 br x17 (
 some (.inr (.inr (.inr false)))) <|
 bd (pS_Area m x11 x12.Id) fun(x18,x19)=>
 bd (α:=IState×IPane×List Int×List IPane×Int×Int×Bool) (
 br (x12.Term.S.W !=x18) (
 some (x11,x12,x13,x14,x15,x16,true)) <|
 br (x12.Term.S.H !=x19) (
 some (x11,x12,x13,x14,x15,x16,true)) <|
 some (x11,x12,x13,x14,x15,x16,x12.Term.S.Limit !=x11.Limit)) fun(x20,x21,x22,x23,x24,x25,x26)=>
 br x26 (
 some (.inr (.inr (.inr false)))) <|
 bd (α:=IState×IPane×List Int×List IPane×Int×Int×Bool) (
 br (x21.Life==1) (
 bd (pS_l02HasInt m x22 x21.Pid) fun x27=>
 some (x20,x21,x22,x23,x24,x25,x27)) <|
 some (x20,x21,x22,x23,x24,x25,false)) fun(x28,x29,x30,x31,x32,x33,x34)=>
 br x34 (
 some (.inr (.inr (.inr false)))) <|
 br (x29.Life==1) (
 gd (roomB .int (x30++ [x29.Pid]).length) <|
 some (.inl (x28,x30++ [x29.Pid],x31,x32,x33))) <|
 some (.inl (x28,x30,x31,x32,x33))) fun(v35,v36,v37,v38,v39)=>
 gd (inK .i64 (v39+1)) <|
 some (.inl (v35,v36,v37,v38,v39+1))) <|
 some (.inr (.inl ()))
def pS_l14Panes (m:Nat) (a1:IState):Option Bool:=
 jn (V:=Unit) (
 loopF (pS_l14Panes_b1 m) m (a1,[],a1.Panes,(↑a1.Panes.length:Int),0)) fun _=>
 some true
theorem c76:CC (mo 76 [jS .iState] oB pS_l14Panes):=mq (cs c156 (cs c157 (cs c77 cn))) ⟨[(5,⟨[(1,.ptr 200 0),(5,.ptr 600 0)],[.sto 200 .iState [],.sto 600 .iPane [],eO 3 .int 900,eR 10 .iPane,eI 11,eI 12,eB 42]⟩),(8,⟨[(1,.ptr 200 0),(5,.ptr 600 0)],[.sto 200 .iState [],.sto 600 .iPane [],eO 3 .int 900,eR 10 .iPane,eI 11,eI 12,eB 72]⟩),(10,⟨[(1,.ptr 200 0),(5,.ptr 600 0)],[.sto 200 .iState [],.sto 600 .iPane [],eO 3 .int 900,eR 10 .iPane,eI 11,eI 12,eB 81]⟩)],[(14,true,⟨[(1,.ptr 200 0)],[.sto 200 .iState [],eO 3 .int 900,eR 10 .iPane,eI 11,eI 12]⟩)],[(3,true,⟨[(1,.ptr 200 0)],[.sto 200 .iState [],eO 3 .int 900,eR 10 .iPane,eI 11,eI 12]⟩,0,⟨[],[]⟩)]⟩ Tryz.f76
def pS_StateOk (m:Nat) (a1:IState):Option Bool:=
 bd (pS_GridNew m a1.W a1.H) fun(x2,x3)=>
 bd (α:=IState×Bool) (
 br (!x3) (
 some (a1,true)) <|
 br (decide (a1.Limit<0)) (
 some (a1,true)) <|
 br (decide (100<a1.Limit)) (
 some (a1,true)) <|
 br (decide (a1.Next<1)) (
 some (a1,true)) <|
 br (decide (1000000<a1.Next)) (
 some (a1,true)) <|
 br (decide (24<(↑a1.Panes.length:Int))) (
 some (a1,true)) <|
 br (decide (12<(↑a1.Wins.length:Int))) (
 some (a1,true)) <|
 some (a1,decide (8<(↑a1.Sess.length:Int)))) fun(x4,x5)=>
 br x5 (
 some false) <|
 bd (α:=Bool) (
 bd (pS_l14Wins m x4) fun x6=>
 br x6 (
 bd (pS_l14Sess m x4) fun x7=>
 br x7 (
 bd (pS_l14Panes m x4) fun x8=>
 some x8) <|
 some false) <|
 some false) fun x9=>
 some x9
theorem c19:CC (mo 19 [jS .iState] oB pS_StateOk):=mq (cs c73 (cs c74 (cs c75 (cs c76 cn)))) ⟨[(2,⟨[(1,.ptr 200 0)],[.sto 200 .iState [],eB 52]⟩),(4,⟨[],[eB 2]⟩)],[],[]⟩ Tryz.f19
def pS_TableOk_b1 (m:Nat):Lp (ITable×List Int×List IProc×Int×Int) (ITable⊕Bool):=fun(v5,v6,v7,v8,v9)=>
 br (decide (v9<v8)) (
 gd (0<=v9/\v9<(↑v7.length:Int)) <|
 bd v7[v9.toNat]? fun x10=>
 bd (α:=ITable×IProc×List Int×List IProc×Int×Int×Bool) (
 br (decide (x10.Pid<1)) (
 some (v5,x10,v6,v7,v8,v9,true)) <|
 br (decide (v5.Next<=x10.Pid)) (
 some (v5,x10,v6,v7,v8,v9,true)) <|
 br (decide (0<v9)) (
 gd (inK .i64 (v9-1)) <|
 gd (0<=v9-1/\v9-1<(↑v5.Live.length:Int)) <|
 bd (v5.Live[(v9-1).toNat]?) fun x11=>
 br (decide (x10.Pid<=x11.Pid)) (
 some (v5,x10,v6,v7,v8,v9,true)) <|
 br (decide (x10.Pane<1)) (
 some (v5,x10,v6,v7,v8,v9,true)) <|
 br (decide (1000000<x10.Pane)) (
 some (v5,x10,v6,v7,v8,v9,true)) <|
 bd (pS_l02HasInt m v6 x10.Pane) fun x12=>
 some (v5,x10,v6,v7,v8,v9,x12)) <|
 br (decide (x10.Pane<1)) (
 some (v5,x10,v6,v7,v8,v9,true)) <|
 br (decide (1000000<x10.Pane)) (
 some (v5,x10,v6,v7,v8,v9,true)) <|
 bd (pS_l02HasInt m v6 x10.Pane) fun x13=>
 some (v5,x10,v6,v7,v8,v9,x13)) fun(x14,x15,x16,x17,x18,x19,x20)=>
 br x20 (
 some (.inr (.inr false))) <|
 gd (roomB .int (x16++ [x15.Pane]).length) <|
 gd (inK .i64 (x19+1)) <|
 some (.inl (x14,x16++ [x15.Pane],x17,x18,x19+1))) <|
 some (.inr (.inl v5))
def pS_TableOk (m:Nat) (a1:ITable):Option Bool:=
 jn (V:=ITable) (
 loopF (pS_TableOk_b1 m) m (a1,[],a1.Live,(↑a1.Live.length:Int),0)) fun v3=>
 bd (α:=Bool) (
 br (decide (1<=v3.Next)) (
 some (decide (v3.Next<=1000000))) <|
 some false) fun x4=>
 some x4
theorem c20:CC (mo 20 [jS .iTable] oB pS_TableOk):=mq (cs c77 cn) ⟨[(5,⟨[(1,.ptr 200 0),(5,.ptr 600 0)],[.sto 200 .iTable [],.sto 600 .iProc [],eO 3 .int 700,eR 8 .iProc,eI 9,eI 10,eB 56]⟩),(9,⟨[],[eB 2]⟩)],[],[(3,true,⟨[(1,.ptr 200 0)],[.sto 200 .iTable [],eO 3 .int 700,eR 8 .iProc,eI 9,eI 10]⟩,0,⟨[(1,.ptr 200 0)],[.sto 200 .iTable []]⟩)]⟩ Tryz.f20
def pS_OpsOf_b1 (m:Nat):Lp (Int×List IHist×Int×Int) Int:=fun(v4,v5,v6,v7)=>
 br (decide (v7<v6)) (
 bd (α:=Int×List IHist×Int×Int) (
 gd (0<=v7/\v7<(↑v5.length:Int)) <|
 bd v5[v7.toNat]? fun x8=>
 br (!x8.Lost) (
 gd (inK .i64 (v4+1)) <|
 some (v4+1,v5,v6,v7)) <|
 some (v4,v5,v6,v7)) fun(x9,x10,x11,x12)=>
 gd (inK .i64 (x12+1)) <|
 some (.inl (x9,x10,x11,x12+1))) <|
 some (.inr v4)
def pS_OpsOf (m:Nat) (a1:List IHist):Option Int:=
 bd (α:=Int) (
 loopF (pS_OpsOf_b1 m) m (0,a1,(↑a1.length:Int),0)) fun x3=>
 some x3
theorem c21:CC (mo 21 [.row .iHist] oI pS_OpsOf):=mq cn ⟨[],[(7,false,⟨[],[eI 3,eR 6 .iHist,eI 7,eI 8]⟩)],[(3,false,⟨[],[eI 3,eR 6 .iHist,eI 7,eI 8]⟩,0,⟨[],[eI 3]⟩)]⟩ Tryz.f21
def pS_l22NoOp (m:Nat) (a1:IOp):Option Bool:=
 bd (α:=Bool) (
 br (a1.Kind==0) (
 br (a1.A==0) (
 br (a1.B==0) (
 br (a1.C==0) (
 br (decide (a1.Name=ByteArray.mk #[])) (
 br (decide (a1.Text=ByteArray.mk #[])) (
 br (decide (a1.Dir=ByteArray.mk #[])) (
 some ((↑a1.Data.length:Int)==0)) <|
 some false) <|
 some false) <|
 some false) <|
 some false) <|
 some false) <|
 some false) <|
 some false) fun x2=>
 some x2
theorem c22:CC (mo 22 [jS .iOp] oB pS_l22NoOp):=mq cn ⟨[(1,⟨[],[eB 2]⟩)],[],[]⟩ Tryz.f22
def pS_l16Has (m:Nat) (a1:Int):Option (List Bool):=
 bd (α:=Int×Bool) (
 br (a1==1) (
 some (a1,a1==1)) <|
 some (a1,a1==2)) fun(x2,x3)=>
 br x3 (
 some ([false,false,false,true,true,false])) <|
 br (x2==3) (
 some ([true,true,false,false,true,false])) <|
 br (x2==5) (
 some ([true,false,false,false,false,true])) <|
 bd (α:=Int×Bool) (
 br (x2==6) (
 some (x2,x2==6)) <|
 br (x2==9) (
 some (x2,x2==9)) <|
 br (x2==12) (
 some (x2,x2==12)) <|
 some (x2,x2==13)) fun(x4,x5)=>
 br x5 (
 some ([true,true,false,false,false,false])) <|
 br (x4==10) (
 some ([true,true,true,false,false,false])) <|
 br (x4==11) (
 some ([true,false,false,true,false,false])) <|
 some ([true,false,false,false,false,false])
theorem c78:CC (mo 78 [jI] (.one (.own .bool 99)) pS_l16Has):=mq cn ⟨[],[(4,false,⟨[],[eI 3,eB 4]⟩),(13,false,⟨[],[eI 3,eB 14]⟩)],[]⟩ Tryz.f78
def pS_l16In (m:Nat) (a1:Bool) (a2 a3 a4:Int):Option Bool:=
 br (!a1) (
 some (a2==0)) <|
 bd (α:=Bool) (
 br (decide (a3<=a2)) (
 some (decide (a2<=a4))) <|
 some false) fun x5=>
 some x5
theorem c79:CC (mo 79 [.B,jI,jI,jI] oB (q4 pS_l16In)):=mq cn ⟨[(3,⟨[],[eB 8]⟩)],[],[]⟩ Tryz.f79
def pS_OpOk (m:Nat) (a1:IOp):Option Bool:=
 bd (α:=IOp×Bool) (
 br (decide (a1.Kind<1)) (
 some (a1,true)) <|
 some (a1,decide (14<a1.Kind))) fun(x2,x3)=>
 br x3 (
 some false) <|
 bd (pS_l16Has m x2.Kind) fun x4=>
 bd (α:=IOp×List Bool×Int×Int×Int) (
 br (x2.Kind==12) (
 some (x2,x4,120,1,120)) <|
 br (x2.Kind==3) (
 some (x2,x4,1000000,0,1)) <|
 br (x2.Kind==6) (
 some (x2,x4,1000000,0,255)) <|
 br (x2.Kind==10) (
 some (x2,x4,1000000,68,85)) <|
 some (x2,x4,1000000,1,1000000)) fun(x5,x6,x7,x8,x9)=>
 bd (α:=IOp×List Bool×Bool) (
 gd ((0:Int)<=(0:Int)/\(0:Int)<(↑x6.length:Int)) <|
 bd (x6[0+Int.toNat 0]?) fun x10=>
 bd (pS_l16In m x10 x5.A 1 x7) fun x11=>
 br (!x11) (
 some (x5,x6,true)) <|
 gd ((0:Int)<=(1:Int)/\(1:Int)<(↑x6.length:Int)) <|
 bd (x6[0+Int.toNat 1]?) fun x12=>
 bd (pS_l16In m x12 x5.B x8 x9) fun x13=>
 br (!x13) (
 some (x5,x6,true)) <|
 gd ((0:Int)<=(2:Int)/\(2:Int)<(↑x6.length:Int)) <|
 bd (x6[0+Int.toNat 2]?) fun x14=>
 bd (pS_l16In m x14 x5.C 1 120) fun x15=>
 br (!x15) (
 some (x5,x6,true)) <|
 gd ((0:Int)<=(5:Int)/\(5:Int)<(↑x6.length:Int)) <|
 bd (x6[0+Int.toNat 5]?) fun x16=>
 bd (pS_l16In m x16 (↑x5.Data.length:Int) 1 2000) fun x17=>
 some (x5,x6,!x17)) fun(x18,x19,x20)=>
 br x20 (
 some false) <|
 bd (α:=IOp×List Bool×Bool) (
 br (x18.Kind==10) (
 br (x18.B !=76) (
 br (x18.B !=82) (
 br (x18.B !=85) (
 some (x18,x19,x18.B !=68)) <|
 some (x18,x19,false)) <|
 some (x18,x19,false)) <|
 some (x18,x19,false)) <|
 some (x18,x19,false)) fun(x21,x22,x23)=>
 br x23 (
 some false) <|
 bd (α:=IOp×Bool) (
 gd ((0:Int)<=(3:Int)/\(3:Int)<(↑x22.length:Int)) <|
 bd (x22[0+Int.toNat 3]?) fun x24=>
 br x24 (
 bd (pS_WordOk m x21.Name) fun x25=>
 br (!x25) (
 some (x21,true)) <|
 gd ((0:Int)<=(3:Int)/\(3:Int)<(↑x22.length:Int)) <|
 bd (x22[0+Int.toNat 3]?) fun x26=>
 br (!x26) (
 br (!decide (x21.Name=ByteArray.mk #[])) (
 some (x21,true)) <|
 gd ((0:Int)<=(4:Int)/\(4:Int)<(↑x22.length:Int)) <|
 bd (x22[0+Int.toNat 4]?) fun x27=>
 br (!x27) (
 br (!decide (x21.Text=ByteArray.mk #[])) (
 some (x21,true)) <|
 some (x21,!decide (x21.Dir=ByteArray.mk #[]))) <|
 some (x21,false)) <|
 gd ((0:Int)<=(4:Int)/\(4:Int)<(↑x22.length:Int)) <|
 bd (x22[0+Int.toNat 4]?) fun x28=>
 br (!x28) (
 br (!decide (x21.Text=ByteArray.mk #[])) (
 some (x21,true)) <|
 some (x21,!decide (x21.Dir=ByteArray.mk #[]))) <|
 some (x21,false)) <|
 gd ((0:Int)<=(3:Int)/\(3:Int)<(↑x22.length:Int)) <|
 bd (x22[0+Int.toNat 3]?) fun x29=>
 br (!x29) (
 br (!decide (x21.Name=ByteArray.mk #[])) (
 some (x21,true)) <|
 gd ((0:Int)<=(4:Int)/\(4:Int)<(↑x22.length:Int)) <|
 bd (x22[0+Int.toNat 4]?) fun x30=>
 br (!x30) (
 br (!decide (x21.Text=ByteArray.mk #[])) (
 some (x21,true)) <|
 some (x21,!decide (x21.Dir=ByteArray.mk #[]))) <|
 some (x21,false)) <|
 gd ((0:Int)<=(4:Int)/\(4:Int)<(↑x22.length:Int)) <|
 bd (x22[0+Int.toNat 4]?) fun x31=>
 br (!x31) (
 br (!decide (x21.Text=ByteArray.mk #[])) (
 some (x21,true)) <|
 some (x21,!decide (x21.Dir=ByteArray.mk #[]))) <|
 some (x21,false)) fun(x32,x33)=>
 br x33 (
 some false) <|
 bd (α:=Bool) (
 br (decide ((↑x32.Text.size:Int)<=60)) (
 some (decide ((↑x32.Dir.size:Int)<=60))) <|
 some false) fun x34=>
 some x34
theorem c23:CC (mo 23 [jS .iOp] oB pS_OpOk):=mq (cs c78 (cs c79 (cs c80 cn))) ⟨[(1,⟨[(1,.ptr 200 0)],[.sto 200 .iOp [],eB 14]⟩),(20,⟨[(1,.ptr 200 0)],[.sto 200 .iOp [],eO 3 .bool 18000000,eB 65]⟩),(22,⟨[(1,.ptr 200 0)],[.sto 200 .iOp [],eO 3 .bool 18000000,eB 88]⟩),(24,⟨[(1,.ptr 200 0)],[.sto 200 .iOp [],eB 124]⟩),(26,⟨[],[eB 2]⟩)],[(20,false,⟨[(1,.ptr 200 0)],[.sto 200 .iOp [],eO 3 .bool 18000000,eI 4,eI 5,eI 6]⟩)],[]⟩ Tryz.f23
def pS_l02Used_b1 (m:Nat):Lp (Int×List IFile×Int×Int) Int:=fun(v4,v5,v6,v7)=>
 br (decide (v7<v6)) (
 gd (0<=v7/\v7<(↑v5.length:Int)) <|
 bd v5[v7.toNat]? fun x8=>
 gd (inK .i64 (v4+(↑x8.Body.length:Int))) <|
 gd (inK .i64 (v7+1)) <|
 some (.inl (v4+(↑x8.Body.length:Int),v5,v6,v7+1))) <|
 some (.inr v4)
def pS_l02Used (m:Nat) (a1:IDisk):Option Int:=
 bd (α:=Int) (
 loopF (pS_l02Used_b1 m) m (0,a1.Files,(↑a1.Files.length:Int),0)) fun x3=>
 some x3
theorem c83:CC (mo 83 [jS .iDisk] oI pS_l02Used):=mq cn ⟨[],[],[(3,false,⟨[],[eI 3,eR 7 .iFile,eI 8,eI 9]⟩,0,⟨[],[eI 3]⟩)]⟩ Tryz.f83
def pS_NameOk_b1 (m:Nat):Lp (ByteArray×Int) (ByteArray⊕Bool):=fun(v5,v6)=>
 br (decide (v6<(↑v5.size:Int))) (
 bd (α:=ByteArray×Int×Bool) (
 gd (0<=v6) <|
 bd v5[v6.toNat]? fun x7=>
 br (decide ((↑x7.toNat:Int)<97)) (
 gd (0<=v6) <|
 bd v5[v6.toNat]? fun x8=>
 br (decide ((↑x8.toNat:Int)<48)) (
 gd (0<=v6) <|
 bd v5[v6.toNat]? fun x9=>
 some (v5,v6,(↑x9.toNat:Int) !=46)) <|
 gd (0<=v6) <|
 bd v5[v6.toNat]? fun x10=>
 br (decide (57<(↑x10.toNat:Int))) (
 gd (0<=v6) <|
 bd v5[v6.toNat]? fun x11=>
 some (v5,v6,(↑x11.toNat:Int) !=46)) <|
 some (v5,v6,false)) <|
 gd (0<=v6) <|
 bd v5[v6.toNat]? fun x12=>
 br (decide (122<(↑x12.toNat:Int))) (
 gd (0<=v6) <|
 bd v5[v6.toNat]? fun x13=>
 br (decide ((↑x13.toNat:Int)<48)) (
 gd (0<=v6) <|
 bd v5[v6.toNat]? fun x14=>
 some (v5,v6,(↑x14.toNat:Int) !=46)) <|
 gd (0<=v6) <|
 bd v5[v6.toNat]? fun x15=>
 br (decide (57<(↑x15.toNat:Int))) (
 gd (0<=v6) <|
 bd v5[v6.toNat]? fun x16=>
 some (v5,v6,(↑x16.toNat:Int) !=46)) <|
 some (v5,v6,false)) <|
 some (v5,v6,false)) fun(x17,x18,x19)=>
 br x19 (
 some (.inr (.inr false))) <|
 gd (inK .i64 (x18+1)) <|
 some (.inl (x17,x18+1))) <|
 some (.inr (.inl v5))
def pS_NameOk (m:Nat) (a1:ByteArray):Option Bool:=
 jn (V:=ByteArray) (
 loopF (pS_NameOk_b1 m) m (a1,0)) fun v3=>
 bd (α:=Bool) (
 br (decide (1<=(↑v3.size:Int))) (
 some (decide ((↑v3.size:Int)<=16))) <|
 some false) fun x4=>
 some x4
theorem c84:CC (mo 84 [.S] oB pS_NameOk):=mq cn ⟨[(4,⟨[],[eS 0,eI 3,eB 37]⟩),(6,⟨[],[eB 2]⟩)],[],[(2,true,⟨[],[eS 0,eI 3]⟩,0,⟨[],[eS 0]⟩)]⟩ Tryz.f84
def pS_l02Ids_b2 (m:Nat):Lp (List Int×List ITurn×Int×Int) (List Int):=fun(v13,v14,v15,v16)=>
 br (decide (v16<v15)) (
 bd (α:=List Int×List ITurn×Int×Int) (
 gd (0<=v16/\v16<(↑v14.length:Int)) <|
 bd v14[v16.toNat]? fun x17=>
 br (x17.Kind==1) (
 gd (roomB .int (v13++ [x17.Id]).length) <|
 some (v13++ [x17.Id],v14,v15,v16)) <|
 some (v13,v14,v15,v16)) fun(x18,x19,x20,x21)=>
 gd (inK .i64 (x21+1)) <|
 some (.inl (x18,x19,x20,x21+1))) <|
 some (.inr v13)
def pS_l02Ids_b1 (m:Nat):Lp (IDisk×List Int×List ILink×Int×Int) (IDisk×List Int):=fun(v7,v8,v9,v10,v11)=>
 br (decide (v11<v10)) (
 gd (0<=v11/\v11<(↑v9.length:Int)) <|
 bd v9[v11.toNat]? fun x12=>
 gd (roomB .int (v8++ [x12.Id]).length) <|
 gd (inK .i64 (v11+1)) <|
 some (.inl (v7,v8++ [x12.Id],v9,v10,v11+1))) <|
 some (.inr (v7,v8))
def pS_l02Ids (m:Nat) (a1:IDisk):Option (List Int):=
 bd (α:=IDisk×List Int) (
 loopF (pS_l02Ids_b1 m) m (a1,[],a1.Kept,(↑a1.Kept.length:Int),0)) fun(x3,x4)=>
 bd (α:=List Int) (
 loopF (pS_l02Ids_b2 m) m (x4,x3.Turns,(↑x3.Turns.length:Int),0)) fun x6=>
 some x6
theorem c85:CC (mo 85 [jS .iDisk] (.one (.own .int 99)) pS_l02Ids):=mq cn ⟨[],[(12,false,⟨[],[eO 3 .int 900,eR 23 .iTurn,eI 24,eI 25]⟩)],[(3,false,⟨[(1,.ptr 200 0)],[.sto 200 .iDisk [],eO 3 .int 900,eR 10 .iLink,eI 11,eI 12]⟩,0,⟨[(1,.ptr 200 0)],[.sto 200 .iDisk [],eO 3 .int 900]⟩),(8,false,⟨[],[eO 3 .int 900,eR 23 .iTurn,eI 24,eI 25]⟩,2,⟨[],[eO 3 .int 900]⟩)]⟩ Tryz.f85
def pS_l02Find_b1 (m:Nat):Lp (ByteArray×List ILink×Int×Int) (Unit⊕Int):=fun(v4,v5,v6,v7)=>
 br (decide (v7<v6)) (
 gd (0<=v7/\v7<(↑v5.length:Int)) <|
 bd v5[v7.toNat]? fun x8=>
 br (decide (x8.Name=v4)) (
 some (.inr (.inr x8.Id))) <|
 gd (inK .i64 (v7+1)) <|
 some (.inl (v4,v5,v6,v7+1))) <|
 some (.inr (.inl ()))
def pS_l02Find (m:Nat) (a1:List ILink) (a2:ByteArray):Option Int:=
 jn (V:=Unit) (
 loopF (pS_l02Find_b1 m) m (a2,a1,(↑a1.length:Int),0)) fun _=>
 some 0
theorem c158:CC (mo 158 [.row .iLink,.S] oI (q2 pS_l02Find)):=mq cn ⟨[],[],[(2,true,⟨[],[eS 1,eR 7 .iLink,eI 8,eI 9]⟩,0,⟨[],[]⟩)]⟩ Tryz.f158
def pS_l02TurnOk (m:Nat) (a1:List ILink) (a2:ITurn):Option Bool:=
 bd (pS_l02Find m a1 a2.Name) fun x3=>
 bd (pS_NameOk m a2.Name) fun x4=>
 br (!x4) (
 some false) <|
 br (a2.Kind==1) (
 bd (α:=Bool) (
 br (decide (a2.To=ByteArray.mk #[])) (
 br (decide (0<a2.Id)) (
 some (!decide (0<x3))) <|
 some false) <|
 some false) fun x5=>
 some x5) <|
 br (a2.Kind==4) (
 bd (α:=Bool) (
 bd (pS_NameOk m a2.To) fun x6=>
 br x6 (
 br (!decide (a2.To=a2.Name)) (
 br (a2.Id==0) (
 some (decide (0<x3))) <|
 some false) <|
 some false) <|
 some false) fun x7=>
 some x7) <|
 br (a2.Kind==5) (
 bd (α:=Bool) (
 br (decide (a2.To=ByteArray.mk #[])) (
 br (a2.Id==0) (
 some (decide (0<x3))) <|
 some false) <|
 some false) fun x8=>
 some x8) <|
 some false
theorem c86:CC (mo 86 [.row .iLink,jS .iTurn] oB (q2 pS_l02TurnOk)):=mq (cs c158 (cs c84 cn)) ⟨[(6,⟨[],[eB 4]⟩),(8,⟨[],[eB 4]⟩),(10,⟨[],[eB 4]⟩)],[],[]⟩ Tryz.f86
def pS_l02With_b1 (m:Nat):Lp (ByteArray×Int×List ILink×Bool×List ILink×Int×Int) (ByteArray×Int×List ILink×Bool):=fun(v10,v11,v12,v13,v14,v15,v16)=>
 br (decide (v16<v15)) (
 gd (0<=v16/\v16<(↑v14.length:Int)) <|
 bd v14[v16.toNat]? fun x17=>
 bd (α:=ILink×ByteArray×Int×List ILink×Bool×List ILink×Int×Int) (
 bd (α:=ILink×ByteArray×Int×List ILink×Bool×List ILink×Int×Int×Bool) (
 br (!v13) (
 some (x17,v10,v11,v12,v13,v14,v15,v16,!(Op.bytesLess x17.Name.toList v10.toList||decide (x17.Name=v10)))) <|
 some (x17,v10,v11,v12,v13,v14,v15,v16,false)) fun(x18,x19,x20,x21,x22,x23,x24,x25,x26)=>
 br x26 (
 gd (roomB .iLink (x21++ [ILink.mk x19 x20]).length) <|
 some (x18,x19,x20,x21++ [ILink.mk x19 x20],true,x23,x24,x25)) <|
 some (x18,x19,x20,x21,x22,x23,x24,x25)) fun(x27,x28,x29,x30,x31,x32,x33,x34)=>
 gd (roomB .iLink (x30++ [x27]).length) <|
 gd (inK .i64 (x34+1)) <|
 some (.inl (x28,x29,x30++ [x27],x31,x32,x33,x34+1))) <|
 some (.inr (v10,v11,v12,v13))
def pS_l02With (m:Nat) (a1:List ILink) (a2:ByteArray) (a3:Int):Option (List ILink):=
 bd (α:=ByteArray×Int×List ILink×Bool) (
 loopF (pS_l02With_b1 m) m (a2,a3,[],false,a1,(↑a1.length:Int),0)) fun(x5,x6,x7,x8)=>
 bd (α:=List ILink) (
 br (!x8) (
 gd (roomB .iLink (x7++ [ILink.mk x5 x6]).length) <|
 some (x7++ [ILink.mk x5 x6])) <|
 some x7) fun x9=>
 some x9
theorem c162:CC (mo 162 [.row .iLink,.S,jI] (.one (.own .iLink 99)) (q3 pS_l02With)):=mq cn ⟨[(6,⟨[(10,.ptr 1100 0)],[.sto 1100 .iLink [],eS 1,eI 2,eO 7 .iLink 1200,eB 8,eR 12 .iLink,eI 13,eI 14,eB 25]⟩)],[(9,false,⟨[(10,.ptr 1100 0)],[.sto 1100 .iLink [],eS 1,eI 2,eO 7 .iLink 1200,eB 8,eR 12 .iLink,eI 13,eI 14]⟩),(13,false,⟨[],[eO 7 .iLink 1200]⟩)],[(4,false,⟨[],[eS 1,eI 2,eO 7 .iLink 1200,eB 8,eR 12 .iLink,eI 13,eI 14]⟩,0,⟨[],[eS 1,eI 2,eO 7 .iLink 1200,eB 8]⟩)]⟩ Tryz.f162
def pS_l02Less_b1 (m:Nat):Lp (ByteArray×List ILink×List ILink×Int×Int) (List ILink):=fun(v5,v6,v7,v8,v9)=>
 br (decide (v9<v8)) (
 bd (α:=ByteArray×List ILink×List ILink×Int×Int) (
 gd (0<=v9/\v9<(↑v7.length:Int)) <|
 bd v7[v9.toNat]? fun x10=>
 br (!decide (x10.Name=v5)) (
 gd (roomB .iLink (v6++ [x10]).length) <|
 some (v5,v6++ [x10],v7,v8,v9)) <|
 some (v5,v6,v7,v8,v9)) fun(x11,x12,x13,x14,x15)=>
 gd (inK .i64 (x15+1)) <|
 some (.inl (x11,x12,x13,x14,x15+1))) <|
 some (.inr v6)
def pS_l02Less (m:Nat) (a1:List ILink) (a2:ByteArray):Option (List ILink):=
 bd (α:=List ILink) (
 loopF (pS_l02Less_b1 m) m (a2,[],a1,(↑a1.length:Int),0)) fun x4=>
 some x4
theorem c163:CC (mo 163 [.row .iLink,.S] (.one (.own .iLink 99)) (q2 pS_l02Less)):=mq cn ⟨[],[(7,false,⟨[],[eS 1,eO 5 .iLink 900,eR 9 .iLink,eI 10,eI 11]⟩)],[(3,false,⟨[],[eS 1,eO 5 .iLink 900,eR 9 .iLink,eI 10,eI 11]⟩,0,⟨[],[eO 5 .iLink 900]⟩)]⟩ Tryz.f163
def pS_l02Turn (m:Nat) (a1:List ILink) (a2:ITurn):Option (List ILink):=
 br (a2.Kind==1) (
 bd (pS_l02With m a1 a2.Name a2.Id) fun x3=>
 some x3) <|
 bd (pS_l02Find m a1 a2.Name) fun x4=>
 bd (pS_l02Less m a1 a2.Name) fun x5=>
 bd (α:=List ILink) (
 br (a2.Kind==4) (
 bd (pS_l02Less m x5 a2.To) fun x6=>
 bd (pS_l02With m x6 a2.To x4) fun x7=>
 some x7) <|
 some x5) fun x8=>
 some x8
theorem c87:CC (mo 87 [.row .iLink,jS .iTurn] (.one (.own .iLink 99)) (q2 pS_l02Turn)):=mq (cs c162 (cs c158 (cs c163 cn))) ⟨[],[(7,false,⟨[],[eO 0 .iLink 34000000]⟩)],[]⟩ Tryz.f87
def pS_DiskOk_b4 (m:Nat):Lp (List ILink×List ITurn×Int×Int) (Unit⊕Bool):=fun(v57,v58,v59,v60)=>
 br (decide (v60<v59)) (
 gd (0<=v60/\v60<(↑v58.length:Int)) <|
 bd v58[v60.toNat]? fun x61=>
 bd (pS_l02TurnOk m v57 x61) fun x62=>
 br (!x62) (
 some (.inr (.inr false))) <|
 bd (pS_l02Turn m v57 x61) fun x63=>
 gd (inK .i64 (v60+1)) <|
 some (.inl (x63,v58,v59,v60+1))) <|
 some (.inr (.inl ()))
def pS_DiskOk_b3 (m:Nat):Lp (IDisk×List Int×List Int×Int×Int) (IDisk⊕Bool):=fun(v43,v44,v45,v46,v47)=>
 br (decide (v47<v46)) (
 gd (0<=v47/\v47<(↑v45.length:Int)) <|
 bd (v45[0+v47.toNat]?) fun x48=>
 bd (α:=IDisk×List Int×List Int×Int×Int×Bool) (
 gd (0<=v47/\v47<=(↑v45.length:Int)) <|
 bd (pS_l02HasInt m (viewL false v45 (0+0) (v47.toNat-0)) x48) fun x49=>
 br x49 (
 some (v43,v44,v45,v46,v47,true)) <|
 bd (pS_l02HasInt m v44 x48) fun x50=>
 some (v43,v44,v45,v46,v47,!x50)) fun(x51,x52,x53,x54,x55,x56)=>
 br x56 (
 some (.inr (.inr false))) <|
 gd (inK .i64 (x55+1)) <|
 some (.inl (x51,x52,x53,x54,x55+1))) <|
 some (.inr (.inl v43))
def pS_DiskOk_b2 (m:Nat):Lp (IDisk×List Int×List ILink×Int×Int) (IDisk×List Int⊕Bool):=fun(v29,v30,v31,v32,v33)=>
 br (decide (v33<v32)) (
 gd (0<=v33/\v33<(↑v31.length:Int)) <|
 bd v31[v33.toNat]? fun x34=>
 bd (α:=IDisk×List Int×List ILink×Int×Int×Bool) (
 bd (pS_NameOk m x34.Name) fun x35=>
 br (!x35) (
 some (v29,v30,v31,v32,v33,true)) <|
 br (decide (0<v33)) (
 gd (inK .i64 (v33-1)) <|
 gd (0<=v33-1/\v33-1<(↑v29.Kept.length:Int)) <|
 bd (v29.Kept[(v33-1).toNat]?) fun x36=>
 some (v29,v30,v31,v32,v33,!Op.bytesLess x36.Name.toList x34.Name.toList)) <|
 some (v29,v30,v31,v32,v33,false)) fun(x37,x38,x39,x40,x41,x42)=>
 br x42 (
 some (.inr (.inr false))) <|
 gd (inK .i64 (x41+1)) <|
 some (.inl (x37,x38,x39,x40,x41+1))) <|
 some (.inr (.inl (v29,v30)))
def pS_DiskOk_b1 (m:Nat):Lp (IDisk×List Int×List IFile×Int×Int) (IDisk×List Int⊕Bool):=fun(v15,v16,v17,v18,v19)=>
 br (decide (v19<v18)) (
 gd (0<=v19/\v19<(↑v17.length:Int)) <|
 bd v17[v19.toNat]? fun x20=>
 bd (α:=IDisk×IFile×List Int×List IFile×Int×Int×Bool) (
 br (decide (x20.Id<1)) (
 some (v15,x20,v16,v17,v18,v19,true)) <|
 br (decide (v15.Next<=x20.Id)) (
 some (v15,x20,v16,v17,v18,v19,true)) <|
 br (decide (0<v19)) (
 gd (inK .i64 (v19-1)) <|
 gd (0<=v19-1/\v19-1<(↑v15.Files.length:Int)) <|
 bd (v15.Files[(v19-1).toNat]?) fun x21=>
 br (decide (x20.Id<=x21.Id)) (
 some (v15,x20,v16,v17,v18,v19,true)) <|
 br (decide (x20.Safe<0)) (
 some (v15,x20,v16,v17,v18,v19,true)) <|
 some (v15,x20,v16,v17,v18,v19,decide ((↑x20.Body.length:Int)<x20.Safe))) <|
 br (decide (x20.Safe<0)) (
 some (v15,x20,v16,v17,v18,v19,true)) <|
 some (v15,x20,v16,v17,v18,v19,decide ((↑x20.Body.length:Int)<x20.Safe))) fun(x22,x23,x24,x25,x26,x27,x28)=>
 br x28 (
 some (.inr (.inr false))) <|
 gd (roomB .int (x24++ [x23.Id]).length) <|
 gd (inK .i64 (x27+1)) <|
 some (.inl (x22,x24++ [x23.Id],x25,x26,x27+1))) <|
 some (.inr (.inl (v15,v16)))
def pS_DiskOk (m:Nat) (a1:IDisk):Option Bool:=
 bd (α:=IDisk×Bool) (
 br (decide (a1.Room<0)) (
 some (a1,true)) <|
 br (decide (400000<a1.Room)) (
 some (a1,true)) <|
 br (decide (a1.Fuse< -1)) (
 some (a1,true)) <|
 br (decide (1000<a1.Fuse)) (
 some (a1,true)) <|
 br (decide (a1.Next<1)) (
 some (a1,true)) <|
 br (decide (1000000<a1.Next)) (
 some (a1,true)) <|
 br (decide (10<(↑a1.Files.length:Int))) (
 some (a1,true)) <|
 br (decide (10<(↑a1.Kept.length:Int))) (
 some (a1,true)) <|
 br (decide (30<(↑a1.Turns.length:Int))) (
 some (a1,true)) <|
 bd (pS_l02Used m a1) fun x2=>
 some (a1,decide (a1.Room<x2))) fun(x3,x4)=>
 br x4 (
 some false) <|
 jn (V:=IDisk×List Int) (
 loopF (pS_DiskOk_b1 m) m (x3,[],x3.Files,(↑x3.Files.length:Int),0)) fun(v6,v7)=>
 jn (V:=IDisk×List Int) (
 loopF (pS_DiskOk_b2 m) m (v6,v7,v6.Kept,(↑v6.Kept.length:Int),0)) fun(v9,v10)=>
 bd (pS_l02Ids m v9) fun x11=>
 br ((↑x11.length:Int) !=(↑v10.length:Int)) (
 some false) <|
 jn (V:=IDisk) (
 loopF (pS_DiskOk_b3 m) m (v9,v10,x11,(↑x11.length:Int),0)) fun v13=>
 jn (V:=Unit) (
 loopF (pS_DiskOk_b4 m) m (v13.Kept,v13.Turns,(↑v13.Turns.length:Int),0)) fun _=>
 some true
theorem c27:CC (mo 27 [jS .iDisk] oB pS_DiskOk):=mq (cs c83 (cs c84 (cs c85 (cs c77 (cs c86 (cs c87 cn)))))) ⟨[(1,⟨[(1,.ptr 200 0)],[.sto 200 .iDisk [],eB 66]⟩),(7,⟨[(1,.ptr 200 0),(5,.ptr 600 0)],[.sto 200 .iDisk [],.sto 600 .iFile [],eO 3 .int 6800,eR 69 .iFile,eI 70,eI 71,eB 114]⟩),(14,⟨[(1,.ptr 200 0)],[.sto 200 .iDisk [],eO 3 .int 6800,eR 122 .iLink,eI 123,eI 124,eB 148]⟩),(23,⟨[(1,.ptr 200 0),(157,.ref 152000000)],[.sto 200 .iDisk [],eO 3 .int 6800,eO 8 .int 152000000,eI 158,eI 159,eB 174]⟩)],[],[(5,true,⟨[(1,.ptr 200 0)],[.sto 200 .iDisk [],eO 3 .int 6800,eR 69 .iFile,eI 70,eI 71]⟩,0,⟨[(1,.ptr 200 0)],[.sto 200 .iDisk [],eO 3 .int 6800]⟩),(12,true,⟨[(1,.ptr 200 0)],[.sto 200 .iDisk [],eO 3 .int 6800,eR 122 .iLink,eI 123,eI 124]⟩,2,⟨[(1,.ptr 200 0)],[.sto 200 .iDisk [],eO 3 .int 6800]⟩),(21,true,⟨[(1,.ptr 200 0),(157,.ref 152000000)],[.sto 200 .iDisk [],eO 3 .int 6800,eO 8 .int 152000000,eI 158,eI 159]⟩,4,⟨[(1,.ptr 200 0)],[.sto 200 .iDisk []]⟩),(28,true,⟨[],[eR 11 .iLink,eR 179 .iTurn,eI 180,eI 181]⟩,6,⟨[],[]⟩)]⟩ Tryz.f27
def pS_l02Dir_b1 (m:Nat):Lp (IDisk×Int×List ILink×Int) (List ILink):=fun(v5,v6,v7,v8)=>
 br (decide (v8<v6)) (
 gd (0<=v8/\v8<(↑v5.Turns.length:Int)) <|
 bd v5.Turns[v8.toNat]? fun x9=>
 bd (pS_l02Turn m v7 x9) fun x10=>
 gd (inK .i64 (v8+1)) <|
 some (.inl (v5,v6,x10,v8+1))) <|
 some (.inr v7)
def pS_l02Dir (m:Nat) (a1:IDisk) (a2:Int):Option (List ILink):=
 gd (roomB .iLink ([]++a1.Kept).length) <|
 bd (α:=List ILink) (
 loopF (pS_l02Dir_b1 m) m (a1,a2,[]++a1.Kept,0)) fun x4=>
 some x4
theorem c225:CC (mo 225 [jS .iDisk,jI] (.one (.own .iLink 99)) (q2 pS_l02Dir)):=mq (cs c87 cn) ⟨[],[],[(3,false,⟨[(2,.ptr 300 0)],[.sto 300 .iDisk [],eI 1,eO 5 .iLink 800,eI 6]⟩,0,⟨[],[eO 5 .iLink 800]⟩)]⟩ Tryz.f225
def pS_DiskDir (m:Nat) (a1:IDisk):Option (List ILink):=
 bd (pS_DiskOk m a1) fun x2=>
 br (!x2) (
 some []) <|
 bd (pS_l02Dir m a1 (↑a1.Turns.length:Int)) fun x3=>
 some x3
theorem c159:CC (mo 159 [jS .iDisk] (.one (.own .iLink 99)) pS_DiskDir):=mq (cs c27 (cs c225 cn)) tn Tryz.f159
def pS_l02At_b1 (m:Nat):Lp (Int×List IFile×Int×Int) (Unit⊕Int):=fun(v4,v5,v6,v7)=>
 br (decide (v7<v6)) (
 gd (0<=v7/\v7<(↑v5.length:Int)) <|
 bd v5[v7.toNat]? fun x8=>
 br (x8.Id==v4) (
 some (.inr (.inr v7))) <|
 gd (inK .i64 (v7+1)) <|
 some (.inl (v4,v5,v6,v7+1))) <|
 some (.inr (.inl ()))
def pS_l02At (m:Nat) (a1:IDisk) (a2:Int):Option Int:=
 jn (V:=Unit) (
 loopF (pS_l02At_b1 m) m (a2,a1.Files,(↑a1.Files.length:Int),0)) fun _=>
 some (-1)
theorem c160:CC (mo 160 [jS .iDisk,jI] oI (q2 pS_l02At)):=mq cn ⟨[],[],[(2,true,⟨[],[eI 1,eR 8 .iFile,eI 9,eI 10]⟩,0,⟨[],[]⟩)]⟩ Tryz.f160
def pS_DiskRead (m:Nat) (a1:IDisk) (a2:ByteArray):Option (List UInt8×Bool):=
 bd (pS_DiskDir m a1) fun x3=>
 bd (pS_l02Find m x3 a2) fun x4=>
 br (x4==0) (
 some ([],false)) <|
 bd (pS_l02At m a1 x4) fun x5=>
 gd (0<=x5/\x5<(↑a1.Files.length:Int)) <|
 bd a1.Files[x5.toNat]? fun x6=>
 gd (roomB .u8 ([]++x6.Body).length) <|
 some ([]++x6.Body,true)
theorem c81:CC (mo 81 [jS .iDisk,.S] (.tup [.own .u8 99,.B]) (q2 pS_DiskRead)):=mq (cs c159 (cs c158 (cs c160 cn))) tn Tryz.f81
def pS_l01Num (m:Nat) (a1:Int):Option Bool:=
 bd (α:=Bool) (
 br (decide (0<=a1)) (
 some (decide (a1<=4294967295))) <|
 some false) fun x2=>
 some x2
theorem c268:CC (mo 268 [jI] oB pS_l01Num):=mq cn ⟨[(1,⟨[],[eB 2]⟩)],[],[]⟩ Tryz.f268
def pS_NumText (m:Nat) (slf:Int->Option ByteArray):Int->Option ByteArray:=fun a1=>
 bd (pS_l01Num m a1) fun x2=>
 br (!x2) (
 some (ByteArray.mk #[])) <|
 br (decide (a1<10)) (
 gd (inK .i64 (48+a1)) <|
 some (ByteArray.mk #[UInt8.ofNat (IntKind.u8.wrap (48+a1)).toNat])) <|
 gd ((10:Int)≠(0:Int)) <|
 gd (inK .i64 (a1.tdiv 10)) <|
 bd (slf (a1.tdiv 10)) fun x3=>
 gd ((10:Int)≠(0:Int)) <|
 gd (inK .i64 (48+a1.tmod 10)) <|
 gd (x3.size+(ByteArray.mk #[UInt8.ofNat (IntKind.u8.wrap (48+a1.tmod 10)).toNat]).size<=9223372036854775807) <|
 some (x3++ByteArray.mk #[UInt8.ofNat (IntKind.u8.wrap (48+a1.tmod 10)).toNat])
def o226 (m:Nat):Orc:=⟨226,[none],[.I .i64],0,(.one .S),recF (pS_NumText m) m⟩
theorem c226 {E:World->Prop} (hcl:Cl G E) (m:Nat):Ctr Tryz.prog G E (o226 m):=Ctr.rec (fun slf h=>Ctr.mk (o:=⟨226,[none],[.I .i64],0,(.one .S),pS_NumText m slf⟩) (csc h (csc (c268 hcl m) csn)) facts mixed hcl.cl tn m (fn:=Tryz.f226) (by kernel_rfl) rfl (by kernel_rfl) (fun _=>by kernel_rfl) (fun _ _=>by kernel_rfl) (fun _=>by kernel_rfl)) m
def pS_l04Name (m:Nat) (a1:ByteArray) (a2:Int):Option ByteArray:=
 bd (α:=ByteArray×Int×Bool) (
 br (decide (a2<1)) (
 some (a1,a2,true)) <|
 some (a1,a2,decide (1000000000<a2))) fun(x3,x4,x5)=>
 br x5 (
 some (ByteArray.mk #[])) <|
 bd (recF (pS_NumText m) m x4) fun x6=>
 gd (x3.size+x6.size<=9223372036854775807) <|
 some (x3++x6)
theorem c161:CC (mo 161 [.S,jI] (.one .S) (q2 pS_l04Name)):=mq (cs c226 cn) ⟨[(1,⟨[],[eS 0,eI 1,eB 10]⟩)],[],[]⟩ Tryz.f161
def pS_LogName (m:Nat) (a1:Int):Option ByteArray:=
 bd (pS_l04Name m (ByteArray.mk #[108,111,103,46]) a1) fun x2=>
 some x2
theorem c82:CC (mo 82 [jI] (.one .S) pS_LogName):=mq (cs c161 cn) tn Tryz.f82
def pS_DepotOk (m:Nat) (a1:IDepot):Option Bool:=
 bd (α:=IDepot×Bool) (
 bd (pS_DiskOk m a1.Disk) fun x2=>
 br (!x2) (
 some (a1,true)) <|
 br (decide (a1.Gen<1)) (
 some (a1,true)) <|
 br (decide (1000000000<a1.Gen)) (
 some (a1,true)) <|
 br (decide (a1.Seq<1)) (
 some (a1,true)) <|
 br (decide (1000000001<a1.Seq)) (
 some (a1,true)) <|
 some (a1,decide (a1.Size<0))) fun(x3,x4)=>
 br x4 (
 some false) <|
 bd (α:=IDepot×Bool) (
 br (x3.Disk.Fuse==0) (
 some (x3,true)) <|
 some (x3,x3.Stuck)) fun(x5,x6)=>
 br x6 (
 some true) <|
 bd (pS_LogName m x5.Gen) fun x7=>
 bd (pS_DiskRead m x5.Disk x7) fun(x8,x9)=>
 bd (α:=Bool) (
 br x9 (
 some ((↑x8.length:Int)==x5.Size)) <|
 some false) fun x10=>
 some x10
theorem c24:CC (mo 24 [jS .iDepot] oB pS_DepotOk):=mq (cs c27 (cs c82 (cs c81 cn))) ⟨[(1,⟨[(1,.ptr 200 0)],[.sto 200 .iDepot [],eB 33]⟩),(3,⟨[(1,.ptr 200 0)],[.sto 200 .iDepot [],eB 41]⟩),(6,⟨[],[eB 2]⟩)],[],[]⟩ Tryz.f24
def pS_l22NoDisk (m:Nat) (a1:IDisk):Option Bool:=
 bd (α:=Bool) (
 br (a1.Room==0) (
 br (a1.Fuse==0) (
 br (a1.Next==0) (
 br ((↑a1.Files.length:Int)==0) (
 br ((↑a1.Kept.length:Int)==0) (
 some ((↑a1.Turns.length:Int)==0)) <|
 some false) <|
 some false) <|
 some false) <|
 some false) <|
 some false) fun x2=>
 some x2
theorem c25:CC (mo 25 [jS .iDisk] oB pS_l22NoDisk):=mq cn ⟨[(1,⟨[],[eB 2]⟩)],[],[]⟩ Tryz.f25
def pS_l22NoState (m:Nat) (a1:IState):Option Bool:=
 bd (α:=Bool) (
 br (a1.W==0) (
 br (a1.H==0) (
 br (a1.Limit==0) (
 br (a1.Next==0) (
 br ((↑a1.Panes.length:Int)==0) (
 br ((↑a1.Wins.length:Int)==0) (
 some ((↑a1.Sess.length:Int)==0)) <|
 some false) <|
 some false) <|
 some false) <|
 some false) <|
 some false) <|
 some false) fun x2=>
 some x2
theorem c26:CC (mo 26 [jS .iState] oB pS_l22NoState):=mq cn ⟨[(1,⟨[],[eB 2]⟩)],[],[]⟩ Tryz.f26
def pS_SrvOk_b1 (m:Nat):Lp (ISrv×List IHist×Int×Int) (ISrv⊕Bool):=fun(v18,v19,v20,v21)=>
 br (decide (v21<v20)) (
 gd (0<=v21/\v21<(↑v19.length:Int)) <|
 bd v19[v21.toNat]? fun x22=>
 bd (α:=ISrv×List IHist×Int×Int×Bool) (
 br x22.Lost (
 bd (pS_l22NoOp m x22.Op) fun x23=>
 br (!x23) (
 some (v18,v19,v20,v21,true)) <|
 br (!x22.Lost) (
 bd (pS_OpOk m x22.Op) fun x24=>
 some (v18,v19,v20,v21,!x24)) <|
 some (v18,v19,v20,v21,false)) <|
 br (!x22.Lost) (
 bd (pS_OpOk m x22.Op) fun x25=>
 some (v18,v19,v20,v21,!x25)) <|
 some (v18,v19,v20,v21,false)) fun(x26,x27,x28,x29,x30)=>
 br x30 (
 some (.inr (.inr false))) <|
 gd (inK .i64 (x29+1)) <|
 some (.inl (x26,x27,x28,x29+1))) <|
 some (.inr (.inl v18))
def pS_SrvOk (m:Nat) (a1:ISrv):Option Bool:=
 bd (α:=ISrv×Bool) (
 bd (pS_StateOk m a1.Base) fun x2=>
 br (!x2) (
 some (a1,true)) <|
 br (decide (0<(↑a1.Base.Panes.length:Int))) (
 some (a1,true)) <|
 br (decide (a1.Top<0)) (
 some (a1,true)) <|
 br (decide (400000<a1.Top)) (
 some (a1,true)) <|
 bd (pS_TableOk m a1.Tab) fun x3=>
 br (!x3) (
 some (a1,true)) <|
 br (decide (a1.Sure<0)) (
 some (a1,true)) <|
 bd (pS_OpsOf m a1.Done) fun x4=>
 some (a1,decide (x4<a1.Sure))) fun(x5,x6)=>
 br x6 (
 some false) <|
 jn (V:=ISrv) (
 loopF (pS_SrvOk_b1 m) m (x5,x5.Done,(↑x5.Done.length:Int),0)) fun v8=>
 br v8.Up (
 bd (α:=Bool) (
 bd (pS_StateOk m v8.St) fun x9=>
 br x9 (
 bd (pS_DepotOk m v8.Dep) fun x10=>
 br x10 (
 bd (pS_l22NoDisk m v8.Disk) fun x11=>
 br x11 (
 bd (pS_OpsOf m v8.Done) fun x12=>
 gd (inK .i64 (x12+1)) <|
 some (v8.Dep.Seq==x12+1)) <|
 some false) <|
 some false) <|
 some false) fun x13=>
 some x13) <|
 bd (α:=Bool) (
 bd (pS_l22NoState m v8.St) fun x14=>
 br x14 (
 bd (pS_l22NoDisk m v8.Dep.Disk) fun x15=>
 br x15 (
 br (v8.Dep.Gen==0) (
 br (v8.Dep.Seq==0) (
 br (v8.Dep.Size==0) (
 br (!v8.Dep.Stuck) (
 bd (pS_DiskOk m v8.Disk) fun x16=>
 br x16 (
 some ((↑v8.Tab.Live.length:Int)==0)) <|
 some false) <|
 some false) <|
 some false) <|
 some false) <|
 some false) <|
 some false) <|
 some false) fun x17=>
 some x17
theorem c6:CC (mo 6 [jS .iSrv] oB pS_SrvOk):=mq (cs c19 (cs c20 (cs c21 (cs c22 (cs c23 (cs c24 (cs c25 (cs c26 (cs c27 cn))))))))) ⟨[(1,⟨[(1,.ptr 200 0)],[.sto 200 .iSrv [],eB 44]⟩),(6,⟨[(1,.ptr 200 0)],[.sto 200 .iSrv [],eR 46 .iHist,eI 47,eI 48,eB 70]⟩),(10,⟨[],[eB 2]⟩),(11,⟨[],[eB 2]⟩)],[],[(4,true,⟨[(1,.ptr 200 0)],[.sto 200 .iSrv [],eR 46 .iHist,eI 47,eI 48]⟩,0,⟨[(1,.ptr 200 0)],[.sto 200 .iSrv []]⟩)]⟩ Tryz.f6
def pL_toIntS_b1 (m:Nat):Lp (List Int×List Int×Int) (List Int):=fun(v4,v5,v6)=>
 br (decide (v6<(↑v4.length:Int))) (
 gd (0<=v6/\v6<(↑v4.length:Int)) <|
 bd v4[v6.toNat]? fun x7=>
 gd (0<=v6/\v6<(↑v5.length:Int)) <|
 bd (v5[0+v6.toNat]?) fun x8=>
 gd (inK .i64 (v6+1)) <|
 some (.inl (v4,v5.set (0+v6.toNat) x7,v6+1))) <|
 some (.inr v5)
def pL_toIntS (m:Nat) (a1:List Int):Option (List Int):=
 gd (0<=(↑a1.length:Int)/\(↑a1.length:Int)<=(↑a1.length:Int)) <|
 gd (roomB .int (↑a1.length:Int).toNat) <|
 bd (α:=List Int) (
 loopF (pL_toIntS_b1 m) m (a1,List.replicate (↑a1.length:Int).toNat (zK K.int),0)) fun x3=>
 some x3
theorem c229:CC (mo 229 [.row .int] (.one (.own .int 99)) pL_toIntS):=mq cn ⟨[],[],[(3,false,⟨[],[eR 0 .int,eO 3 .int 800,eI 4]⟩,0,⟨[],[eO 3 .int 800]⟩)]⟩ Tryz.f229
def pL_toByteS_b1 (m:Nat):Lp (List UInt8×List UInt8×Int) (List UInt8):=fun(v4,v5,v6)=>
 br (decide (v6<(↑v4.length:Int))) (
 gd (0<=v6/\v6<(↑v4.length:Int)) <|
 bd v4[v6.toNat]? fun x7=>
 gd (0<=v6/\v6<(↑v5.length:Int)) <|
 bd (v5[0+v6.toNat]?) fun x8=>
 gd (inK .i64 (v6+1)) <|
 some (.inl (v4,v5.set (0+v6.toNat) (UInt8.ofNat (↑x7.toNat:Int).toNat),v6+1))) <|
 some (.inr v5)
def pL_toByteS (m:Nat) (a1:List UInt8):Option (List UInt8):=
 gd (0<=(↑a1.length:Int)/\(↑a1.length:Int)<=(↑a1.length:Int)) <|
 gd (roomB .u8 (↑a1.length:Int).toNat) <|
 bd (α:=List UInt8) (
 loopF (pL_toByteS_b1 m) m (a1,List.replicate (↑a1.length:Int).toNat (zK K.u8),0)) fun x3=>
 some x3
theorem c230:CC (mo 230 [.row .u8] (.one (.own .u8 99)) pL_toByteS):=mq cn ⟨[],[],[(3,false,⟨[],[eR 0 .u8,eO 3 .u8 800,eI 4]⟩,0,⟨[],[eO 3 .u8 800]⟩)]⟩ Tryz.f230
def pL_toVp (m:Nat) (a1:LVp):Option IVp:=
 bd (pL_toIntS m a1.Args) fun x2=>
 bd (pL_toByteS m a1.Part) fun x3=>
 some (IVp.mk a1.State a1.Mark x2 x3)
theorem c269:CC (mo 269 [jS .lVp] (.one (.st .iVp [(2,99),(3,99)])) pL_toVp):=mq (cs c229 (cs c230 cn)) tn Tryz.f269
def pL_toAttr (m:Nat) (a1:LAttr):Option IAttr:=
 some (IAttr.mk a1.Fg a1.Bg a1.Bold a1.Under a1.Turn)
theorem c310:CC (mo 310 [jS .lAttr] (.one (jS .iAttr)) pL_toAttr):=mq cn tn Tryz.f310
def pL_toCell (m:Nat) (a1:LCell):Option ICell:=
 bd (pL_toAttr m a1.A) fun x2=>
 some (ICell.mk a1.R x2)
theorem c362:CC (mo 362 [jS .lCell] (.one (jS .iCell)) pL_toCell):=mq (cs c310 cn) tn Tryz.f362
def pL_toCellS_b1 (m:Nat):Lp (List LCell×List ICell×Int) (List ICell):=fun(v4,v5,v6)=>
 br (decide (v6<(↑v4.length:Int))) (
 gd (0<=v6/\v6<(↑v4.length:Int)) <|
 bd v4[v6.toNat]? fun x7=>
 bd (pL_toCell m x7) fun x8=>
 gd (0<=v6/\v6<(↑v5.length:Int)) <|
 bd (v5[0+v6.toNat]?) fun x9=>
 gd (inK .i64 (v6+1)) <|
 some (.inl (v4,v5.set (0+v6.toNat) x8,v6+1))) <|
 some (.inr v5)
def pL_toCellS (m:Nat) (a1:List LCell):Option (List ICell):=
 gd (0<=(↑a1.length:Int)/\(↑a1.length:Int)<=(↑a1.length:Int)) <|
 gd (roomB .iCell (↑a1.length:Int).toNat) <|
 bd (α:=List ICell) (
 loopF (pL_toCellS_b1 m) m (a1,List.replicate (↑a1.length:Int).toNat (zK K.iCell),0)) fun x3=>
 some x3
theorem c341:CC (mo 341 [.row .lCell] (.one (.own .iCell 99)) pL_toCellS):=mq (cs c362 cn) ⟨[],[],[(3,false,⟨[],[eR 0 .lCell,eO 3 .iCell 800,eI 4]⟩,0,⟨[],[eO 3 .iCell 800]⟩)]⟩ Tryz.f341
def pL_toGrid (m:Nat) (a1:LGrid):Option IGrid:=
 bd (pL_toCellS m a1.Cells) fun x2=>
 some (IGrid.mk a1.W a1.H x2)
theorem c309:CC (mo 309 [jS .lGrid] (.one (.st .iGrid [(2,99)])) pL_toGrid):=mq (cs c341 cn) tn Tryz.f309
def pL_toRow (m:Nat) (a1:LRow):Option IRow:=
 bd (pL_toCellS m a1.Cells) fun x2=>
 some (IRow.mk x2)
theorem c342:CC (mo 342 [jS .lRow] (.one (.st .iRow [(0,99)])) pL_toRow):=mq (cs c341 cn) tn Tryz.f342
def pL_toRowS_b1 (m:Nat):Lp (List LRow×List IRow×Int) (List IRow):=fun(v4,v5,v6)=>
 br (decide (v6<(↑v4.length:Int))) (
 gd (0<=v6/\v6<(↑v4.length:Int)) <|
 bd v4[v6.toNat]? fun x7=>
 bd (pL_toRow m x7) fun x8=>
 gd (0<=v6/\v6<(↑v5.length:Int)) <|
 bd (v5[0+v6.toNat]?) fun x9=>
 gd (inK .i64 (v6+1)) <|
 some (.inl (v4,v5.set (0+v6.toNat) x8,v6+1))) <|
 some (.inr v5)
def pL_toRowS (m:Nat) (a1:List LRow):Option (List IRow):=
 gd (0<=(↑a1.length:Int)/\(↑a1.length:Int)<=(↑a1.length:Int)) <|
 gd (roomB .iRow (↑a1.length:Int).toNat) <|
 bd (α:=List IRow) (
 loopF (pL_toRowS_b1 m) m (a1,List.replicate (↑a1.length:Int).toNat (zK K.iRow),0)) fun x3=>
 some x3
theorem c311:CC (mo 311 [.row .lRow] (.one (.own .iRow dB)) pL_toRowS):=mq (cs c342 cn) ⟨[],[],[(3,false,⟨[],[eR 0 .lRow,eO 3 .iRow 1000000800,eI 4]⟩,0,⟨[],[eO 3 .iRow 1000000800]⟩)]⟩ Tryz.f311
def pL_toScr (m:Nat) (a1:LScr):Option IScr:=
 bd (pL_toGrid m a1.Main) fun x2=>
 bd (pL_toGrid m a1.Alt) fun x3=>
 bd (pL_toAttr m a1.A) fun x4=>
 bd (pL_toAttr m a1.SaveA) fun x5=>
 bd (pL_toIntS m a1.Tabs) fun x6=>
 bd (pL_toRowS m a1.Back) fun x7=>
 some (IScr.mk a1.W a1.H x2 x3 a1.OnAlt a1.X a1.Y a1.Wrap x4 a1.Top a1.Bot a1.NoWrap a1.Hide a1.SaveX a1.SaveY x5 x6 a1.Limit x7)
theorem c270:CC (mo 270 [jS .lScr] (.one (.st .iScr [(4,99),(7,99),(28,99),(30,dB)])) pL_toScr):=mq (cs c309 (cs c310 (cs c229 (cs c311 cn)))) tn Tryz.f270
def pL_toTerm (m:Nat) (a1:LTerm):Option ITerm:=
 bd (pL_toVp m a1.P) fun x2=>
 bd (pL_toScr m a1.S) fun x3=>
 some (ITerm.mk x2 x3)
theorem c227:CC (mo 227 [jS .lTerm] (.one (.st .iTerm [(2,99),(3,99),(8,99),(11,99),(32,99),(34,dB)])) pL_toTerm):=mq (cs c269 (cs c270 cn)) tn Tryz.f227
def pL_toPane (m:Nat) (a1:LPane):Option IPane:=
 bd (pL_toTerm m a1.Term) fun x2=>
 some (IPane.mk a1.Id a1.Cmd a1.Dir a1.Life a1.Code a1.Pid x2)
theorem c164:CC (mo 164 [jS .lPane] (.one (.st .iPane [(8,99),(9,99),(14,99),(17,99),(38,99),(40,dB)])) pL_toPane):=mq (cs c227 cn) tn Tryz.f164
def pL_toPaneS_b1 (m:Nat):Lp (List LPane×List IPane×Int) (List IPane):=fun(v4,v5,v6)=>
 br (decide (v6<(↑v4.length:Int))) (
 gd (0<=v6/\v6<(↑v4.length:Int)) <|
 bd v4[v6.toNat]? fun x7=>
 bd (pL_toPane m x7) fun x8=>
 gd (0<=v6/\v6<(↑v5.length:Int)) <|
 bd (v5[0+v6.toNat]?) fun x9=>
 gd (inK .i64 (v6+1)) <|
 some (.inl (v4,v5.set (0+v6.toNat) x8,v6+1))) <|
 some (.inr v5)
def pL_toPaneS (m:Nat) (a1:List LPane):Option (List IPane):=
 gd (0<=(↑a1.length:Int)/\(↑a1.length:Int)<=(↑a1.length:Int)) <|
 gd (roomB .iPane (↑a1.length:Int).toNat) <|
 bd (α:=List IPane) (
 loopF (pL_toPaneS_b1 m) m (a1,List.replicate (↑a1.length:Int).toNat (zK K.iPane),0)) fun x3=>
 some x3
theorem c88:CC (mo 88 [.row .lPane] (.one (.own .iPane dB)) pL_toPaneS):=mq (cs c164 cn) ⟨[],[],[(3,false,⟨[],[eR 0 .lPane,eO 3 .iPane 1000000800,eI 4]⟩,0,⟨[],[eO 3 .iPane 1000000800]⟩)]⟩ Tryz.f88
def pL_toNode (m:Nat) (a1:LNode):Option INode:=
 some (INode.mk a1.Pane a1.Down a1.First)
theorem c271:CC (mo 271 [jS .lNode] (.one (jS .iNode)) pL_toNode):=mq cn tn Tryz.f271
def pL_toNodeS_b1 (m:Nat):Lp (List LNode×List INode×Int) (List INode):=fun(v4,v5,v6)=>
 br (decide (v6<(↑v4.length:Int))) (
 gd (0<=v6/\v6<(↑v4.length:Int)) <|
 bd v4[v6.toNat]? fun x7=>
 bd (pL_toNode m x7) fun x8=>
 gd (0<=v6/\v6<(↑v5.length:Int)) <|
 bd (v5[0+v6.toNat]?) fun x9=>
 gd (inK .i64 (v6+1)) <|
 some (.inl (v4,v5.set (0+v6.toNat) x8,v6+1))) <|
 some (.inr v5)
def pL_toNodeS (m:Nat) (a1:List LNode):Option (List INode):=
 gd (0<=(↑a1.length:Int)/\(↑a1.length:Int)<=(↑a1.length:Int)) <|
 gd (roomB .iNode (↑a1.length:Int).toNat) <|
 bd (α:=List INode) (
 loopF (pL_toNodeS_b1 m) m (a1,List.replicate (↑a1.length:Int).toNat (zK K.iNode),0)) fun x3=>
 some x3
theorem c228:CC (mo 228 [.row .lNode] (.one (.own .iNode 99)) pL_toNodeS):=mq (cs c271 cn) ⟨[],[],[(3,false,⟨[],[eR 0 .lNode,eO 3 .iNode 800,eI 4]⟩,0,⟨[],[eO 3 .iNode 800]⟩)]⟩ Tryz.f228
def pL_toWin (m:Nat) (a1:LWin):Option IWin:=
 bd (pL_toNodeS m a1.Tree) fun x2=>
 some (IWin.mk a1.Id a1.Name x2 a1.Active a1.Zoom)
theorem c165:CC (mo 165 [jS .lWin] (.one (.st .iWin [(2,99)])) pL_toWin):=mq (cs c228 cn) tn Tryz.f165
def pL_toWinS_b1 (m:Nat):Lp (List LWin×List IWin×Int) (List IWin):=fun(v4,v5,v6)=>
 br (decide (v6<(↑v4.length:Int))) (
 gd (0<=v6/\v6<(↑v4.length:Int)) <|
 bd v4[v6.toNat]? fun x7=>
 bd (pL_toWin m x7) fun x8=>
 gd (0<=v6/\v6<(↑v5.length:Int)) <|
 bd (v5[0+v6.toNat]?) fun x9=>
 gd (inK .i64 (v6+1)) <|
 some (.inl (v4,v5.set (0+v6.toNat) x8,v6+1))) <|
 some (.inr v5)
def pL_toWinS (m:Nat) (a1:List LWin):Option (List IWin):=
 gd (0<=(↑a1.length:Int)/\(↑a1.length:Int)<=(↑a1.length:Int)) <|
 gd (roomB .iWin (↑a1.length:Int).toNat) <|
 bd (α:=List IWin) (
 loopF (pL_toWinS_b1 m) m (a1,List.replicate (↑a1.length:Int).toNat (zK K.iWin),0)) fun x3=>
 some x3
theorem c89:CC (mo 89 [.row .lWin] (.one (.own .iWin dB)) pL_toWinS):=mq (cs c165 cn) ⟨[],[],[(3,false,⟨[],[eR 0 .lWin,eO 3 .iWin 1000000800,eI 4]⟩,0,⟨[],[eO 3 .iWin 1000000800]⟩)]⟩ Tryz.f89
def pL_toSess (m:Nat) (a1:LSess):Option ISess:=
 bd (pL_toIntS m a1.Wins) fun x2=>
 some (ISess.mk a1.Name x2 a1.Active)
theorem c166:CC (mo 166 [jS .lSess] (.one (.st .iSess [(1,99)])) pL_toSess):=mq (cs c229 cn) tn Tryz.f166
def pL_toSessS_b1 (m:Nat):Lp (List LSess×List ISess×Int) (List ISess):=fun(v4,v5,v6)=>
 br (decide (v6<(↑v4.length:Int))) (
 gd (0<=v6/\v6<(↑v4.length:Int)) <|
 bd v4[v6.toNat]? fun x7=>
 bd (pL_toSess m x7) fun x8=>
 gd (0<=v6/\v6<(↑v5.length:Int)) <|
 bd (v5[0+v6.toNat]?) fun x9=>
 gd (inK .i64 (v6+1)) <|
 some (.inl (v4,v5.set (0+v6.toNat) x8,v6+1))) <|
 some (.inr v5)
def pL_toSessS (m:Nat) (a1:List LSess):Option (List ISess):=
 gd (0<=(↑a1.length:Int)/\(↑a1.length:Int)<=(↑a1.length:Int)) <|
 gd (roomB .iSess (↑a1.length:Int).toNat) <|
 bd (α:=List ISess) (
 loopF (pL_toSessS_b1 m) m (a1,List.replicate (↑a1.length:Int).toNat (zK K.iSess),0)) fun x3=>
 some x3
theorem c90:CC (mo 90 [.row .lSess] (.one (.own .iSess dB)) pL_toSessS):=mq (cs c166 cn) ⟨[],[],[(3,false,⟨[],[eR 0 .lSess,eO 3 .iSess 1000000800,eI 4]⟩,0,⟨[],[eO 3 .iSess 1000000800]⟩)]⟩ Tryz.f90
def pL_toState (m:Nat) (a1:LState):Option IState:=
 bd (pL_toPaneS m a1.Panes) fun x2=>
 bd (pL_toWinS m a1.Wins) fun x3=>
 bd (pL_toSessS m a1.Sess) fun x4=>
 some (IState.mk a1.W a1.H a1.Limit a1.Next x2 x3 x4)
theorem c28:CC (mo 28 [jS .lState] (.one (.st .iState [(4,dB),(5,dB),(6,dB)])) pL_toState):=mq (cs c88 (cs c89 (cs c90 cn))) tn Tryz.f28
def pL_toFile (m:Nat) (a1:LFile):Option IFile:=
 bd (pL_toByteS m a1.Body) fun x2=>
 some (IFile.mk a1.Id x2 a1.Safe)
theorem c167:CC (mo 167 [jS .lFile] (.one (.st .iFile [(1,99)])) pL_toFile):=mq (cs c230 cn) tn Tryz.f167
def pL_toFileS_b1 (m:Nat):Lp (List LFile×List IFile×Int) (List IFile):=fun(v4,v5,v6)=>
 br (decide (v6<(↑v4.length:Int))) (
 gd (0<=v6/\v6<(↑v4.length:Int)) <|
 bd v4[v6.toNat]? fun x7=>
 bd (pL_toFile m x7) fun x8=>
 gd (0<=v6/\v6<(↑v5.length:Int)) <|
 bd (v5[0+v6.toNat]?) fun x9=>
 gd (inK .i64 (v6+1)) <|
 some (.inl (v4,v5.set (0+v6.toNat) x8,v6+1))) <|
 some (.inr v5)
def pL_toFileS (m:Nat) (a1:List LFile):Option (List IFile):=
 gd (0<=(↑a1.length:Int)/\(↑a1.length:Int)<=(↑a1.length:Int)) <|
 gd (roomB .iFile (↑a1.length:Int).toNat) <|
 bd (α:=List IFile) (
 loopF (pL_toFileS_b1 m) m (a1,List.replicate (↑a1.length:Int).toNat (zK K.iFile),0)) fun x3=>
 some x3
theorem c91:CC (mo 91 [.row .lFile] (.one (.own .iFile dB)) pL_toFileS):=mq (cs c167 cn) ⟨[],[],[(3,false,⟨[],[eR 0 .lFile,eO 3 .iFile 1000000800,eI 4]⟩,0,⟨[],[eO 3 .iFile 1000000800]⟩)]⟩ Tryz.f91
def pL_toLink (m:Nat) (a1:LLink):Option ILink:=
 some (ILink.mk a1.Name a1.Id)
theorem c168:CC (mo 168 [jS .lLink] (.one (jS .iLink)) pL_toLink):=mq cn tn Tryz.f168
def pL_toLinkS_b1 (m:Nat):Lp (List LLink×List ILink×Int) (List ILink):=fun(v4,v5,v6)=>
 br (decide (v6<(↑v4.length:Int))) (
 gd (0<=v6/\v6<(↑v4.length:Int)) <|
 bd v4[v6.toNat]? fun x7=>
 bd (pL_toLink m x7) fun x8=>
 gd (0<=v6/\v6<(↑v5.length:Int)) <|
 bd (v5[0+v6.toNat]?) fun x9=>
 gd (inK .i64 (v6+1)) <|
 some (.inl (v4,v5.set (0+v6.toNat) x8,v6+1))) <|
 some (.inr v5)
def pL_toLinkS (m:Nat) (a1:List LLink):Option (List ILink):=
 gd (0<=(↑a1.length:Int)/\(↑a1.length:Int)<=(↑a1.length:Int)) <|
 gd (roomB .iLink (↑a1.length:Int).toNat) <|
 bd (α:=List ILink) (
 loopF (pL_toLinkS_b1 m) m (a1,List.replicate (↑a1.length:Int).toNat (zK K.iLink),0)) fun x3=>
 some x3
theorem c92:CC (mo 92 [.row .lLink] (.one (.own .iLink 99)) pL_toLinkS):=mq (cs c168 cn) ⟨[],[],[(3,false,⟨[],[eR 0 .lLink,eO 3 .iLink 800,eI 4]⟩,0,⟨[],[eO 3 .iLink 800]⟩)]⟩ Tryz.f92
def pL_toTurn (m:Nat) (a1:LTurn):Option ITurn:=
 some (ITurn.mk a1.Kind a1.Name a1.To a1.Id)
theorem c169:CC (mo 169 [jS .lTurn] (.one (jS .iTurn)) pL_toTurn):=mq cn tn Tryz.f169
def pL_toTurnS_b1 (m:Nat):Lp (List LTurn×List ITurn×Int) (List ITurn):=fun(v4,v5,v6)=>
 br (decide (v6<(↑v4.length:Int))) (
 gd (0<=v6/\v6<(↑v4.length:Int)) <|
 bd v4[v6.toNat]? fun x7=>
 bd (pL_toTurn m x7) fun x8=>
 gd (0<=v6/\v6<(↑v5.length:Int)) <|
 bd (v5[0+v6.toNat]?) fun x9=>
 gd (inK .i64 (v6+1)) <|
 some (.inl (v4,v5.set (0+v6.toNat) x8,v6+1))) <|
 some (.inr v5)
def pL_toTurnS (m:Nat) (a1:List LTurn):Option (List ITurn):=
 gd (0<=(↑a1.length:Int)/\(↑a1.length:Int)<=(↑a1.length:Int)) <|
 gd (roomB .iTurn (↑a1.length:Int).toNat) <|
 bd (α:=List ITurn) (
 loopF (pL_toTurnS_b1 m) m (a1,List.replicate (↑a1.length:Int).toNat (zK K.iTurn),0)) fun x3=>
 some x3
theorem c93:CC (mo 93 [.row .lTurn] (.one (.own .iTurn 99)) pL_toTurnS):=mq (cs c169 cn) ⟨[],[],[(3,false,⟨[],[eR 0 .lTurn,eO 3 .iTurn 800,eI 4]⟩,0,⟨[],[eO 3 .iTurn 800]⟩)]⟩ Tryz.f93
def pL_toDisk (m:Nat) (a1:LDisk):Option IDisk:=
 bd (pL_toFileS m a1.Files) fun x2=>
 bd (pL_toLinkS m a1.Kept) fun x3=>
 bd (pL_toTurnS m a1.Turns) fun x4=>
 some (IDisk.mk a1.Room a1.Fuse a1.Next x2 x3 x4)
theorem c30:CC (mo 30 [jS .lDisk] (.one (.st .iDisk [(3,dB),(4,99),(5,99)])) pL_toDisk):=mq (cs c91 (cs c92 (cs c93 cn))) tn Tryz.f30
def pL_toDepot (m:Nat) (a1:LDepot):Option IDepot:=
 bd (pL_toDisk m a1.Disk) fun x2=>
 some (IDepot.mk x2 a1.Gen a1.Seq a1.Size a1.Stuck)
theorem c29:CC (mo 29 [jS .lDepot] (.one (.st .iDepot [(3,dB),(4,99),(5,99)])) pL_toDepot):=mq (cs c30 cn) tn Tryz.f29
def pL_toProc (m:Nat) (a1:LProc):Option IProc:=
 some (IProc.mk a1.Pid a1.Pane)
theorem c170:CC (mo 170 [jS .lProc] (.one (jS .iProc)) pL_toProc):=mq cn tn Tryz.f170
def pL_toProcS_b1 (m:Nat):Lp (List LProc×List IProc×Int) (List IProc):=fun(v4,v5,v6)=>
 br (decide (v6<(↑v4.length:Int))) (
 gd (0<=v6/\v6<(↑v4.length:Int)) <|
 bd v4[v6.toNat]? fun x7=>
 bd (pL_toProc m x7) fun x8=>
 gd (0<=v6/\v6<(↑v5.length:Int)) <|
 bd (v5[0+v6.toNat]?) fun x9=>
 gd (inK .i64 (v6+1)) <|
 some (.inl (v4,v5.set (0+v6.toNat) x8,v6+1))) <|
 some (.inr v5)
def pL_toProcS (m:Nat) (a1:List LProc):Option (List IProc):=
 gd (0<=(↑a1.length:Int)/\(↑a1.length:Int)<=(↑a1.length:Int)) <|
 gd (roomB .iProc (↑a1.length:Int).toNat) <|
 bd (α:=List IProc) (
 loopF (pL_toProcS_b1 m) m (a1,List.replicate (↑a1.length:Int).toNat (zK K.iProc),0)) fun x3=>
 some x3
theorem c94:CC (mo 94 [.row .lProc] (.one (.own .iProc 99)) pL_toProcS):=mq (cs c170 cn) ⟨[],[],[(3,false,⟨[],[eR 0 .lProc,eO 3 .iProc 800,eI 4]⟩,0,⟨[],[eO 3 .iProc 800]⟩)]⟩ Tryz.f94
def pL_toAsk (m:Nat) (a1:LAsk):Option IAsk:=
 some (IAsk.mk a1.Pane a1.Cmd a1.Dir a1.W a1.H a1.Pid)
theorem c171:CC (mo 171 [jS .lAsk] (.one (jS .iAsk)) pL_toAsk):=mq cn tn Tryz.f171
def pL_toAskS_b1 (m:Nat):Lp (List LAsk×List IAsk×Int) (List IAsk):=fun(v4,v5,v6)=>
 br (decide (v6<(↑v4.length:Int))) (
 gd (0<=v6/\v6<(↑v4.length:Int)) <|
 bd v4[v6.toNat]? fun x7=>
 bd (pL_toAsk m x7) fun x8=>
 gd (0<=v6/\v6<(↑v5.length:Int)) <|
 bd (v5[0+v6.toNat]?) fun x9=>
 gd (inK .i64 (v6+1)) <|
 some (.inl (v4,v5.set (0+v6.toNat) x8,v6+1))) <|
 some (.inr v5)
def pL_toAskS (m:Nat) (a1:List LAsk):Option (List IAsk):=
 gd (0<=(↑a1.length:Int)/\(↑a1.length:Int)<=(↑a1.length:Int)) <|
 gd (roomB .iAsk (↑a1.length:Int).toNat) <|
 bd (α:=List IAsk) (
 loopF (pL_toAskS_b1 m) m (a1,List.replicate (↑a1.length:Int).toNat (zK K.iAsk),0)) fun x3=>
 some x3
theorem c95:CC (mo 95 [.row .lAsk] (.one (.own .iAsk 99)) pL_toAskS):=mq (cs c171 cn) ⟨[],[],[(3,false,⟨[],[eR 0 .lAsk,eO 3 .iAsk 800,eI 4]⟩,0,⟨[],[eO 3 .iAsk 800]⟩)]⟩ Tryz.f95
def pL_toTable (m:Nat) (a1:LTable):Option ITable:=
 bd (pL_toProcS m a1.Live) fun x2=>
 bd (pL_toAskS m a1.Asked) fun x3=>
 some (ITable.mk a1.Next x2 x3)
theorem c31:CC (mo 31 [jS .lTable] (.one (.st .iTable [(1,99),(2,99)])) pL_toTable):=mq (cs c94 (cs c95 cn)) tn Tryz.f31
def pL_toOp (m:Nat) (a1:LOp):Option IOp:=
 bd (pL_toByteS m a1.Data) fun x2=>
 some (IOp.mk a1.Kind a1.A a1.B a1.C a1.Name a1.Text a1.Dir x2)
theorem c172:CC (mo 172 [jS .lOp] (.one (.st .iOp [(7,99)])) pL_toOp):=mq (cs c230 cn) tn Tryz.f172
def pL_toHist (m:Nat) (a1:LHist):Option IHist:=
 bd (pL_toOp m a1.Op) fun x2=>
 some (IHist.mk a1.Lost x2)
theorem c96:CC (mo 96 [jS .lHist] (.one (.st .iHist [(8,99)])) pL_toHist):=mq (cs c172 cn) tn Tryz.f96
def pL_toHistS_b1 (m:Nat):Lp (List LHist×List IHist×Int) (List IHist):=fun(v4,v5,v6)=>
 br (decide (v6<(↑v4.length:Int))) (
 gd (0<=v6/\v6<(↑v4.length:Int)) <|
 bd v4[v6.toNat]? fun x7=>
 bd (pL_toHist m x7) fun x8=>
 gd (0<=v6/\v6<(↑v5.length:Int)) <|
 bd (v5[0+v6.toNat]?) fun x9=>
 gd (inK .i64 (v6+1)) <|
 some (.inl (v4,v5.set (0+v6.toNat) x8,v6+1))) <|
 some (.inr v5)
def pL_toHistS (m:Nat) (a1:List LHist):Option (List IHist):=
 gd (0<=(↑a1.length:Int)/\(↑a1.length:Int)<=(↑a1.length:Int)) <|
 gd (roomB .iHist (↑a1.length:Int).toNat) <|
 bd (α:=List IHist) (
 loopF (pL_toHistS_b1 m) m (a1,List.replicate (↑a1.length:Int).toNat (zK K.iHist),0)) fun x3=>
 some x3
theorem c32:CC (mo 32 [.row .lHist] (.one (.own .iHist dB)) pL_toHistS):=mq (cs c96 cn) ⟨[],[],[(3,false,⟨[],[eR 0 .lHist,eO 3 .iHist 1000000800,eI 4]⟩,0,⟨[],[eO 3 .iHist 1000000800]⟩)]⟩ Tryz.f32
def pL_toSrv (m:Nat) (a1:LSrv):Option ISrv:=
 bd (pL_toState m a1.Base) fun x2=>
 bd (pL_toState m a1.St) fun x3=>
 bd (pL_toDepot m a1.Dep) fun x4=>
 bd (pL_toDisk m a1.Disk) fun x5=>
 bd (pL_toTable m a1.Tab) fun x6=>
 bd (pL_toHistS m a1.Done) fun x7=>
 some (ISrv.mk x2 a1.Top a1.Up x3 x4 x5 x6 a1.Sure x7)
theorem c7:CC (mo 7 [jS .lSrv] (.one (.st .iSrv [(4,dB),(5,dB),(6,dB),(13,dB),(14,dB),(15,dB),(19,dB),(20,99),(21,99),(29,dB),(30,99),(31,99),(33,99),(34,99),(36,dB)])) pL_toSrv):=mq (cs c28 (cs c29 (cs c30 (cs c31 (cs c32 cn))))) tn Tryz.f7
def pI_within (m:Nat) (a1 a2 a3:Int):Option Bool:=
 bd (α:=Bool) (
 br (decide (a2<=a1)) (
 some (decide (a1<=a3))) <|
 some false) fun x4=>
 some x4
theorem c34:CC (mo 34 [jI,jI,jI] oB (q3 pI_within)):=mq cn ⟨[(1,⟨[],[eB 6]⟩)],[],[]⟩ Tryz.f34
def pI_isSize (m:Nat) (a1 a2:Int):Option Bool:=
 bd (α:=Bool) (
 bd (pI_within m a1 1 120) fun x3=>
 br x3 (
 bd (pI_within m a2 1 120) fun x4=>
 br x4 (
 gd (inK .i64 (a1*a2)) <|
 some (decide (a1*a2<=4000))) <|
 some false) <|
 some false) fun x5=>
 some x5
theorem c97:CC (mo 97 [jI,jI] oB (q2 pI_isSize)):=mq (cs c34 cn) ⟨[(1,⟨[],[eB 4]⟩)],[],[]⟩ Tryz.f97
def pI_isId (m:Nat) (a1:Int):Option Bool:=
 bd (pI_within m a1 1 1000000) fun x2=>
 some x2
theorem c98:CC (mo 98 [jI] oB pI_isId):=mq (cs c34 cn) tn Tryz.f98
def pI_isCmd (m:Nat) (a1:ByteArray):Option Bool:=
 some (decide ((↑a1.size:Int)<=60))
theorem c186:CC (mo 186 [.S] oB pI_isCmd):=mq cn tn Tryz.f186
def pI_tails_b1 (m:Nat):Lp (Int×List UInt8×Int×Int) (Int⊕Int×Bool):=fun(v4,v5,v6,v7)=>
 br (decide (v7<v6)) (
 gd (0<=v7/\v7<(↑v5.length:Int)) <|
 bd v5[v7.toNat]? fun x8=>
 gd ((64:Int)≠(0:Int)) <|
 br (IntKind.u8.wrap ((↑x8.toNat:Int).tdiv 64) !=(2:Int)) (
 some (.inr (.inr (0,false)))) <|
 gd (inK .i64 (64*v4)) <|
 gd ((64:Int)≠(0:Int)) <|
 gd (inK .i64 (64*v4+(↑x8.toNat:Int).tmod 64)) <|
 gd (inK .i64 (v7+1)) <|
 some (.inl (64*v4+(↑x8.toNat:Int).tmod 64,v5,v6,v7+1))) <|
 some (.inr (.inl v4))
def pI_tails (m:Nat) (a1:List UInt8):Option (Int×Bool):=
 jn (V:=Int) (
 loopF (pI_tails_b1 m) m (0,a1,(↑a1.length:Int),0)) fun v3=>
 some (v3,true)
theorem c343:CC (mo 343 [.row .u8] (.tup [jI,.B]) pI_tails):=mq cn ⟨[],[],[(3,true,⟨[],[eI 4,eR 7 .u8,eI 8,eI 9]⟩,0,⟨[],[eI 4]⟩)]⟩ Tryz.f343
def pI_Shows (m:Nat) (a1:Int):Option Bool:=
 bd (α:=Bool) (
 bd (pI_within m a1 32 126) fun x2=>
 br x2 (
 some true) <|
 bd (pI_within m a1 160 65535) fun x3=>
 br x3 (
 bd (pI_within m a1 55296 57343) fun x4=>
 some (!x4)) <|
 some false) fun x5=>
 some x5
theorem c344:CC (mo 344 [jI] oB pI_Shows):=mq (cs c34 cn) ⟨[(1,⟨[],[eB 2]⟩)],[],[]⟩ Tryz.f344
def pI_RuneBegin (m:Nat) (a1:List UInt8):Option Bool:=
 br ((↑a1.length:Int)==1) (
 gd ((0:Int)<=(0:Int)/\(0:Int)<(↑a1.length:Int)) <|
 bd (a1[Int.toNat 0]?) fun x2=>
 bd (pI_within m (↑x2.toNat:Int) 194 239) fun x3=>
 some x3) <|
 br ((↑a1.length:Int)==2) (
 gd ((0:Int)<=(1:Int)/\(1:Int)<=(↑a1.length:Int)) <|
 bd (pI_tails m (List.drop (Int.toNat 1) a1)) fun(x4,x5)=>
 gd ((0:Int)<=(0:Int)/\(0:Int)<(↑a1.length:Int)) <|
 bd (a1[Int.toNat 0]?) fun x6=>
 gd (inK .i64 ((↑x6.toNat:Int)-224)) <|
 gd (inK .i64 (((↑x6.toNat:Int)-224)*4096)) <|
 gd (inK .i64 (x4*64)) <|
 gd (inK .i64 (((↑x6.toNat:Int)-224)*4096+x4*64)) <|
 bd (α:=Bool) (
 br x5 (
 gd ((0:Int)<=(0:Int)/\(0:Int)<(↑a1.length:Int)) <|
 bd (a1[Int.toNat 0]?) fun x7=>
 br (decide (224<=(↑x7.toNat:Int))) (
 br (decide (2048<=((↑x6.toNat:Int)-224)*4096+x4*64)) (
 bd (pI_Shows m (((↑x6.toNat:Int)-224)*4096+x4*64)) fun x8=>
 some x8) <|
 some false) <|
 some false) <|
 some false) fun x9=>
 some x9) <|
 some false
theorem c312:CC (mo 312 [.row .u8] oB pI_RuneBegin):=mq (cs c34 (cs c343 (cs c344 cn))) ⟨[(7,⟨[],[eB 2]⟩)],[],[]⟩ Tryz.f312
def pI_areArgs_1 (m:Nat) (a1:Int):Option Bool:=
 bd (pI_within m a1 0 9999) fun x2=>
 some (!x2)
theorem c346:CC (mo 346 [jI] oB pI_areArgs_1):=mq (cs c34 cn) tn Tryz.f346
def pG_slices_IndexFunc_int_I_areArgs_1_b1 (m:Nat):Lp (List Int×Int×Int) (Unit⊕Int):=fun(v3,v4,v5)=>
 br (decide (v5<v4)) (
 gd (0<=v5/\v5<(↑v3.length:Int)) <|
 bd v3[v5.toNat]? fun x6=>
 bd (pI_areArgs_1 m x6) fun x7=>
 br x7 (
 some (.inr (.inr v5))) <|
 gd (inK .i64 (v5+1)) <|
 some (.inl (v3,v4,v5+1))) <|
 some (.inr (.inl ()))
def pG_slices_IndexFunc_int_I_areArgs_1 (m:Nat) (a1:List Int):Option Int:=
 jn (V:=Unit) (
 loopF (pG_slices_IndexFunc_int_I_areArgs_1_b1 m) m (a1,(↑a1.length:Int),0)) fun _=>
 some (-1)
theorem c1036300:CC (mx 363 [none,some (.fn 346 [])] [.row .int] 0 oI pG_slices_IndexFunc_int_I_areArgs_1):=mq (cs c346 cn) ⟨[],[],[(2,true,⟨[(1,.fn 346 [])],[eR 0 .int,eI 7,eI 8]⟩,0,⟨[],[]⟩)]⟩ Tryz.f363
def pG_slices_ContainsFunc_int_I_areArgs_1 (m:Nat) (a1:List Int):Option Bool:=
 bd (pG_slices_IndexFunc_int_I_areArgs_1 m a1) fun x2=>
 some (decide (0<=x2))
theorem c1034500:CC (mx 345 [none,some (.fn 346 [])] [.row .int] 0 oB pG_slices_ContainsFunc_int_I_areArgs_1):=mq (cs c1036300 cn) tn Tryz.f345
def pI_areArgs (m:Nat) (a1:List Int):Option Bool:=
 bd (α:=Bool) (
 br (decide ((↑a1.length:Int)<=8)) (
 bd (pG_slices_ContainsFunc_int_I_areArgs_1 m a1) fun x2=>
 some (!x2)) <|
 some false) fun x3=>
 some x3
theorem c313:CC (mo 313 [.row .int] oB pI_areArgs):=mq (cs c1034500 cn) ⟨[(1,⟨[],[eB 2]⟩)],[],[]⟩ Tryz.f313
def pI_VpOk (m:Nat) (a1:IVp):Option Bool:=
 br (a1.State==0) (
 bd (α:=Bool) (
 br (!a1.Mark) (
 br ((↑a1.Args.length:Int)==0) (
 br ((↑a1.Part.length:Int)==0) (
 some true) <|
 bd (pI_RuneBegin m a1.Part) fun x2=>
 some x2) <|
 some false) <|
 some false) fun x3=>
 some x3) <|
 br (a1.State==1) (
 bd (α:=Bool) (
 br (!a1.Mark) (
 br ((↑a1.Args.length:Int)==0) (
 some ((↑a1.Part.length:Int)==0)) <|
 some false) <|
 some false) fun x4=>
 some x4) <|
 bd (α:=IVp×Bool) (
 br (a1.State==2) (
 some (a1,a1.State==2)) <|
 some (a1,a1.State==3)) fun(x5,x6)=>
 br x6 (
 bd (α:=Bool) (
 bd (pI_areArgs m x5.Args) fun x7=>
 br x7 (
 some ((↑x5.Part.length:Int)==0)) <|
 some false) fun x8=>
 some x8) <|
 some false
theorem c272:CC (mo 272 [jS .iVp] oB pI_VpOk):=mq (cs c312 (cs c313 cn)) ⟨[(3,⟨[],[eB 2]⟩),(5,⟨[],[eB 2]⟩),(8,⟨[],[eB 2]⟩)],[(8,false,⟨[(1,.ptr 200 0)],[.sto 200 .iVp [],eB 44]⟩)],[]⟩ Tryz.f272
def pI_AttrOk (m:Nat) (a1:IAttr):Option Bool:=
 bd (α:=Bool) (
 bd (pI_within m a1.Fg 0 8) fun x2=>
 br x2 (
 bd (pI_within m a1.Bg 0 8) fun x3=>
 some x3) <|
 some false) fun x4=>
 some x4
theorem c316:CC (mo 316 [jS .iAttr] oB pI_AttrOk):=mq (cs c34 cn) ⟨[(1,⟨[],[eB 2]⟩)],[],[]⟩ Tryz.f316
def pI_CellOk (m:Nat) (a1:ICell):Option Bool:=
 bd (α:=Bool) (
 bd (pI_Shows m a1.R) fun x2=>
 br x2 (
 bd (pI_AttrOk m a1.A) fun x3=>
 some x3) <|
 some false) fun x4=>
 some x4
theorem c366:CC (mo 366 [jS .iCell] oB pI_CellOk):=mq (cs c344 (cs c316 cn)) ⟨[(1,⟨[],[eB 2]⟩)],[],[]⟩ Tryz.f366
def pI_areCells_1 (m:Nat) (a1:ICell):Option Bool:=
 bd (pI_CellOk m a1) fun x2=>
 some (!x2)
theorem c365:CC (mo 365 [jS .iCell] oB pI_areCells_1):=mq (cs c366 cn) tn Tryz.f365
def pG_slices_IndexFunc_ICell_I_areCells_1_b1 (m:Nat):Lp (List ICell×Int×Int) (Unit⊕Int):=fun(v3,v4,v5)=>
 br (decide (v5<v4)) (
 gd (0<=v5/\v5<(↑v3.length:Int)) <|
 bd v3[v5.toNat]? fun x6=>
 bd (pI_areCells_1 m x6) fun x7=>
 br x7 (
 some (.inr (.inr v5))) <|
 gd (inK .i64 (v5+1)) <|
 some (.inl (v3,v4,v5+1))) <|
 some (.inr (.inl ()))
def pG_slices_IndexFunc_ICell_I_areCells_1 (m:Nat) (a1:List ICell):Option Int:=
 jn (V:=Unit) (
 loopF (pG_slices_IndexFunc_ICell_I_areCells_1_b1 m) m (a1,(↑a1.length:Int),0)) fun _=>
 some (-1)
theorem c1037400:CC (mx 374 [none,some (.fn 365 [])] [.row .iCell] 0 oI pG_slices_IndexFunc_ICell_I_areCells_1):=mq (cs c365 cn) ⟨[],[],[(2,true,⟨[(1,.fn 365 [])],[eR 0 .iCell,eI 7,eI 8]⟩,0,⟨[],[]⟩)]⟩ Tryz.f374
def pG_slices_ContainsFunc_ICell_I_areCells_1 (m:Nat) (a1:List ICell):Option Bool:=
 bd (pG_slices_IndexFunc_ICell_I_areCells_1 m a1) fun x2=>
 some (decide (0<=x2))
theorem c1036400:CC (mx 364 [none,some (.fn 365 [])] [.row .iCell] 0 oB pG_slices_ContainsFunc_ICell_I_areCells_1):=mq (cs c1037400 cn) tn Tryz.f364
def pI_areCells (m:Nat) (a1:List ICell):Option Bool:=
 bd (pG_slices_ContainsFunc_ICell_I_areCells_1 m a1) fun x2=>
 some (!x2)
theorem c347:CC (mo 347 [.row .iCell] oB pI_areCells):=mq (cs c1036400 cn) tn Tryz.f347
def pI_GridOk (m:Nat) (a1:IGrid):Option Bool:=
 bd (α:=Bool) (
 bd (pI_isSize m a1.W a1.H) fun x2=>
 br x2 (
 gd (inK .i64 (a1.W*a1.H)) <|
 br ((↑a1.Cells.length:Int)==a1.W*a1.H) (
 bd (pI_areCells m a1.Cells) fun x3=>
 some x3) <|
 some false) <|
 some false) fun x4=>
 some x4
theorem c314:CC (mo 314 [jS .iGrid] oB pI_GridOk):=mq (cs c97 (cs c347 cn)) ⟨[(1,⟨[],[eB 2]⟩)],[],[]⟩ Tryz.f314
def pI_Grid_has (m:Nat) (a1:IGrid) (a2 a3:Int):Option Bool:=
 bd (α:=Bool) (
 gd (inK .i64 (a1.W-1)) <|
 bd (pI_within m a2 0 (a1.W-1)) fun x4=>
 br x4 (
 gd (inK .i64 (a1.H-1)) <|
 bd (pI_within m a3 0 (a1.H-1)) fun x5=>
 some x5) <|
 some false) fun x6=>
 some x6
theorem c315:CC (mo 315 [jS .iGrid,jI,jI] oB (q3 pI_Grid_has)):=mq (cs c34 cn) ⟨[(1,⟨[],[eB 6]⟩)],[],[]⟩ Tryz.f315
def pI_isAscending_b1 (m:Nat):Lp (List Int×Int×Int×List Int×Int×Int) (Unit⊕Bool):=fun(v5,v6,v7,v8,v9,v10)=>
 br (decide (v10<v9)) (
 gd (0<=v10/\v10<(↑v8.length:Int)) <|
 bd v8[v10.toNat]? fun x11=>
 bd (α:=List Int×Int×Int×List Int×Int×Int×Bool) (
 bd (pI_within m x11 v6 v7) fun x12=>
 br (!x12) (
 some (v5,v6,v7,v8,v9,v10,true)) <|
 br (decide (0<v10)) (
 gd (inK .i64 (v10-1)) <|
 gd (0<=v10-1/\v10-1<(↑v5.length:Int)) <|
 bd (v5[(v10-1).toNat]?) fun x13=>
 some (v5,v6,v7,v8,v9,v10,decide (x11<=x13))) <|
 some (v5,v6,v7,v8,v9,v10,false)) fun(x14,x15,x16,x17,x18,x19,x20)=>
 br x20 (
 some (.inr (.inr false))) <|
 gd (inK .i64 (x19+1)) <|
 some (.inl (x14,x15,x16,x17,x18,x19+1))) <|
 some (.inr (.inl ()))
def pI_isAscending (m:Nat) (a1:List Int) (a2 a3:Int):Option Bool:=
 jn (V:=Unit) (
 loopF (pI_isAscending_b1 m) m (a1,a2,a3,a1,(↑a1.length:Int),0)) fun _=>
 some true
theorem c317:CC (mo 317 [.row .int,jI,jI] oB (q3 pI_isAscending)):=mq (cs c34 cn) ⟨[(4,⟨[],[eR 0 .int,eI 1,eI 2,eR 9 .int,eI 10,eI 11,eB 33]⟩)],[],[(2,true,⟨[],[eR 0 .int,eI 1,eI 2,eR 9 .int,eI 10,eI 11]⟩,0,⟨[],[]⟩)]⟩ Tryz.f317
def pI_backOk_1 (m:Nat) (a1:IRow):Option Bool:=
 bd (α:=Bool) (
 bd (pI_within m (↑a1.Cells.length:Int) 1 120) fun x2=>
 br (!x2) (
 some true) <|
 bd (pI_areCells m a1.Cells) fun x3=>
 some (!x3)) fun x4=>
 some x4
theorem c349:CC (mo 349 [jS .iRow] oB pI_backOk_1):=mq (cs c34 (cs c347 cn)) ⟨[(1,⟨[],[eB 2]⟩)],[],[]⟩ Tryz.f349
def pG_slices_IndexFunc_IRow_I_backOk_1_b1 (m:Nat):Lp (List IRow×Int×Int) (Unit⊕Int):=fun(v3,v4,v5)=>
 br (decide (v5<v4)) (
 gd (0<=v5/\v5<(↑v3.length:Int)) <|
 bd v3[v5.toNat]? fun x6=>
 bd (pI_backOk_1 m x6) fun x7=>
 br x7 (
 some (.inr (.inr v5))) <|
 gd (inK .i64 (v5+1)) <|
 some (.inl (v3,v4,v5+1))) <|
 some (.inr (.inl ()))
def pG_slices_IndexFunc_IRow_I_backOk_1 (m:Nat) (a1:List IRow):Option Int:=
 jn (V:=Unit) (
 loopF (pG_slices_IndexFunc_IRow_I_backOk_1_b1 m) m (a1,(↑a1.length:Int),0)) fun _=>
 some (-1)
theorem c1036700:CC (mx 367 [none,some (.fn 349 [])] [.row .iRow] 0 oI pG_slices_IndexFunc_IRow_I_backOk_1):=mq (cs c349 cn) ⟨[],[],[(2,true,⟨[(1,.fn 349 [])],[eR 0 .iRow,eI 7,eI 8]⟩,0,⟨[],[]⟩)]⟩ Tryz.f367
def pG_slices_ContainsFunc_IRow_I_backOk_1 (m:Nat) (a1:List IRow):Option Bool:=
 bd (pG_slices_IndexFunc_IRow_I_backOk_1 m a1) fun x2=>
 some (decide (0<=x2))
theorem c1034800:CC (mx 348 [none,some (.fn 349 [])] [.row .iRow] 0 oB pG_slices_ContainsFunc_IRow_I_backOk_1):=mq (cs c1036700 cn) tn Tryz.f348
def pI_backOk (m:Nat) (a1:List IRow) (a2:Int):Option Bool:=
 bd (α:=Bool) (
 br (decide ((↑a1.length:Int)<=a2)) (
 bd (pG_slices_ContainsFunc_IRow_I_backOk_1 m a1) fun x3=>
 some (!x3)) <|
 some false) fun x4=>
 some x4
theorem c318:CC (mo 318 [.row .iRow,jI] oB (q2 pI_backOk)):=mq (cs c1034800 cn) ⟨[(1,⟨[],[eB 4]⟩)],[],[]⟩ Tryz.f318
def pI_ScrOk_b1 (m:Nat):Lp (IScr×List IGrid×Int×Int) (IScr⊕Bool):=fun(v18,v19,v20,v21)=>
 br (decide (v21<v20)) (
 gd (0<=v21/\v21<(↑v19.length:Int)) <|
 bd (v19[0+v21.toNat]?) fun x22=>
 bd (α:=IScr×List IGrid×Int×Int×Bool) (
 bd (pI_GridOk m x22) fun x23=>
 br (!x23) (
 some (v18,v19,v20,v21,true)) <|
 br (x22.W !=v18.W) (
 some (v18,v19,v20,v21,true)) <|
 some (v18,v19,v20,v21,x22.H !=v18.H)) fun(x24,x25,x26,x27,x28)=>
 br x28 (
 some (.inr (.inr false))) <|
 gd (inK .i64 (x27+1)) <|
 some (.inl (x24,x25,x26,x27+1))) <|
 some (.inr (.inl v18))
def pI_ScrOk (m:Nat) (a1:IScr):Option Bool:=
 jn (V:=IScr) (
 loopF (pI_ScrOk_b1 m) m (a1,[a1.Main,a1.Alt],(↑2:Int),0)) fun v3=>
 bd (α:=IScr×Bool) (
 bd (pI_Grid_has m v3.Main v3.X v3.Y) fun x4=>
 br (!x4) (
 some (v3,true)) <|
 bd (pI_Grid_has m v3.Main v3.SaveX v3.SaveY) fun x5=>
 br (!x5) (
 some (v3,true)) <|
 br v3.Wrap (
 gd (inK .i64 (v3.W-1)) <|
 br (v3.X !=v3.W-1) (
 some (v3,true)) <|
 bd (pI_AttrOk m v3.A) fun x6=>
 br (!x6) (
 some (v3,true)) <|
 bd (pI_AttrOk m v3.SaveA) fun x7=>
 some (v3,!x7)) <|
 bd (pI_AttrOk m v3.A) fun x8=>
 br (!x8) (
 some (v3,true)) <|
 bd (pI_AttrOk m v3.SaveA) fun x9=>
 some (v3,!x9)) fun(x10,x11)=>
 br x11 (
 some false) <|
 bd (α:=IScr×Bool) (
 br (decide (x10.Top<0)) (
 some (x10,true)) <|
 br (decide (x10.Bot<x10.Top)) (
 some (x10,true)) <|
 br (decide (x10.H<=x10.Bot)) (
 some (x10,true)) <|
 br (x10.Top==x10.Bot) (
 some (x10,x10.H !=1)) <|
 some (x10,false)) fun(x12,x13)=>
 br x13 (
 some false) <|
 bd (α:=Bool) (
 gd (inK .i64 (x12.W-1)) <|
 bd (pI_isAscending m x12.Tabs 0 (x12.W-1)) fun x14=>
 br x14 (
 bd (pI_within m x12.Limit 0 100) fun x15=>
 br x15 (
 bd (pI_backOk m x12.Back x12.Limit) fun x16=>
 some x16) <|
 some false) <|
 some false) fun x17=>
 some x17
theorem c273:CC (mo 273 [jS .iScr] oB pI_ScrOk):=mq (cs c314 (cs c315 (cs c316 (cs c317 (cs c34 (cs c318 cn)))))) ⟨[(4,⟨[(1,.ptr 200 0)],[.sto 200 .iScr [],eO 9 .iGrid 1000,eI 10,eI 11,eB 31]⟩),(7,⟨[(1,.ptr 200 0)],[.sto 200 .iScr [],eB 74]⟩),(9,⟨[(1,.ptr 200 0)],[.sto 200 .iScr [],eB 103]⟩),(11,⟨[],[eB 2]⟩)],[],[(2,true,⟨[(1,.ptr 200 0)],[.sto 200 .iScr [],eO 9 .iGrid 1000,eI 10,eI 11]⟩,0,⟨[(1,.ptr 200 0)],[.sto 200 .iScr []]⟩)]⟩ Tryz.f273
def pI_TermOk (m:Nat) (a1:ITerm):Option Bool:=
 bd (α:=Bool) (
 bd (pI_VpOk m a1.P) fun x2=>
 br x2 (
 bd (pI_ScrOk m a1.S) fun x3=>
 some x3) <|
 some false) fun x4=>
 some x4
theorem c231:CC (mo 231 [jS .iTerm] oB pI_TermOk):=mq (cs c272 (cs c273 cn)) ⟨[(1,⟨[],[eB 2]⟩)],[],[]⟩ Tryz.f231
def pI_PaneOk (m:Nat) (a1:IPane):Option Bool:=
 bd (α:=IPane×Bool) (
 bd (pI_isId m a1.Id) fun x2=>
 br (!x2) (
 some (a1,true)) <|
 bd (pI_isCmd m a1.Cmd) fun x3=>
 br (!x3) (
 some (a1,true)) <|
 bd (pI_isCmd m a1.Dir) fun x4=>
 br (!x4) (
 some (a1,true)) <|
 bd (pI_TermOk m a1.Term) fun x5=>
 some (a1,!x5)) fun(x6,x7)=>
 br x7 (
 some false) <|
 br (x6.Life==1) (
 bd (α:=Bool) (
 bd (pI_isId m x6.Pid) fun x8=>
 br x8 (
 some (x6.Code==0)) <|
 some false) fun x9=>
 some x9) <|
 br (x6.Life==2) (
 bd (α:=Bool) (
 bd (pI_within m x6.Code 0 255) fun x10=>
 br x10 (
 some (x6.Pid==0)) <|
 some false) fun x11=>
 some x11) <|
 br (x6.Life==3) (
 bd (α:=Bool) (
 br (x6.Code==0) (
 some (x6.Pid==0)) <|
 some false) fun x12=>
 some x12) <|
 some false
theorem c173:CC (mo 173 [jS .iPane] oB pI_PaneOk):=mq (cs c98 (cs c186 (cs c231 (cs c34 cn)))) ⟨[(1,⟨[(1,.ptr 200 0)],[.sto 200 .iPane [],eB 24]⟩),(5,⟨[],[eB 2]⟩),(7,⟨[],[eB 2]⟩),(9,⟨[],[eB 2]⟩)],[],[]⟩ Tryz.f173
def pI_WinAt_1 (m:Nat) (a1:IWin) (a2:Int):Option (Bool×Int):=
 some (a1.Id==a2,a2)
theorem c1023300:CC (mx 233 [none,some (.ptr 0 0 0 0)] [jS .iWin,jI] 1 (.tup [.B,jI]) (q2 pI_WinAt_1)):=mq cn tn Tryz.f233
def pG_slices_IndexFunc_IWin_I_WinAt_1_b1 (m:Nat):Lp (Int×List IWin×Int×Int) (Int⊕Int×Int):=fun(v5,v6,v7,v8)=>
 br (decide (v8<v7)) (
 gd (0<=v8/\v8<(↑v6.length:Int)) <|
 bd v6[v8.toNat]? fun x9=>
 bd (pI_WinAt_1 m x9 v5) fun(x10,x11)=>
 br x10 (
 some (.inr (.inr (v8,x11)))) <|
 gd (inK .i64 (v8+1)) <|
 some (.inl (x11,v6,v7,v8+1))) <|
 some (.inr (.inl v5))
def pG_slices_IndexFunc_IWin_I_WinAt_1 (m:Nat) (a1:List IWin) (a2:Int):Option (Int×Int):=
 jn (V:=Int) (
 loopF (pG_slices_IndexFunc_IWin_I_WinAt_1_b1 m) m (a2,a1,(↑a1.length:Int),0)) fun v4=>
 some (-1,v4)
theorem c1023200:CC (mx 232 [none,some (.fn 233 [.ptr 0 0 0 0])] [.row .iWin,jI] 1 (.tup [jI,jI]) (q2 pG_slices_IndexFunc_IWin_I_WinAt_1)):=mq (cs c1023300 cn) ⟨[],[],[(2,true,⟨[(1,.fn 233 [(0,0)])],[.bxl 0 [jI],eR 0 .iWin,eI 7,eI 8]⟩,0,⟨[],[.bxl 0 [jI]]⟩)]⟩ Tryz.f232
def pI_WinAt (m:Nat) (a1:IState) (a2:Int):Option Int:=
 bd (pG_slices_IndexFunc_IWin_I_WinAt_1 m a1.Wins a2) fun(x3,x4)=>
 some x3
theorem c174:CC (mo 174 [jS .iState,jI] oI (q2 pI_WinAt)):=mq (cs c1023200 cn) tn Tryz.f174
def pI_State_panesOk_b1 (m:Nat):Lp (IState×Obj×List IPane×Int×Int) (IState⊕Bool):=fun(v4,v5,v6,v7,v8)=>
 br (decide (v8<v7)) (
 gd (0<=v8/\v8<(↑v6.length:Int)) <|
 bd v6[v8.toNat]? fun x9=>
 bd (α:=IState×IPane×Obj×List IPane×Int×Int×Bool) (
 bd (pI_PaneOk m x9) fun x10=>
 br (!x10) (
 some (v4,x9,v5,v6,v7,v8,true)) <|
 br (decide (v4.Next<=x9.Id)) (
 some (v4,x9,v5,v6,v7,v8,true)) <|
 br (decide (0<v8)) (
 gd (inK .i64 (v8-1)) <|
 gd (0<=v8-1/\v8-1<(↑v4.Panes.length:Int)) <|
 bd (v4.Panes[(v8-1).toNat]?) fun x11=>
 br (decide (x9.Id<=x11.Id)) (
 some (v4,x9,v5,v6,v7,v8,true)) <|
 bd (pI_WinAt m v4 x9.Id) fun x12=>
 br (decide (0<=x12)) (
 some (v4,x9,v5,v6,v7,v8,true)) <|
 some (v4,x9,v5,v6,v7,v8,x9.Term.S.Limit !=v4.Limit)) <|
 bd (pI_WinAt m v4 x9.Id) fun x13=>
 br (decide (0<=x13)) (
 some (v4,x9,v5,v6,v7,v8,true)) <|
 some (v4,x9,v5,v6,v7,v8,x9.Term.S.Limit !=v4.Limit)) fun(x14,x15,x16,x17,x18,x19,x20)=>
 br x20 (
 some (.inr (.inr false))) <|
 bd (α:=IState×IPane×Obj×List IPane×Int×Int×Bool) (
 br (x15.Life==1) (
 bd (mpB MK.i x16 (Value.int IntKind.i64 x15.Pid)) fun x21=>
 some (x14,x15,x16,x17,x18,x19,x21)) <|
 some (x14,x15,x16,x17,x18,x19,false)) fun(x22,x23,x24,x25,x26,x27,x28)=>
 br x28 (
 some (.inr (.inr false))) <|
 bd (α:=IState×Obj×List IPane×Int×Int) (
 bd (mpB MK.i x24 (Value.int IntKind.i64 x23.Pid)) fun x29=>
 br x29 (
 bd (mpPut MK.i x24 (Value.int IntKind.i64 x23.Pid) (Value.bool true)) fun x30=>
 some (x22,x30,x25,x26,x27)) <|
 bd (mpPut MK.i x24 (Value.int IntKind.i64 x23.Pid) (Value.bool (x23.Life==1))) fun x31=>
 some (x22,x31,x25,x26,x27)) fun(x32,x33,x34,x35,x36)=>
 gd (inK .i64 (x36+1)) <|
 some (.inl (x32,x33,x34,x35,x36+1))) <|
 some (.inr (.inl v4))
def pI_State_panesOk (m:Nat) (a1:IState):Option Bool:=
 jn (V:=IState) (
 loopF (pI_State_panesOk_b1 m) m (a1,emptyM,a1.Panes,(↑a1.Panes.length:Int),0)) fun v3=>
 some (decide ((↑v3.Panes.length:Int)<=24))
theorem c99:CC (mo 99 [jS .iState] oB pI_State_panesOk):=mq (cs c173 (cs c174 cn)) ⟨[(5,⟨[(1,.ptr 200 0),(3,.ptr 700 0),(5,.ptr 600 0)],[.sto 200 .iState [],.sto 600 .iPane [],.ob 700,eR 8 .iPane,eI 9,eI 10,eB 56]⟩),(7,⟨[(1,.ptr 200 0),(3,.ptr 700 0),(5,.ptr 600 0)],[.sto 200 .iState [],.sto 600 .iPane [],.ob 700,eR 8 .iPane,eI 9,eI 10,eB 65]⟩),(9,⟨[(1,.ptr 200 0),(3,.ptr 700 0)],[.sto 200 .iState [],.ob 700,eR 8 .iPane,eI 9,eI 10]⟩)],[],[(3,true,⟨[(1,.ptr 200 0),(3,.ptr 700 0)],[.sto 200 .iState [],.ob 700,eR 8 .iPane,eI 9,eI 10]⟩,0,⟨[(1,.ptr 200 0)],[.sto 200 .iState []]⟩)]⟩ Tryz.f99
def pI_Node_isLeaf (m:Nat) (a1:INode):Option Bool:=
 some (a1.Pane !=0)
theorem c239:CC (mo 239 [jS .iNode] oB pI_Node_isLeaf):=mq cn tn Tryz.f239
def pI_leaves_b1 (m:Nat):Lp (List Int×List INode×Int×Int) (List Int):=fun(v4,v5,v6,v7)=>
 br (decide (v7<v6)) (
 bd (α:=List Int×List INode×Int×Int) (
 gd (0<=v7/\v7<(↑v5.length:Int)) <|
 bd v5[v7.toNat]? fun x8=>
 bd (pI_Node_isLeaf m x8) fun x9=>
 br x9 (
 gd (roomB .int (v4++ [x8.Pane]).length) <|
 some (v4++ [x8.Pane],v5,v6,v7)) <|
 some (v4,v5,v6,v7)) fun(x10,x11,x12,x13)=>
 gd (inK .i64 (x13+1)) <|
 some (.inl (x10,x11,x12,x13+1))) <|
 some (.inr v4)
def pI_leaves (m:Nat) (a1:List INode):Option (List Int):=
 bd (α:=List Int) (
 loopF (pI_leaves_b1 m) m ([],a1,(↑a1.length:Int),0)) fun x3=>
 some x3
theorem c178:CC (mo 178 [.row .iNode] (.one (.own .int 99)) pI_leaves):=mq (cs c239 cn) ⟨[],[(7,false,⟨[],[eO 3 .int 700,eR 7 .iNode,eI 8,eI 9]⟩)],[(3,false,⟨[],[eO 3 .int 700,eR 7 .iNode,eI 8,eI 9]⟩,0,⟨[],[eO 3 .int 700]⟩)]⟩ Tryz.f178
def pG_slices_Clone_int (m:Nat) (a1:List Int):Option (List Int):=
 cmpN a1 (
 some []) <|
 gd (roomB .int ([]++a1).length) <|
 some ([]++a1)
theorem c240:CC (mo 240 [.row .int] (.one (.own .int 99)) pG_slices_Clone_int):=mq cn tn Tryz.f240
def pI_endOf (m:Nat) (slf:List INode×Int->Option Int):List INode×Int->Option Int:=fun(a1,a2)=>
 bd (α:=List INode×Int×Bool) (
 br (decide (a2<0)) (
 some (a1,a2,true)) <|
 some (a1,a2,decide ((↑a1.length:Int)<=a2))) fun(x3,x4,x5)=>
 br x5 (
 some (-1)) <|
 gd (0<=x4/\x4<(↑x3.length:Int)) <|
 bd x3[x4.toNat]? fun x6=>
 bd (pI_Node_isLeaf m x6) fun x7=>
 br x7 (
 bd (α:=Int×Bool) (
 bd (pI_isId m x6.Pane) fun x8=>
 br (!x8) (
 some (x4,true)) <|
 br x6.Down (
 some (x4,true)) <|
 some (x4,x6.First !=0)) fun(x9,x10)=>
 br x10 (
 some (-1)) <|
 gd (inK .i64 (x9+1)) <|
 some (x9+1)) <|
 bd (pI_within m x6.First 1 120) fun x11=>
 br (!x11) (
 some (-1)) <|
 gd (inK .i64 (x4+1)) <|
 bd (slf (x3,x4+1)) fun x12=>
 bd (slf (x3,x12)) fun x13=>
 some x13
def o319 (m:Nat):Orc:=⟨319,[none,none],[.row .iNode,.I .i64],0,(.one (.I .i64)),recF (pI_endOf m) m⟩
theorem c319 {E:World->Prop} (hcl:Cl G E) (m:Nat):Ctr Tryz.prog G E (o319 m):=Ctr.rec (fun slf h=>Ctr.mk (o:=⟨319,[none,none],[.row .iNode,.I .i64],0,(.one (.I .i64)),pI_endOf m slf⟩) (csc h (csc (c239 hcl m) (csc (c98 hcl m) (csc (c34 hcl m) csn)))) facts mixed hcl.cl ⟨[(1,⟨[],[eR 0 .iNode,eI 1,eB 13]⟩),(5,⟨[],[eI 1,eB 33]⟩)],[],[]⟩ m (fn:=Tryz.f319) (by kernel_rfl) rfl (by kernel_rfl) (fun _=>by kernel_rfl) (fun _ _=>by kernel_rfl) (fun _=>by kernel_rfl)) m
def pG_slices_Compact_int_b2 (m:Nat):Lp (List Int×Int×(Nat×Nat)×Int) (List Int×Int):=fun(v11,v12,v13,v14)=>
 br (decide (v14<(↑v13.snd:Int))) (
 bd (α:=List Int×Int×(Nat×Nat)×Int) (
 gd (0<=v14/\v14<(↑v13.snd:Int)) <|
 bd (v11[v13.fst+v14.toNat]?) fun x15=>
 gd (inK .i64 (v14-1)) <|
 gd (0<=v14-1/\v14-1<(↑v13.snd:Int)) <|
 bd (v11[v13.fst+(v14-1).toNat]?) fun x16=>
 br (x15 !=x16) (
 gd (0<=v14/\v14<(↑v13.snd:Int)) <|
 bd (v11[v13.fst+v14.toNat]?) fun x17=>
 gd (0<=v12/\v12<(↑v11.length:Int)) <|
 bd (v11[0+v12.toNat]?) fun x18=>
 gd (inK .i64 (v12+1)) <|
 some (v11.set (0+v12.toNat) x17,v12+1,v13,v14)) <|
 some (v11,v12,v13,v14)) fun(x19,x20,x21,x22)=>
 gd (inK .i64 (x22+1)) <|
 some (.inl (x19,x20,x21,x22+1))) <|
 some (.inr (v11,v12))
def pG_slices_Compact_int_b1 (m:Nat):Lp (List Int×Int) (List Int⊕List Int):=fun(v4,v5)=>
 br (decide (v5<(↑v4.length:Int))) (
 gd (0<=v5/\v5<(↑v4.length:Int)) <|
 bd (v4[0+v5.toNat]?) fun x6=>
 gd (inK .i64 (v5-1)) <|
 gd (0<=v5-1/\v5-1<(↑v4.length:Int)) <|
 bd (v4[0+(v5-1).toNat]?) fun x7=>
 br (x6==x7) (
 gd (0<=v5/\v5<=(↑v4.length:Int)) <|
 bd (α:=List Int×Int) (
 loopF (pG_slices_Compact_int_b2 m) m (v4,v5,(0+v5.toNat,v4.length-v5.toNat),1)) fun(x9,x10)=>
 gd (0<=x10/\x10<=(↑x9.length:Int)) <|
 gd (0<=x10/\x10<=(↑x9.length:Int)) <|
 some (.inr (.inr (List.take (x10.toNat-0) (List.drop (0+0) (putL x9 (0+x10.toNat) (List.replicate (x9.length-x10.toNat) (zK K.int)))))))) <|
 gd (inK .i64 (v5+1)) <|
 some (.inl (v4,v5+1))) <|
 some (.inr (.inl v4))
def pG_slices_Compact_int (m:Nat) (a1:List Int):Option (List Int):=
 br (decide ((↑a1.length:Int)<2)) (
 some a1) <|
 jn (V:=List Int) (
 loopF (pG_slices_Compact_int_b1 m) m (a1,1)) fun v3=>
 some v3
theorem c320:CC (mo 320 [.own .int 99] (.one (.row .int)) pG_slices_Compact_int):=mq cn ⟨[],[(10,false,⟨[],[eO 0 .int 90000000,eI 3,.sl 4 (.view 90000000),eI 5]⟩)],[(9,false,⟨[],[eO 0 .int 90000000,eI 3,.sl 4 (.view 90000000),eI 5]⟩,2,⟨[],[eO 0 .int 90000000,eI 3]⟩),(4,true,⟨[],[eO 0 .int 90000000,eI 3]⟩,0,⟨[],[eO 0 .int 90000000]⟩)]⟩ Tryz.f320
def pI_TreeOk (m:Nat) (a1:List INode):Option Bool:=
 bd (α:=List INode×Bool) (
 br (decide (31<(↑a1.length:Int))) (
 some (a1,true)) <|
 bd (recF (pI_endOf m) m (a1,0)) fun x2=>
 some (a1,x2 !=(↑a1.length:Int))) fun(x3,x4)=>
 br x4 (
 some false) <|
 bd (pI_leaves m x3) fun x5=>
 bd (pG_slices_Sort_int x5) fun x6=>
 bd (pG_slices_Clone_int m x6) fun x7=>
 bd (pG_slices_Compact_int m x7) fun x8=>
 some ((↑x8.length:Int)==(↑x5.length:Int))
theorem c274:CC (mo 274 [.row .iNode] oB pI_TreeOk):=mq (cs c319 (cs c178 (cs c196 (cs c240 (cs c320 cn))))) ⟨[(1,⟨[],[eR 0 .iNode,eB 13]⟩)],[],[]⟩ Tryz.f274
def pI_partsOf (m:Nat) (a1:INode) (a2:IRect):Option (IRect×IRect×Bool):=
 bd (α:=INode×IRect×IRect×IRect×IRect×IRect×Int) (
 br a1.Down (
 some (a1,a2,IRect.mk 0 0 0 0 0,IRect.mk 0 0 0 0 0,a2,a2,a2.H)) <|
 some (a1,a2,IRect.mk 0 0 0 0 0,IRect.mk 0 0 0 0 0,a2,a2,a2.W)) fun(x3,x4,x5,x6,x7,x8,x9)=>
 gd (inK .i64 (x9-2)) <|
 bd (α:=IRect×IRect×IRect×IRect×Int) (
 br x3.Down (
 gd (inK .i64 (x4.Y+if x9-2<x3.First then x9-2 else x3.First)) <|
 gd (inK .i64 ((x4.Y+if x9-2<x3.First then x9-2 else x3.First)+1)) <|
 gd (inK .i64 (x9-if x9-2<x3.First then x9-2 else x3.First)) <|
 gd (inK .i64 ((x9-if x9-2<x3.First then x9-2 else x3.First)-1)) <|
 some (x5,x6,IRect.mk x7.Pane x7.X x7.Y x7.W (if x9-2<x3.First then x9-2 else x3.First),IRect.mk x8.Pane x8.X ((x4.Y+if x9-2<x3.First then x9-2 else x3.First)+1) x8.W ((x9-if x9-2<x3.First then x9-2 else x3.First)-1),x9)) <|
 gd (inK .i64 (x4.X+if x9-2<x3.First then x9-2 else x3.First)) <|
 gd (inK .i64 ((x4.X+if x9-2<x3.First then x9-2 else x3.First)+1)) <|
 gd (inK .i64 (x9-if x9-2<x3.First then x9-2 else x3.First)) <|
 gd (inK .i64 ((x9-if x9-2<x3.First then x9-2 else x3.First)-1)) <|
 some (x5,x6,IRect.mk x7.Pane x7.X x7.Y (if x9-2<x3.First then x9-2 else x3.First) x7.H,IRect.mk x8.Pane ((x4.X+if x9-2<x3.First then x9-2 else x3.First)+1) x8.Y ((x9-if x9-2<x3.First then x9-2 else x3.First)-1) x8.H,x9)) fun(x10,x11,x12,x13,x14)=>
 some (x12,x13,decide (3<=x14))
theorem c322:CC (mo 322 [jS .iNode,jS .iRect] (.tup [jS .iRect,jS .iRect,.B]) (q2 pI_partsOf)):=mq cn ⟨[],[(5,false,⟨[(2,.ptr 300 0),(3,.ptr 400 0),(4,.ptr 500 0),(5,.ptr 600 0),(7,.ptr 800 0),(8,.ptr 900 0)],[.sto 300 .iNode [],.sto 400 .iRect [],.sto 500 .iRect [],.sto 600 .iRect [],.sto 800 .iRect [],.sto 900 .iRect [],eI 9]⟩),(9,false,⟨[(4,.ptr 500 0),(5,.ptr 600 0),(7,.ptr 800 0),(8,.ptr 900 0)],[.sto 500 .iRect [],.sto 600 .iRect [],.sto 800 .iRect [],.sto 900 .iRect [],eI 9]⟩)],[]⟩ Tryz.f322
def pI_areasOf_1 (m:Nat) (slf:Int×IRect×List INode×List IRect×Bool×Unit->Option (List INode×List IRect×Bool×Unit)):Int×IRect×List INode×List IRect×Bool×Unit->Option (List INode×List IRect×Bool×Unit):=fun(a1,a2,a3,a4,a5,a6)=>
 gd (0<=a1/\a1<(↑a3.length:Int)) <|
 bd a3[a1.toNat]? fun x7=>
 gd (roomB .iRect (a4++ [IRect.mk x7.Pane a2.X a2.Y a2.W a2.H]).length) <|
 bd (α:=List INode×Bool×Unit×IRect×List IRect×Int×Bool) (
 gd (0<=a1/\a1<(↑a3.length:Int)) <|
 bd a3[a1.toNat]? fun x8=>
 bd (pI_Node_isLeaf m x8) fun x9=>
 br x9 (
 some (a3,a5,(),IRect.mk x7.Pane a2.X a2.Y a2.W a2.H,a4++ [IRect.mk x7.Pane a2.X a2.Y a2.W a2.H],a1,true)) <|
 some (a3,a5,(),IRect.mk x7.Pane a2.X a2.Y a2.W a2.H,a4++ [IRect.mk x7.Pane a2.X a2.Y a2.W a2.H],a1,!a5)) fun(x10,x11,x12,x13,x14,x15,x16)=>
 br x16 (
 some (x10,x14,x11,())) <|
 gd (0<=x15/\x15<(↑x10.length:Int)) <|
 bd x10[x15.toNat]? fun x17=>
 bd (pI_partsOf m x17 x13) fun(x18,x19,x20)=>
 br (!x20) (
 some (x10,x14,x20,())) <|
 gd (inK .i64 (x15+1)) <|
 bd (slf (x15+1,x18,x10,x14,x20,())) fun(x21,x22,x23,x24)=>
 br x23 (
 gd (inK .i64 (x15+1)) <|
 bd (recF (pI_endOf m) m (x21,x15+1)) fun x25=>
 bd (slf (x25,x19,x21,x22,x23,())) fun(x26,x27,x28,x29)=>
 some (x26,x27,x28,())) <|
 some (x21,x22,x23,())
def o1032100 (m:Nat):Orc:=⟨321,[none,none,some (.ptr 0 0 0 0),some (.ptr 1 0 0 0),some (.ptr 2 0 0 0),some (.ptr 3 0 0 0)],[.I .i64,.st .iRect [],.row .iNode,.own .iRect 99,.B,.cfn 321 [(0,0),(1,0),(2,0),(3,0)]],4,(.tup [.row .iNode,.own .iRect 99,.B,.cfn 321 [(0,0),(1,0),(2,0),(3,0)]]),recF (pI_areasOf_1 m) m⟩
theorem c1032100 {E:World->Prop} (hcl:Cl G E) (m:Nat):Ctr Tryz.prog G E (o1032100 m):=Ctr.rec (fun slf h=>Ctr.mk (o:=⟨321,[none,none,some (.ptr 0 0 0 0),some (.ptr 1 0 0 0),some (.ptr 2 0 0 0),some (.ptr 3 0 0 0)],[.I .i64,.st .iRect [],.row .iNode,.own .iRect 99,.B,.cfn 321 [(0,0),(1,0),(2,0),(3,0)]],4,(.tup [.row .iNode,.own .iRect 99,.B,.cfn 321 [(0,0),(1,0),(2,0),(3,0)]]),pI_areasOf_1 m slf⟩) (csc h (csc (c239 hcl m) (csc (c322 hcl m) (csc (c319 hcl m) csn)))) facts mixed hcl.cl ⟨[(3,⟨[(2,.ptr 0 0),(4,.ptr 2 0),(5,.ptr 3 0),(7,.ptr 800 0)],[.bxl 0 [.row .iNode],.bxl 2 [.B],.bxl 3 [.cfn 321 [(0,0),(1,0),(2,0),(3,0)]],.sto 800 .iRect [],.bxl 1 [.own .iRect 80001000],eI 0,eB 29]⟩)],[],[]⟩ m (fn:=Tryz.f321) (by kernel_rfl) rfl (by kernel_rfl) (fun _=>by kernel_rfl) (fun _ _=>by kernel_rfl) (fun _=>by kernel_rfl)) m
def pI_areasOf (m:Nat) (a1:List INode) (a2 a3:Int):Option (List IRect×Bool):=
 bd (recF (pI_areasOf_1 m) m (0,IRect.mk 0 0 0 a2 a3,a1,[],true,())) fun(x4,x5,x6,x7)=>
 some (x5,x6)
theorem c275:CC (mo 275 [.row .iNode,jI,jI] (.tup [.own .iRect 99,.B]) (q3 pI_areasOf)):=mq (cs c1032100 cn) tn Tryz.f275
def pI_places (m:Nat) (a1:List INode) (a2 a3:Int):Option (List IRect×Bool):=
 bd (α:=List INode×Int×Int×Bool) (
 bd (pI_TreeOk m a1) fun x4=>
 br (!x4) (
 some (a1,a2,a3,true)) <|
 bd (pI_within m a2 1 120) fun x5=>
 br (!x5) (
 some (a1,a2,a3,true)) <|
 bd (pI_within m a3 1 120) fun x6=>
 some (a1,a2,a3,!x6)) fun(x7,x8,x9,x10)=>
 br x10 (
 some ([],false)) <|
 bd (pI_areasOf m x7 x8 x9) fun(x11,x12)=>
 some (x11,x12)
theorem c234:CC (mo 234 [.row .iNode,jI,jI] (.tup [.own .iRect 99,.B]) (q3 pI_places)):=mq (cs c274 (cs c34 (cs c275 cn))) ⟨[(1,⟨[],[eR 0 .iNode,eI 1,eI 2,eB 20]⟩)],[],[]⟩ Tryz.f234
def pI_Places_1 (m:Nat) (a1:IRect):Option Bool:=
 some (a1.Pane==0)
theorem c236:CC (mo 236 [jS .iRect] oB pI_Places_1):=mq cn tn Tryz.f236
def pG_slices_IndexFunc_IRect_I_Places_1_b1 (m:Nat):Lp (List IRect×Int×Int) (Unit⊕Int):=fun(v3,v4,v5)=>
 br (decide (v5<v4)) (
 gd (0<=v5/\v5<(↑v3.length:Int)) <|
 bd v3[v5.toNat]? fun x6=>
 bd (pI_Places_1 m x6) fun x7=>
 br x7 (
 some (.inr (.inr v5))) <|
 gd (inK .i64 (v5+1)) <|
 some (.inl (v3,v4,v5+1))) <|
 some (.inr (.inl ()))
def pG_slices_IndexFunc_IRect_I_Places_1 (m:Nat) (a1:List IRect):Option Int:=
 jn (V:=Unit) (
 loopF (pG_slices_IndexFunc_IRect_I_Places_1_b1 m) m (a1,(↑a1.length:Int),0)) fun _=>
 some (-1)
theorem c1024600:CC (mx 246 [none,some (.fn 236 [])] [.row .iRect] 0 oI pG_slices_IndexFunc_IRect_I_Places_1):=mq (cs c236 cn) ⟨[],[],[(2,true,⟨[(1,.fn 236 [])],[eR 0 .iRect,eI 7,eI 8]⟩,0,⟨[],[]⟩)]⟩ Tryz.f246
def pG_slices_DeleteFunc_IRect_I_Places_1_b1 (m:Nat):Lp (List IRect×Int×Int) (List IRect×Int):=fun(v6,v7,v8)=>
 br (decide (v8<(↑v6.length:Int))) (
 bd (α:=List IRect×Int×Int) (
 gd (0<=v8/\v8<(↑v6.length:Int)) <|
 bd (v6[0+v8.toNat]?) fun x9=>
 bd (pI_Places_1 m x9) fun x10=>
 br (!x10) (
 gd (0<=v7/\v7<(↑v6.length:Int)) <|
 bd (v6[0+v7.toNat]?) fun x11=>
 gd (inK .i64 (v7+1)) <|
 some (v6.set (0+v7.toNat) x9,v7+1,v8)) <|
 some (v6,v7,v8)) fun(x12,x13,x14)=>
 gd (inK .i64 (x14+1)) <|
 some (.inl (x12,x13,x14+1))) <|
 some (.inr (v6,v7))
def pG_slices_DeleteFunc_IRect_I_Places_1 (m:Nat) (a1:List IRect):Option (List IRect):=
 bd (pG_slices_IndexFunc_IRect_I_Places_1 m a1) fun x2=>
 br (x2== -1) (
 some a1) <|
 gd (inK .i64 (x2+1)) <|
 bd (α:=List IRect×Int) (
 loopF (pG_slices_DeleteFunc_IRect_I_Places_1_b1 m) m (a1,x2,x2+1)) fun(x4,x5)=>
 gd (0<=x5/\x5<=(↑x4.length:Int)) <|
 gd (0<=x5/\x5<=(↑x4.length:Int)) <|
 some (List.take (x5.toNat-0) (List.drop (0+0) (putL x4 (0+x5.toNat) (List.replicate (x4.length-x5.toNat) (zK K.iRect)))))
theorem c1023500:CC (mx 235 [none,some (.fn 236 [])] [.own .iRect 99] 0 (.one (.row .iRect)) pG_slices_DeleteFunc_IRect_I_Places_1):=mq (cs c1024600 (cs c236 cn)) ⟨[],[(6,false,⟨[(1,.fn 236 [])],[eO 0 .iRect 90000000,eI 5,eI 6]⟩)],[(5,false,⟨[(1,.fn 236 [])],[eO 0 .iRect 90000000,eI 5,eI 6]⟩,0,⟨[],[eO 0 .iRect 90000000,eI 5]⟩)]⟩ Tryz.f235
def pI_Places (m:Nat) (a1:List INode) (a2 a3:Int):Option (List IRect×Bool):=
 bd (pI_places m a1 a2 a3) fun(x4,x5)=>
 br (!x5) (
 some ([],false)) <|
 bd (pG_slices_DeleteFunc_IRect_I_Places_1 m x4) fun x6=>
 some (x6,true)
theorem c175:CC (mo 175 [.row .iNode,jI,jI] (.tup [.row .iRect,.B]) (q3 pI_Places)):=mq (cs c234 (cs c1023500 cn)) tn Tryz.f175
def pI_isPlain_b1 (m:Nat):Lp (ByteArray×Int×ByteArray×Int×Int) (ByteArray×Int⊕Bool):=fun(v8,v9,v10,v11,v12)=>
 br (decide (v12<v11)) (
 gd (0<=v12) <|
 bd v8[v12.toNat]? fun x13=>
 bd (α:=ByteArray×Int×ByteArray×Int×Int×Bool) (
 br (decide (97<=(↑x13.toNat:Int))) (
 br (decide ((↑x13.toNat:Int)<=122)) (
 some (v8,v9,v10,v11,v12,!true)) <|
 br (decide (48<=(↑x13.toNat:Int))) (
 br (decide ((↑x13.toNat:Int)<=57)) (
 some (v8,v9,v10,v11,v12,!true)) <|
 bd (pG_strings_IndexByte v10 (↑x13.toNat:Int)) fun x14=>
 some (v8,v9,v10,v11,v12,!decide (0<=x14))) <|
 bd (pG_strings_IndexByte v10 (↑x13.toNat:Int)) fun x15=>
 some (v8,v9,v10,v11,v12,!decide (0<=x15))) <|
 br (decide (48<=(↑x13.toNat:Int))) (
 br (decide ((↑x13.toNat:Int)<=57)) (
 some (v8,v9,v10,v11,v12,!true)) <|
 bd (pG_strings_IndexByte v10 (↑x13.toNat:Int)) fun x16=>
 some (v8,v9,v10,v11,v12,!decide (0<=x16))) <|
 bd (pG_strings_IndexByte v10 (↑x13.toNat:Int)) fun x17=>
 some (v8,v9,v10,v11,v12,!decide (0<=x17))) fun(x18,x19,x20,x21,x22,x23)=>
 br x23 (
 some (.inr (.inr false))) <|
 gd (inK .i64 (x22+1)) <|
 some (.inl (x18,x19,x20,x21,x22+1))) <|
 some (.inr (.inl (v8,v9)))
def pI_isPlain (m:Nat) (a1:ByteArray) (a2:Int) (a3:ByteArray):Option Bool:=
 jn (V:=ByteArray×Int) (
 loopF (pI_isPlain_b1 m) m (a1,a2,a3,(↑a1.size:Int),0)) fun(v5,v6)=>
 bd (pI_within m (↑v5.size:Int) 1 v6) fun x7=>
 some x7
theorem c237:CC (mo 237 [.S,jI,.S] oB (q3 pI_isPlain)):=mq (cs c276 (cs c34 cn)) ⟨[(5,⟨[],[eS 0,eI 1,eS 2,eI 10,eI 11,eB 37]⟩)],[],[(2,true,⟨[],[eS 0,eI 1,eS 2,eI 10,eI 11]⟩,0,⟨[],[eS 0,eI 1]⟩)]⟩ Tryz.f237
def pI_WordOk (m:Nat) (a1:ByteArray):Option Bool:=
 bd (pI_isPlain m a1 12 (ByteArray.mk #[])) fun x2=>
 some x2
theorem c176:CC (mo 176 [.S] oB pI_WordOk):=mq (cs c237 cn) tn Tryz.f176
def pG_slices_Index_int_b1 (m:Nat):Lp (List Int×Int×Int×Int) (Unit⊕Int):=fun(v4,v5,v6,v7)=>
 br (decide (v7<v6)) (
 gd (0<=v7/\v7<(↑v4.length:Int)) <|
 bd v4[v7.toNat]? fun x8=>
 br (v5==x8) (
 some (.inr (.inr v7))) <|
 gd (inK .i64 (v7+1)) <|
 some (.inl (v4,v5,v6,v7+1))) <|
 some (.inr (.inl ()))
def pG_slices_Index_int (m:Nat) (a1:List Int) (a2:Int):Option Int:=
 jn (V:=Unit) (
 loopF (pG_slices_Index_int_b1 m) m (a1,a2,(↑a1.length:Int),0)) fun _=>
 some (-1)
theorem c238:CC (mo 238 [.row .int,jI] oI (q2 pG_slices_Index_int)):=mq cn ⟨[],[],[(2,true,⟨[],[eR 0 .int,eI 1,eI 7,eI 8]⟩,0,⟨[],[]⟩)]⟩ Tryz.f238
def pG_slices_Contains_int (m:Nat) (a1:List Int) (a2:Int):Option Bool:=
 bd (pG_slices_Index_int m a1 a2) fun x3=>
 some (decide (0<=x3))
theorem c177:CC (mo 177 [.row .int,jI] oB (q2 pG_slices_Contains_int)):=mq (cs c238 cn) tn Tryz.f177
def pG_slices_Equal_int_b1 (m:Nat):Lp (List Int×List Int×Int×Int) (Unit⊕Bool):=fun(v4,v5,v6,v7)=>
 br (decide (v7<v6)) (
 gd (0<=v7/\v7<(↑v4.length:Int)) <|
 bd v4[v7.toNat]? fun x8=>
 gd (0<=v7/\v7<(↑v5.length:Int)) <|
 bd v5[v7.toNat]? fun x9=>
 br (x8 !=x9) (
 some (.inr (.inr false))) <|
 gd (inK .i64 (v7+1)) <|
 some (.inl (v4,v5,v6,v7+1))) <|
 some (.inr (.inl ()))
def pG_slices_Equal_int (m:Nat) (a1 a2:List Int):Option Bool:=
 br ((↑a1.length:Int) !=(↑a2.length:Int)) (
 some false) <|
 jn (V:=Unit) (
 loopF (pG_slices_Equal_int_b1 m) m (a1,a2,(↑a1.length:Int),0)) fun _=>
 some true
theorem c241:CC (mo 241 [.row .int,.row .int] oB (q2 pG_slices_Equal_int)):=mq cn ⟨[],[],[(4,true,⟨[],[eR 0 .int,eR 1 .int,eI 12,eI 13]⟩,0,⟨[],[]⟩)]⟩ Tryz.f241
def pI_once (m:Nat) (a1 a2:List Int):Option Bool:=
 bd (pG_slices_Clone_int m a1) fun x3=>
 bd (pG_slices_Clone_int m a2) fun x4=>
 bd (pG_slices_Sort_int x3) fun x5=>
 bd (pG_slices_Sort_int x4) fun x6=>
 bd (pG_slices_Equal_int m x5 x6) fun x7=>
 some x7
theorem c179:CC (mo 179 [.row .int,.row .int] oB (q2 pI_once)):=mq (cs c240 (cs c196 (cs c241 cn))) tn Tryz.f179
def pI_State_winsOk_b2 (m:Nat):Lp (IState×List Int×List Int×List IPane×Int×Int) (IState×List Int×List Int):=fun(v37,v38,v39,v40,v41,v42)=>
 br (decide (v42<v41)) (
 gd (0<=v42/\v42<(↑v40.length:Int)) <|
 bd v40[v42.toNat]? fun x43=>
 gd (roomB .int (v39++ [x43.Id]).length) <|
 gd (inK .i64 (v42+1)) <|
 some (.inl (v37,v38,v39++ [x43.Id],v40,v41,v42+1))) <|
 some (.inr (v37,v38,v39))
def pI_State_winsOk_b1 (m:Nat):Lp (IState×List Int×List Int×List IWin×Int×Int) (IState×List Int×List Int⊕Bool):=fun(v12,v13,v14,v15,v16,v17)=>
 br (decide (v17<v16)) (
 gd (0<=v17/\v17<(↑v15.length:Int)) <|
 bd v15[v17.toNat]? fun x18=>
 bd (pI_Places m x18.Tree v12.W v12.H) fun(x19,x20)=>
 bd (α:=IState×IWin×List Int×List Int×List IWin×Int×Int×Bool) (
 br (decide (x18.Id<1)) (
 some (v12,x18,v13,v14,v15,v16,v17,true)) <|
 br (decide (v12.Next<=x18.Id)) (
 some (v12,x18,v13,v14,v15,v16,v17,true)) <|
 br (decide (0<v17)) (
 gd (inK .i64 (v17-1)) <|
 gd (0<=v17-1/\v17-1<(↑v12.Wins.length:Int)) <|
 bd (v12.Wins[(v17-1).toNat]?) fun x21=>
 br (decide (x18.Id<=x21.Id)) (
 some (v12,x18,v13,v14,v15,v16,v17,true)) <|
 bd (pI_WordOk m x18.Name) fun x22=>
 br (!x22) (
 some (v12,x18,v13,v14,v15,v16,v17,true)) <|
 br (!x20) (
 some (v12,x18,v13,v14,v15,v16,v17,true)) <|
 bd (pI_leaves m x18.Tree) fun x23=>
 bd (pG_slices_Contains_int m x23 x18.Active) fun x24=>
 some (v12,x18,v13,v14,v15,v16,v17,!x24)) <|
 bd (pI_WordOk m x18.Name) fun x25=>
 br (!x25) (
 some (v12,x18,v13,v14,v15,v16,v17,true)) <|
 br (!x20) (
 some (v12,x18,v13,v14,v15,v16,v17,true)) <|
 bd (pI_leaves m x18.Tree) fun x26=>
 bd (pG_slices_Contains_int m x26 x18.Active) fun x27=>
 some (v12,x18,v13,v14,v15,v16,v17,!x27)) fun(x28,x29,x30,x31,x32,x33,x34,x35)=>
 br x35 (
 some (.inr (.inr false))) <|
 bd (pI_leaves m x29.Tree) fun x36=>
 gd (roomB .int (x30++x36).length) <|
 gd (inK .i64 (x34+1)) <|
 some (.inl (x28,x30++x36,x31,x32,x33,x34+1))) <|
 some (.inr (.inl (v12,v13,v14)))
def pI_State_winsOk (m:Nat) (a1:IState):Option Bool:=
 jn (V:=IState×List Int×List Int) (
 loopF (pI_State_winsOk_b1 m) m (a1,[],[],a1.Wins,(↑a1.Wins.length:Int),0)) fun(v3,v4,v5)=>
 bd (α:=IState×List Int×List Int) (
 loopF (pI_State_winsOk_b2 m) m (v3,v4,v5,v3.Panes,(↑v3.Panes.length:Int),0)) fun(x7,x8,x9)=>
 bd (α:=Bool) (
 br (decide ((↑x7.Wins.length:Int)<=12)) (
 bd (pI_once m x8 x9) fun x10=>
 some x10) <|
 some false) fun x11=>
 some x11
theorem c100:CC (mo 100 [jS .iState] oB pI_State_winsOk):=mq (cs c175 (cs c176 (cs c178 (cs c177 (cs c179 cn))))) ⟨[(6,⟨[(1,.ptr 200 0),(6,.ptr 700 0)],[.sto 200 .iState [],.sto 700 .iWin [],eO 3 .int 1200,eO 4 .int 1300,eR 14 .iWin,eI 15,eI 16,eB 75]⟩),(15,⟨[],[eB 2]⟩)],[],[(3,true,⟨[(1,.ptr 200 0)],[.sto 200 .iState [],eO 3 .int 1200,eO 4 .int 1300,eR 14 .iWin,eI 15,eI 16]⟩,0,⟨[(1,.ptr 200 0)],[.sto 200 .iState [],eO 3 .int 1200,eO 4 .int 1300]⟩),(11,false,⟨[(1,.ptr 200 0)],[.sto 200 .iState [],eO 3 .int 1200,eO 4 .int 1300,eR 83 .iPane,eI 84,eI 85]⟩,2,⟨[(1,.ptr 200 0)],[.sto 200 .iState [],eO 3 .int 1200,eO 4 .int 1300]⟩)]⟩ Tryz.f100
def pI_SessAt_1 (m:Nat) (a1:ISess) (a2:ByteArray):Option (Bool×ByteArray):=
 some (decide (a1.Name=a2),a2)
theorem c1024300:CC (mx 243 [none,some (.ptr 0 0 0 0)] [jS .iSess,.S] 1 (.tup [.B,.S]) (q2 pI_SessAt_1)):=mq cn tn Tryz.f243
def pG_slices_IndexFunc_ISess_I_SessAt_1_b1 (m:Nat):Lp (ByteArray×List ISess×Int×Int) (ByteArray⊕Int×ByteArray):=fun(v5,v6,v7,v8)=>
 br (decide (v8<v7)) (
 gd (0<=v8/\v8<(↑v6.length:Int)) <|
 bd v6[v8.toNat]? fun x9=>
 bd (pI_SessAt_1 m x9 v5) fun(x10,x11)=>
 br x10 (
 some (.inr (.inr (v8,x11)))) <|
 gd (inK .i64 (v8+1)) <|
 some (.inl (x11,v6,v7,v8+1))) <|
 some (.inr (.inl v5))
def pG_slices_IndexFunc_ISess_I_SessAt_1 (m:Nat) (a1:List ISess) (a2:ByteArray):Option (Int×ByteArray):=
 jn (V:=ByteArray) (
 loopF (pG_slices_IndexFunc_ISess_I_SessAt_1_b1 m) m (a2,a1,(↑a1.length:Int),0)) fun v4=>
 some (-1,v4)
theorem c1024200:CC (mx 242 [none,some (.fn 243 [.ptr 0 0 0 0])] [.row .iSess,.S] 1 (.tup [jI,.S]) (q2 pG_slices_IndexFunc_ISess_I_SessAt_1)):=mq (cs c1024300 cn) ⟨[],[],[(2,true,⟨[(1,.fn 243 [(0,0)])],[.bxl 0 [.S],eR 0 .iSess,eI 7,eI 8]⟩,0,⟨[],[.bxl 0 [.S]]⟩)]⟩ Tryz.f242
def pI_SessAt (m:Nat) (a1:IState) (a2:ByteArray):Option Int:=
 bd (pG_slices_IndexFunc_ISess_I_SessAt_1 m a1.Sess a2) fun(x3,x4)=>
 some x3
theorem c180:CC (mo 180 [jS .iState,.S] oI (q2 pI_SessAt)):=mq (cs c1024200 cn) tn Tryz.f180
def pI_State_sessOk_b2 (m:Nat):Lp (IState×List Int×List Int×List IWin×Int×Int) (IState×List Int×List Int):=fun(v30,v31,v32,v33,v34,v35)=>
 br (decide (v35<v34)) (
 gd (0<=v35/\v35<(↑v33.length:Int)) <|
 bd v33[v35.toNat]? fun x36=>
 gd (roomB .int (v32++ [x36.Id]).length) <|
 gd (inK .i64 (v35+1)) <|
 some (.inl (v30,v31,v32++ [x36.Id],v33,v34,v35+1))) <|
 some (.inr (v30,v31,v32))
def pI_State_sessOk_b1 (m:Nat):Lp (IState×List Int×List Int×List ISess×Int×Int) (IState×List Int×List Int⊕Bool):=fun(v12,v13,v14,v15,v16,v17)=>
 br (decide (v17<v16)) (
 gd (0<=v17/\v17<(↑v15.length:Int)) <|
 bd v15[v17.toNat]? fun x18=>
 bd (α:=IState×ISess×List Int×List Int×List ISess×Int×Int×Bool) (
 bd (pI_WordOk m x18.Name) fun x19=>
 br (!x19) (
 some (v12,x18,v13,v14,v15,v16,v17,true)) <|
 bd (pI_SessAt m v12 x18.Name) fun x20=>
 br (x20 !=v17) (
 some (v12,x18,v13,v14,v15,v16,v17,true)) <|
 bd (pG_slices_Contains_int m x18.Wins x18.Active) fun x21=>
 some (v12,x18,v13,v14,v15,v16,v17,!x21)) fun(x22,x23,x24,x25,x26,x27,x28,x29)=>
 br x29 (
 some (.inr (.inr false))) <|
 gd (roomB .int (x24++x23.Wins).length) <|
 gd (inK .i64 (x28+1)) <|
 some (.inl (x22,x24++x23.Wins,x25,x26,x27,x28+1))) <|
 some (.inr (.inl (v12,v13,v14)))
def pI_State_sessOk (m:Nat) (a1:IState):Option Bool:=
 jn (V:=IState×List Int×List Int) (
 loopF (pI_State_sessOk_b1 m) m (a1,[],[],a1.Sess,(↑a1.Sess.length:Int),0)) fun(v3,v4,v5)=>
 bd (α:=IState×List Int×List Int) (
 loopF (pI_State_sessOk_b2 m) m (v3,v4,v5,v3.Wins,(↑v3.Wins.length:Int),0)) fun(x7,x8,x9)=>
 bd (α:=Bool) (
 br (decide ((↑x7.Sess.length:Int)<=8)) (
 bd (pI_once m x8 x9) fun x10=>
 some x10) <|
 some false) fun x11=>
 some x11
theorem c101:CC (mo 101 [jS .iState] oB pI_State_sessOk):=mq (cs c176 (cs c180 (cs c177 (cs c179 cn)))) ⟨[(5,⟨[(1,.ptr 200 0),(6,.ptr 700 0)],[.sto 200 .iState [],.sto 700 .iSess [],eO 3 .int 1000,eO 4 .int 1100,eR 12 .iSess,eI 13,eI 14,eB 38]⟩),(14,⟨[],[eB 2]⟩)],[],[(3,true,⟨[(1,.ptr 200 0)],[.sto 200 .iState [],eO 3 .int 1000,eO 4 .int 1100,eR 12 .iSess,eI 13,eI 14]⟩,0,⟨[(1,.ptr 200 0)],[.sto 200 .iState [],eO 3 .int 1000,eO 4 .int 1100]⟩),(10,false,⟨[(1,.ptr 200 0)],[.sto 200 .iState [],eO 3 .int 1000,eO 4 .int 1100,eR 45 .iWin,eI 46,eI 47]⟩,2,⟨[(1,.ptr 200 0)],[.sto 200 .iState [],eO 3 .int 1000,eO 4 .int 1100]⟩)]⟩ Tryz.f101
def pI_Leaves (m:Nat) (a1:List INode):Option (List Int):=
 bd (pI_TreeOk m a1) fun x2=>
 br (!x2) (
 some []) <|
 bd (pI_leaves m a1) fun x3=>
 some x3
theorem c245:CC (mo 245 [.row .iNode] (.one (.own .int 99)) pI_Leaves):=mq (cs c274 (cs c178 cn)) tn Tryz.f245
def pI_WinOf_1 (m:Nat) (a1:IWin) (a2:Int):Option (Bool×Int):=
 bd (pI_Leaves m a1.Tree) fun x3=>
 bd (pG_slices_Contains_int m x3 a2) fun x4=>
 some (x4,a2)
theorem c1024400:CC (mx 244 [none,some (.ptr 0 0 0 0)] [jS .iWin,jI] 1 (.tup [.B,jI]) (q2 pI_WinOf_1)):=mq (cs c245 (cs c177 cn)) tn Tryz.f244
def pG_slices_IndexFunc_IWin_I_WinOf_1_b1 (m:Nat):Lp (Int×List IWin×Int×Int) (Int⊕Int×Int):=fun(v5,v6,v7,v8)=>
 br (decide (v8<v7)) (
 gd (0<=v8/\v8<(↑v6.length:Int)) <|
 bd v6[v8.toNat]? fun x9=>
 bd (pI_WinOf_1 m x9 v5) fun(x10,x11)=>
 br x10 (
 some (.inr (.inr (v8,x11)))) <|
 gd (inK .i64 (v8+1)) <|
 some (.inl (x11,v6,v7,v8+1))) <|
 some (.inr (.inl v5))
def pG_slices_IndexFunc_IWin_I_WinOf_1 (m:Nat) (a1:List IWin) (a2:Int):Option (Int×Int):=
 jn (V:=Int) (
 loopF (pG_slices_IndexFunc_IWin_I_WinOf_1_b1 m) m (a2,a1,(↑a1.length:Int),0)) fun v4=>
 some (-1,v4)
theorem c1023201:CC (mx 232 [none,some (.fn 244 [.ptr 0 0 0 0])] [.row .iWin,jI] 1 (.tup [jI,jI]) (q2 pG_slices_IndexFunc_IWin_I_WinOf_1)):=mq (cs c1024400 cn) ⟨[],[],[(2,true,⟨[(1,.fn 244 [(0,0)])],[.bxl 0 [jI],eR 0 .iWin,eI 7,eI 8]⟩,0,⟨[],[.bxl 0 [jI]]⟩)]⟩ Tryz.f232
def pI_WinOf (m:Nat) (a1:IState) (a2:Int):Option Int:=
 bd (pG_slices_IndexFunc_IWin_I_WinOf_1 m a1.Wins a2) fun(x3,x4)=>
 some x3
theorem c182:CC (mo 182 [jS .iState,jI] oI (q2 pI_WinOf)):=mq (cs c1023201 cn) tn Tryz.f182
def pI_PlaceOf_1 (m:Nat) (a1:IRect) (a2:Int):Option (Bool×Int):=
 some (a1.Pane==a2,a2)
theorem c1024700:CC (mx 247 [none,some (.ptr 0 0 0 0)] [jS .iRect,jI] 1 (.tup [.B,jI]) (q2 pI_PlaceOf_1)):=mq cn tn Tryz.f247
def pG_slices_IndexFunc_IRect_I_PlaceOf_1_b1 (m:Nat):Lp (Int×List IRect×Int×Int) (Int⊕Int×Int):=fun(v5,v6,v7,v8)=>
 br (decide (v8<v7)) (
 gd (0<=v8/\v8<(↑v6.length:Int)) <|
 bd v6[v8.toNat]? fun x9=>
 bd (pI_PlaceOf_1 m x9 v5) fun(x10,x11)=>
 br x10 (
 some (.inr (.inr (v8,x11)))) <|
 gd (inK .i64 (v8+1)) <|
 some (.inl (x11,v6,v7,v8+1))) <|
 some (.inr (.inl v5))
def pG_slices_IndexFunc_IRect_I_PlaceOf_1 (m:Nat) (a1:List IRect) (a2:Int):Option (Int×Int):=
 jn (V:=Int) (
 loopF (pG_slices_IndexFunc_IRect_I_PlaceOf_1_b1 m) m (a2,a1,(↑a1.length:Int),0)) fun v4=>
 some (-1,v4)
theorem c1024601:CC (mx 246 [none,some (.fn 247 [.ptr 0 0 0 0])] [.row .iRect,jI] 1 (.tup [jI,jI]) (q2 pG_slices_IndexFunc_IRect_I_PlaceOf_1)):=mq (cs c1024700 cn) ⟨[],[],[(2,true,⟨[(1,.fn 247 [(0,0)])],[.bxl 0 [jI],eR 0 .iRect,eI 7,eI 8]⟩,0,⟨[],[.bxl 0 [jI]]⟩)]⟩ Tryz.f246
def pI_PlaceOf (m:Nat) (a1:List INode) (a2 a3 a4:Int):Option (IRect×Bool):=
 bd (pI_Places m a1 a2 a3) fun(x5,x6)=>
 bd (pG_slices_IndexFunc_IRect_I_PlaceOf_1 m x5 a4) fun(x7,x8)=>
 br (decide (x7<0)) (
 some (IRect.mk 0 0 0 0 0,false)) <|
 gd (0<=x7/\x7<(↑x5.length:Int)) <|
 bd x5[x7.toNat]? fun x9=>
 some (x9,true)
theorem c183:CC (mo 183 [.row .iNode,jI,jI,jI] (.tup [jS .iRect,.B]) (q4 pI_PlaceOf)):=mq (cs c175 (cs c1024601 cn)) tn Tryz.f183
def pI_Area (m:Nat) (a1:IState) (a2:Int):Option (Int×Int):=
 bd (pI_WinOf m a1 a2) fun x3=>
 br (decide (x3<0)) (
 some (0,0)) <|
 gd (0<=x3/\x3<(↑a1.Wins.length:Int)) <|
 bd a1.Wins[x3.toNat]? fun x4=>
 bd (α:=IState×IWin×Int×Bool) (
 br x4.Zoom (
 some (a1,x4,a2,x4.Active==a2)) <|
 some (a1,x4,a2,false)) fun(x5,x6,x7,x8)=>
 br x8 (
 some (x5.W,x5.H)) <|
 bd (pI_PlaceOf m x6.Tree x5.W x5.H x7) fun(x9,x10)=>
 some (x9.W,x9.H)
theorem c104:CC (mo 104 [jS .iState,jI] (.tup [jI,jI]) (q2 pI_Area)):=mq (cs c182 (cs c183 cn)) ⟨[(5,⟨[(2,.ptr 300 0),(7,.ptr 800 0)],[.sto 300 .iState [],.sto 800 .iWin [],eI 1,eB 27]⟩)],[],[]⟩ Tryz.f104
def pI_StateOk_1 (m:Nat) (a1:IPane) (a2:IState):Option (Bool×IState):=
 bd (pI_Area m a2 a1.Id) fun(x3,x4)=>
 bd (α:=IState×Bool) (
 br (a1.Term.S.W !=x3) (
 some (a2,true)) <|
 some (a2,a1.Term.S.H !=x4)) fun(x5,x6)=>
 some (x6,x5)
theorem c1010300:CC (mx 103 [none,some (.ptr 0 0 0 0)] [jS .iPane,jS .iState] 1 (.tup [.B,jS .iState]) (q2 pI_StateOk_1)):=mq (cs c104 cn) ⟨[(2,⟨[],[.sto 0 .iState [],eB 3]⟩)],[],[]⟩ Tryz.f103
def pG_slices_IndexFunc_IPane_I_StateOk_1_b1 (m:Nat):Lp (IState×List IPane×Int×Int) (IState⊕Int×IState):=fun(v5,v6,v7,v8)=>
 br (decide (v8<v7)) (
 gd (0<=v8/\v8<(↑v6.length:Int)) <|
 bd v6[v8.toNat]? fun x9=>
 bd (pI_StateOk_1 m x9 v5) fun(x10,x11)=>
 br x10 (
 some (.inr (.inr (v8,x11)))) <|
 gd (inK .i64 (v8+1)) <|
 some (.inl (x11,v6,v7,v8+1))) <|
 some (.inr (.inl v5))
def pG_slices_IndexFunc_IPane_I_StateOk_1 (m:Nat) (a1:List IPane) (a2:IState):Option (Int×IState):=
 jn (V:=IState) (
 loopF (pG_slices_IndexFunc_IPane_I_StateOk_1_b1 m) m (a2,a1,(↑a1.length:Int),0)) fun v4=>
 some (-1,v4)
theorem c1018100:CC (mx 181 [none,some (.fn 103 [.ptr 0 0 0 0])] [.row .iPane,jS .iState] 1 (.tup [jI,jS .iState]) (q2 pG_slices_IndexFunc_IPane_I_StateOk_1)):=mq (cs c1010300 cn) ⟨[],[],[(2,true,⟨[(1,.fn 103 [(0,0)])],[.sto 0 .iState [],eR 0 .iPane,eI 7,eI 8]⟩,0,⟨[],[.sto 0 .iState []]⟩)]⟩ Tryz.f181
def pG_slices_ContainsFunc_IPane_I_StateOk_1 (m:Nat) (a1:List IPane) (a2:IState):Option (Bool×IState):=
 bd (pG_slices_IndexFunc_IPane_I_StateOk_1 m a1 a2) fun(x3,x4)=>
 some (decide (0<=x3),x4)
theorem c1010200:CC (mx 102 [none,some (.fn 103 [.ptr 0 0 0 0])] [.row .iPane,jS .iState] 1 (.tup [.B,jS .iState]) (q2 pG_slices_ContainsFunc_IPane_I_StateOk_1)):=mq (cs c1018100 cn) tn Tryz.f102
def pI_StateOk (m:Nat) (a1:IState):Option Bool:=
 bd (α:=IState×Bool) (
 bd (pI_isSize m a1.W a1.H) fun x2=>
 br (!x2) (
 some (a1,true)) <|
 bd (pI_within m a1.Limit 0 100) fun x3=>
 br (!x3) (
 some (a1,true)) <|
 bd (pI_isId m a1.Next) fun x4=>
 br (!x4) (
 some (a1,true)) <|
 bd (pI_State_panesOk m a1) fun x5=>
 br (!x5) (
 some (a1,true)) <|
 bd (pI_State_winsOk m a1) fun x6=>
 br (!x6) (
 some (a1,true)) <|
 bd (pI_State_sessOk m a1) fun x7=>
 some (a1,!x7)) fun(x8,x9)=>
 br x9 (
 some false) <|
 bd (pG_slices_ContainsFunc_IPane_I_StateOk_1 m x8.Panes x8) fun(x10,x11)=>
 some (!x10)
theorem c33:CC (mo 33 [jS .iState] oB pI_StateOk):=mq (cs c97 (cs c34 (cs c98 (cs c99 (cs c100 (cs c101 (cs c1010200 cn))))))) ⟨[(1,⟨[(1,.ptr 200 0)],[.sto 200 .iState [],eB 35]⟩)],[],[]⟩ Tryz.f33
def pI_Table_procOf_1 (m:Nat) (a1:IProc) (a2:Int):Option (Bool×Int):=
 some (a1.Pane==a2,a2)
theorem c1018500:CC (mx 185 [none,some (.ptr 0 0 0 0)] [jS .iProc,jI] 1 (.tup [.B,jI]) (q2 pI_Table_procOf_1)):=mq cn tn Tryz.f185
def pG_slices_IndexFunc_IProc_I_Table_procOf_1_b1 (m:Nat):Lp (Int×List IProc×Int×Int) (Int⊕Int×Int):=fun(v5,v6,v7,v8)=>
 br (decide (v8<v7)) (
 gd (0<=v8/\v8<(↑v6.length:Int)) <|
 bd v6[v8.toNat]? fun x9=>
 bd (pI_Table_procOf_1 m x9 v5) fun(x10,x11)=>
 br x10 (
 some (.inr (.inr (v8,x11)))) <|
 gd (inK .i64 (v8+1)) <|
 some (.inl (x11,v6,v7,v8+1))) <|
 some (.inr (.inl v5))
def pG_slices_IndexFunc_IProc_I_Table_procOf_1 (m:Nat) (a1:List IProc) (a2:Int):Option (Int×Int):=
 jn (V:=Int) (
 loopF (pG_slices_IndexFunc_IProc_I_Table_procOf_1_b1 m) m (a2,a1,(↑a1.length:Int),0)) fun v4=>
 some (-1,v4)
theorem c1018400:CC (mx 184 [none,some (.fn 185 [.ptr 0 0 0 0])] [.row .iProc,jI] 1 (.tup [jI,jI]) (q2 pG_slices_IndexFunc_IProc_I_Table_procOf_1)):=mq (cs c1018500 cn) ⟨[],[],[(2,true,⟨[(1,.fn 185 [(0,0)])],[.bxl 0 [jI],eR 0 .iProc,eI 7,eI 8]⟩,0,⟨[],[.bxl 0 [jI]]⟩)]⟩ Tryz.f184
def pI_Table_procOf (m:Nat) (a1:ITable) (a2:Int):Option Int:=
 bd (pG_slices_IndexFunc_IProc_I_Table_procOf_1 m a1.Live a2) fun(x3,x4)=>
 some x3
theorem c105:CC (mo 105 [jS .iTable,jI] oI (q2 pI_Table_procOf)):=mq (cs c1018400 cn) tn Tryz.f105
def pI_TableOk_b1 (m:Nat):Lp (ITable×List IProc×Int×Int) (ITable⊕Bool):=fun(v5,v6,v7,v8)=>
 br (decide (v8<v7)) (
 gd (0<=v8/\v8<(↑v6.length:Int)) <|
 bd v6[v8.toNat]? fun x9=>
 bd (α:=ITable×List IProc×Int×Int×Bool) (
 bd (pI_within m x9.Pid 1 (IntKind.i64.wrap (v5.Next-1))) fun x10=>
 br (!x10) (
 some (v5,v6,v7,v8,true)) <|
 br (decide (0<v8)) (
 gd (inK .i64 (v8-1)) <|
 gd (0<=v8-1/\v8-1<(↑v5.Live.length:Int)) <|
 bd (v5.Live[(v8-1).toNat]?) fun x11=>
 br (decide (x9.Pid<=x11.Pid)) (
 some (v5,v6,v7,v8,true)) <|
 bd (pI_isId m x9.Pane) fun x12=>
 br (!x12) (
 some (v5,v6,v7,v8,true)) <|
 bd (pI_Table_procOf m v5 x9.Pane) fun x13=>
 some (v5,v6,v7,v8,x13 !=v8)) <|
 bd (pI_isId m x9.Pane) fun x14=>
 br (!x14) (
 some (v5,v6,v7,v8,true)) <|
 bd (pI_Table_procOf m v5 x9.Pane) fun x15=>
 some (v5,v6,v7,v8,x15 !=v8)) fun(x16,x17,x18,x19,x20)=>
 br x20 (
 some (.inr (.inr false))) <|
 gd (inK .i64 (x19+1)) <|
 some (.inl (x16,x17,x18,x19+1))) <|
 some (.inr (.inl v5))
def pI_TableOk (m:Nat) (a1:ITable):Option Bool:=
 jn (V:=ITable) (
 loopF (pI_TableOk_b1 m) m (a1,a1.Live,(↑a1.Live.length:Int),0)) fun v3=>
 bd (pI_isId m v3.Next) fun x4=>
 some x4
theorem c35:CC (mo 35 [jS .iTable] oB pI_TableOk):=mq (cs c34 (cs c98 (cs c105 cn))) ⟨[(4,⟨[(1,.ptr 200 0)],[.sto 200 .iTable [],eR 6 .iProc,eI 7,eI 8,eB 49]⟩)],[],[(2,true,⟨[(1,.ptr 200 0)],[.sto 200 .iTable [],eR 6 .iProc,eI 7,eI 8]⟩,0,⟨[(1,.ptr 200 0)],[.sto 200 .iTable []]⟩)]⟩ Tryz.f35
def pI_OpsOf_b1 (m:Nat):Lp (Int×List IHist×Int×Int) Int:=fun(v4,v5,v6,v7)=>
 br (decide (v7<v6)) (
 bd (α:=Int×List IHist×Int×Int) (
 gd (0<=v7/\v7<(↑v5.length:Int)) <|
 bd v5[v7.toNat]? fun x8=>
 br (!x8.Lost) (
 gd (inK .i64 (v4+1)) <|
 some (v4+1,v5,v6,v7)) <|
 some (v4,v5,v6,v7)) fun(x9,x10,x11,x12)=>
 gd (inK .i64 (x12+1)) <|
 some (.inl (x9,x10,x11,x12+1))) <|
 some (.inr v4)
def pI_OpsOf (m:Nat) (a1:List IHist):Option Int:=
 bd (α:=Int) (
 loopF (pI_OpsOf_b1 m) m (0,a1,(↑a1.length:Int),0)) fun x3=>
 some x3
theorem c39:CC (mo 39 [.row .iHist] oI pI_OpsOf):=mq cn ⟨[],[(7,false,⟨[],[eI 3,eR 6 .iHist,eI 7,eI 8]⟩)],[(3,false,⟨[],[eI 3,eR 6 .iHist,eI 7,eI 8]⟩,0,⟨[],[eI 3]⟩)]⟩ Tryz.f39
def pI_Disk_used_b1 (m:Nat):Lp (Int×List IFile×Int×Int) Int:=fun(v4,v5,v6,v7)=>
 br (decide (v7<v6)) (
 gd (0<=v7/\v7<(↑v5.length:Int)) <|
 bd v5[v7.toNat]? fun x8=>
 gd (inK .i64 (v4+(↑x8.Body.length:Int))) <|
 gd (inK .i64 (v7+1)) <|
 some (.inl (v4+(↑x8.Body.length:Int),v5,v6,v7+1))) <|
 some (.inr v4)
def pI_Disk_used (m:Nat) (a1:IDisk):Option Int:=
 bd (α:=Int) (
 loopF (pI_Disk_used_b1 m) m (0,a1.Files,(↑a1.Files.length:Int),0)) fun x3=>
 some x3
theorem c192:CC (mo 192 [jS .iDisk] oI pI_Disk_used):=mq cn ⟨[],[],[(3,false,⟨[],[eI 3,eR 7 .iFile,eI 8,eI 9]⟩,0,⟨[],[eI 3]⟩)]⟩ Tryz.f192
def pI_Disk_filesOk_b1 (m:Nat):Lp (IDisk×List IFile×Int×Int) (IDisk⊕Bool):=fun(v6,v7,v8,v9)=>
 br (decide (v9<v8)) (
 gd (0<=v9/\v9<(↑v7.length:Int)) <|
 bd v7[v9.toNat]? fun x10=>
 bd (α:=IDisk×List IFile×Int×Int×Bool) (
 bd (pI_within m x10.Id 1 (IntKind.i64.wrap (v6.Next-1))) fun x11=>
 br (!x11) (
 some (v6,v7,v8,v9,true)) <|
 br (decide (0<v9)) (
 gd (inK .i64 (v9-1)) <|
 gd (0<=v9-1/\v9-1<(↑v6.Files.length:Int)) <|
 bd (v6.Files[(v9-1).toNat]?) fun x12=>
 br (decide (x10.Id<=x12.Id)) (
 some (v6,v7,v8,v9,true)) <|
 bd (pI_within m x10.Safe 0 (↑x10.Body.length:Int)) fun x13=>
 some (v6,v7,v8,v9,!x13)) <|
 bd (pI_within m x10.Safe 0 (↑x10.Body.length:Int)) fun x14=>
 some (v6,v7,v8,v9,!x14)) fun(x15,x16,x17,x18,x19)=>
 br x19 (
 some (.inr (.inr false))) <|
 gd (inK .i64 (x18+1)) <|
 some (.inl (x15,x16,x17,x18+1))) <|
 some (.inr (.inl v6))
def pI_Disk_filesOk (m:Nat) (a1:IDisk):Option Bool:=
 jn (V:=IDisk) (
 loopF (pI_Disk_filesOk_b1 m) m (a1,a1.Files,(↑a1.Files.length:Int),0)) fun v3=>
 bd (α:=Bool) (
 br (decide ((↑v3.Files.length:Int)<=10)) (
 bd (pI_Disk_used m v3) fun x4=>
 some (decide (x4<=v3.Room))) <|
 some false) fun x5=>
 some x5
theorem c112:CC (mo 112 [jS .iDisk] oB pI_Disk_filesOk):=mq (cs c34 (cs c192 cn)) ⟨[(4,⟨[(1,.ptr 200 0)],[.sto 200 .iDisk [],eR 6 .iFile,eI 7,eI 8,eB 44]⟩),(7,⟨[],[eB 2]⟩)],[],[(2,true,⟨[(1,.ptr 200 0)],[.sto 200 .iDisk [],eR 6 .iFile,eI 7,eI 8]⟩,0,⟨[(1,.ptr 200 0)],[.sto 200 .iDisk []]⟩)]⟩ Tryz.f112
def pI_NameOk (m:Nat) (a1:ByteArray):Option Bool:=
 bd (pI_isPlain m a1 16 (ByteArray.mk #[46])) fun x2=>
 some x2
theorem c193:CC (mo 193 [.S] oB pI_NameOk):=mq (cs c237 cn) tn Tryz.f193
def pI_isTurn (m:Nat) (a1:ITurn):Option Bool:=
 br (a1.Kind==1) (
 bd (α:=Bool) (
 bd (pI_NameOk m a1.Name) fun x2=>
 br x2 (
 some (decide (a1.To=ByteArray.mk #[]))) <|
 some false) fun x3=>
 some x3) <|
 br (a1.Kind==4) (
 bd (α:=Bool) (
 bd (pI_NameOk m a1.Name) fun x4=>
 br x4 (
 bd (pI_NameOk m a1.To) fun x5=>
 br x5 (
 some (a1.Id==0)) <|
 some false) <|
 some false) fun x6=>
 some x6) <|
 br (a1.Kind==5) (
 bd (α:=Bool) (
 bd (pI_NameOk m a1.Name) fun x7=>
 br x7 (
 br (decide (a1.To=ByteArray.mk #[])) (
 some (a1.Id==0)) <|
 some false) <|
 some false) fun x8=>
 some x8) <|
 some false
theorem c194:CC (mo 194 [jS .iTurn] oB pI_isTurn):=mq (cs c193 cn) ⟨[(3,⟨[],[eB 2]⟩),(5,⟨[],[eB 2]⟩),(7,⟨[],[eB 2]⟩)],[],[]⟩ Tryz.f194
def pI_linkOf_1 (m:Nat) (a1:ILink) (a2:ByteArray):Option (Bool×ByteArray):=
 some (decide (a1.Name=a2),a2)
theorem c1027900:CC (mx 279 [none,some (.ptr 0 0 0 0)] [jS .iLink,.S] 1 (.tup [.B,.S]) (q2 pI_linkOf_1)):=mq cn tn Tryz.f279
def pG_slices_IndexFunc_ILink_I_linkOf_1_b1 (m:Nat):Lp (ByteArray×List ILink×Int×Int) (ByteArray⊕Int×ByteArray):=fun(v5,v6,v7,v8)=>
 br (decide (v8<v7)) (
 gd (0<=v8/\v8<(↑v6.length:Int)) <|
 bd v6[v8.toNat]? fun x9=>
 bd (pI_linkOf_1 m x9 v5) fun(x10,x11)=>
 br x10 (
 some (.inr (.inr (v8,x11)))) <|
 gd (inK .i64 (v8+1)) <|
 some (.inl (x11,v6,v7,v8+1))) <|
 some (.inr (.inl v5))
def pG_slices_IndexFunc_ILink_I_linkOf_1 (m:Nat) (a1:List ILink) (a2:ByteArray):Option (Int×ByteArray):=
 jn (V:=ByteArray) (
 loopF (pG_slices_IndexFunc_ILink_I_linkOf_1_b1 m) m (a2,a1,(↑a1.length:Int),0)) fun v4=>
 some (-1,v4)
theorem c1027800:CC (mx 278 [none,some (.fn 279 [.ptr 0 0 0 0])] [.row .iLink,.S] 1 (.tup [jI,.S]) (q2 pG_slices_IndexFunc_ILink_I_linkOf_1)):=mq (cs c1027900 cn) ⟨[],[],[(2,true,⟨[(1,.fn 279 [(0,0)])],[.bxl 0 [.S],eR 0 .iLink,eI 7,eI 8]⟩,0,⟨[],[.bxl 0 [.S]]⟩)]⟩ Tryz.f278
def pI_linkOf (m:Nat) (a1:List ILink) (a2:ByteArray):Option Int:=
 bd (pG_slices_IndexFunc_ILink_I_linkOf_1 m a1 a2) fun(x3,x4)=>
 some x3
theorem c249:CC (mo 249 [.row .iLink,.S] oI (q2 pI_linkOf)):=mq (cs c1027800 cn) tn Tryz.f249
def pG_slices_Clone_ILink (m:Nat) (a1:List ILink):Option (List ILink):=
 cmpN a1 (
 some []) <|
 gd (roomB .iLink ([]++a1).length) <|
 some ([]++a1)
theorem c285:CC (mo 285 [.row .iLink] (.one (.own .iLink 99)) pG_slices_Clone_ILink):=mq cn tn Tryz.f285
def pI_withLink_1 (m:Nat) (a1 a2:ILink):Option Int:=
 bd (pG_strings_Compare a1.Name a2.Name) fun x3=>
 some x3
theorem c282:CC (mo 282 [jS .iLink,jS .iLink] oI (q2 pI_withLink_1)):=mq (cs c283 cn) tn Tryz.f282
def pG_slices_BinarySearchFunc_ILink_I_withLink_1_b1 (m:Nat):Lp (ILink×List ILink×Int×Int×Int) (ILink×List ILink×Int×Int):=fun(v12,v13,v14,v15,v16)=>
 br (decide (v15<v16)) (
 gd (inK .i64 (v15+v16)) <|
 gd ((0:Int)<=(1:Int)) <|
 gd (inK .i64 ((IntKind.u64.wrap (v15+v16)).fdiv (2 ^ min (Int.toNat 1) IntKind.u64.bits))) <|
 gd (0<=(IntKind.u64.wrap (v15+v16)).fdiv (2 ^ min (Int.toNat 1) IntKind.u64.bits)/\(IntKind.u64.wrap (v15+v16)).fdiv (2 ^ min (Int.toNat 1) IntKind.u64.bits)<(↑v13.length:Int)) <|
 bd (v13[((IntKind.u64.wrap (v15+v16)).fdiv (2 ^ min (Int.toNat 1) IntKind.u64.bits)).toNat]?) fun x17=>
 bd (pI_withLink_1 m x17 v12) fun x18=>
 br (decide (x18<0)) (
 gd (inK .i64 ((IntKind.u64.wrap (v15+v16)).fdiv (2 ^ min (Int.toNat 1) IntKind.u64.bits)+1)) <|
 some (.inl (v12,v13,v14,(IntKind.u64.wrap (v15+v16)).fdiv (2 ^ min (Int.toNat 1) IntKind.u64.bits)+1,v16))) <|
 some (.inl (v12,v13,v14,v15,(IntKind.u64.wrap (v15+v16)).fdiv (2 ^ min (Int.toNat 1) IntKind.u64.bits)))) <|
 some (.inr (v12,v13,v14,v15))
def pG_slices_BinarySearchFunc_ILink_I_withLink_1 (m:Nat) (a1:List ILink) (a2:ILink):Option (Int×Bool):=
 bd (α:=ILink×List ILink×Int×Int) (
 loopF (pG_slices_BinarySearchFunc_ILink_I_withLink_1_b1 m) m (a2,a1,(↑a1.length:Int),0,(↑a1.length:Int))) fun(x4,x5,x6,x7)=>
 bd (α:=Int×Bool) (
 br (decide (x7<x6)) (
 gd (0<=x7/\x7<(↑x5.length:Int)) <|
 bd x5[x7.toNat]? fun x8=>
 bd (pI_withLink_1 m x8 x4) fun x9=>
 some (x7,x9==0)) <|
 some (x7,false)) fun(x10,x11)=>
 some (x10,x11)
theorem c1028100:CC (mx 281 [none,none,some (.fn 282 [])] [.row .iLink,jS .iLink] 0 (.tup [jI,.B]) (q2 pG_slices_BinarySearchFunc_ILink_I_withLink_1)):=mq (cs c282 cn) ⟨[(8,⟨[],[eI 6,eB 7]⟩)],[],[(3,false,⟨[(2,.fn 282 []),(4,.ptr 500 0)],[.sto 500 .iLink [],eR 0 .iLink,eI 8,eI 9,eI 10]⟩,0,⟨[(2,.fn 282 []),(4,.ptr 500 0)],[.sto 500 .iLink [],eR 0 .iLink,eI 8,eI 9]⟩)]⟩ Tryz.f281
def pI_withLink (m:Nat) (a1:List ILink) (a2:ILink):Option (List ILink):=
 bd (pG_slices_BinarySearchFunc_ILink_I_withLink_1 m a1 a2) fun(x3,x4)=>
 bd (pG_slices_Clone_ILink m a1) fun x5=>
 bd (pG_slices_Insert_ILink x5 x3 [a2]) fun x6=>
 some x6
theorem c254:CC (mo 254 [.row .iLink,jS .iLink] (.one (.own .iLink 99)) (q2 pI_withLink)):=mq (cs c1028100 (cs c285 (cs c284 cn))) tn Tryz.f254
def pI_withoutLink_1 (m:Nat) (a1:ILink) (a2:ByteArray):Option (Bool×ByteArray):=
 some (decide (a1.Name=a2),a2)
theorem c1028700:CC (mx 287 [none,some (.ptr 0 0 0 0)] [jS .iLink,.S] 1 (.tup [.B,.S]) (q2 pI_withoutLink_1)):=mq cn tn Tryz.f287
def pG_slices_IndexFunc_ILink_I_withoutLink_1_b1 (m:Nat):Lp (ByteArray×List ILink×Int×Int) (ByteArray⊕Int×ByteArray):=fun(v5,v6,v7,v8)=>
 br (decide (v8<v7)) (
 gd (0<=v8/\v8<(↑v6.length:Int)) <|
 bd v6[v8.toNat]? fun x9=>
 bd (pI_withoutLink_1 m x9 v5) fun(x10,x11)=>
 br x10 (
 some (.inr (.inr (v8,x11)))) <|
 gd (inK .i64 (v8+1)) <|
 some (.inl (x11,v6,v7,v8+1))) <|
 some (.inr (.inl v5))
def pG_slices_IndexFunc_ILink_I_withoutLink_1 (m:Nat) (a1:List ILink) (a2:ByteArray):Option (Int×ByteArray):=
 jn (V:=ByteArray) (
 loopF (pG_slices_IndexFunc_ILink_I_withoutLink_1_b1 m) m (a2,a1,(↑a1.length:Int),0)) fun v4=>
 some (-1,v4)
theorem c1027801:CC (mx 278 [none,some (.fn 287 [.ptr 0 0 0 0])] [.row .iLink,.S] 1 (.tup [jI,.S]) (q2 pG_slices_IndexFunc_ILink_I_withoutLink_1)):=mq (cs c1028700 cn) ⟨[],[],[(2,true,⟨[(1,.fn 287 [(0,0)])],[.bxl 0 [.S],eR 0 .iLink,eI 7,eI 8]⟩,0,⟨[],[.bxl 0 [.S]]⟩)]⟩ Tryz.f278
def pG_slices_DeleteFunc_ILink_I_withoutLink_1_b1 (m:Nat):Lp (ByteArray×List ILink×Int×Int) (ByteArray×List ILink×Int):=fun(v9,v10,v11,v12)=>
 br (decide (v12<(↑v10.length:Int))) (
 bd (α:=ByteArray×List ILink×Int×Int) (
 gd (0<=v12/\v12<(↑v10.length:Int)) <|
 bd (v10[0+v12.toNat]?) fun x13=>
 bd (pI_withoutLink_1 m x13 v9) fun(x14,x15)=>
 br (!x14) (
 gd (0<=v11/\v11<(↑v10.length:Int)) <|
 bd (v10[0+v11.toNat]?) fun x16=>
 gd (inK .i64 (v11+1)) <|
 some (x15,v10.set (0+v11.toNat) x13,v11+1,v12)) <|
 some (x15,v10,v11,v12)) fun(x17,x18,x19,x20)=>
 gd (inK .i64 (x20+1)) <|
 some (.inl (x17,x18,x19,x20+1))) <|
 some (.inr (v9,v10,v11))
def pG_slices_DeleteFunc_ILink_I_withoutLink_1 (m:Nat) (a1:List ILink) (a2:ByteArray):Option (List ILink×ByteArray):=
 bd (pG_slices_IndexFunc_ILink_I_withoutLink_1 m a1 a2) fun(x3,x4)=>
 br (x3== -1) (
 some (a1,x4)) <|
 gd (inK .i64 (x3+1)) <|
 bd (α:=ByteArray×List ILink×Int) (
 loopF (pG_slices_DeleteFunc_ILink_I_withoutLink_1_b1 m) m (x4,a1,x3,x3+1)) fun(x6,x7,x8)=>
 gd (0<=x8/\x8<=(↑x7.length:Int)) <|
 gd (0<=x8/\x8<=(↑x7.length:Int)) <|
 some (List.take (x8.toNat-0) (List.drop (0+0) (putL x7 (0+x8.toNat) (List.replicate (x7.length-x8.toNat) (zK K.iLink)))),x6)
theorem c1028600:CC (mx 286 [none,some (.fn 287 [.ptr 0 0 0 0])] [.own .iLink 99,.S] 1 (.tup [.row .iLink,.S]) (q2 pG_slices_DeleteFunc_ILink_I_withoutLink_1)):=mq (cs c1027801 (cs c1028700 cn)) ⟨[],[(6,false,⟨[(1,.fn 287 [(0,0)])],[.bxl 0 [.S],eO 0 .iLink 90000000,eI 5,eI 6]⟩)],[(5,false,⟨[(1,.fn 287 [(0,0)])],[.bxl 0 [.S],eO 0 .iLink 90000000,eI 5,eI 6]⟩,0,⟨[],[.bxl 0 [.S],eO 0 .iLink 90000000,eI 5]⟩)]⟩ Tryz.f286
def pI_withoutLink (m:Nat) (a1:List ILink) (a2:ByteArray):Option (List ILink):=
 bd (pG_slices_Clone_ILink m a1) fun x3=>
 bd (pG_slices_DeleteFunc_ILink_I_withoutLink_1 m x3 a2) fun(x4,x5)=>
 some x4
theorem c255:CC (mo 255 [.row .iLink,.S] (.one (.row .iLink)) (q2 pI_withoutLink)):=mq (cs c285 (cs c1028600 cn)) tn Tryz.f255
def pI_applied (m:Nat) (a1:List ILink) (a2:ITurn):Option (List ILink×Bool):=
 bd (pI_linkOf m a1 a2.Name) fun x3=>
 br (a2.Kind==1) (
 br (decide (0<=x3)) (
 some ([],false)) <|
 bd (pI_withLink m a1 (ILink.mk a2.Name a2.Id)) fun x4=>
 some (x4,true)) <|
 bd (α:=ITurn×List ILink×Int×Bool) (
 br (decide (x3<0)) (
 some (a2,a1,x3,true)) <|
 br (a2.Kind==4) (
 some (a2,a1,x3,decide (a2.To=a2.Name))) <|
 some (a2,a1,x3,false)) fun(x5,x6,x7,x8)=>
 br x8 (
 some ([],false)) <|
 gd (0<=x7/\x7<(↑x6.length:Int)) <|
 bd x6[x7.toNat]? fun x9=>
 bd (pI_withoutLink m x6 x5.Name) fun x10=>
 bd (α:=List ILink) (
 br (x5.Kind==4) (
 bd (pI_withoutLink m x10 x5.To) fun x11=>
 bd (pI_withLink m x11 (ILink.mk x5.To x9.Id)) fun x12=>
 some x12) <|
 some x10) fun x13=>
 some (x13,true)
theorem c195:CC (mo 195 [.row .iLink,jS .iTurn] (.tup [.row .iLink,.B]) (q2 pI_applied)):=mq (cs c249 (cs c254 (cs c255 cn))) ⟨[(6,⟨[(3,.ptr 400 0)],[.sto 400 .iTurn [],eR 0 .iLink,eI 6,eB 38]⟩)],[(11,false,⟨[],[eR 8 .iLink]⟩)],[]⟩ Tryz.f195
def pI_Disk_linksOk_1 (m:Nat) (a1:Int) (a2:IFile):Option Bool:=
 some (a1==a2.Id)
theorem c198:CC (mo 198 [jI,jS .iFile] oB (q2 pI_Disk_linksOk_1)):=mq cn tn Tryz.f198
def pG_slices_EqualFunc_IFile_I_Disk_linksOk_1_b1 (m:Nat):Lp (List IFile×List Int×Int×Int) (Unit⊕Bool):=fun(v4,v5,v6,v7)=>
 br (decide (v7<v6)) (
 gd (0<=v7/\v7<(↑v5.length:Int)) <|
 bd v5[v7.toNat]? fun x8=>
 gd (0<=v7/\v7<(↑v4.length:Int)) <|
 bd v4[v7.toNat]? fun x9=>
 bd (pI_Disk_linksOk_1 m x8 x9) fun x10=>
 br (!x10) (
 some (.inr (.inr false))) <|
 gd (inK .i64 (v7+1)) <|
 some (.inl (v4,v5,v6,v7+1))) <|
 some (.inr (.inl ()))
def pG_slices_EqualFunc_IFile_I_Disk_linksOk_1 (m:Nat) (a1:List Int) (a2:List IFile):Option Bool:=
 br ((↑a1.length:Int) !=(↑a2.length:Int)) (
 some false) <|
 jn (V:=Unit) (
 loopF (pG_slices_EqualFunc_IFile_I_Disk_linksOk_1_b1 m) m (a2,a1,(↑a1.length:Int),0)) fun _=>
 some true
theorem c1019700:CC (mx 197 [none,none,some (.fn 198 [])] [.row .int,.row .iFile] 0 oB (q2 pG_slices_EqualFunc_IFile_I_Disk_linksOk_1)):=mq (cs c198 cn) ⟨[],[],[(4,true,⟨[(2,.fn 198 [])],[eR 1 .iFile,eR 15 .int,eI 16,eI 17]⟩,0,⟨[],[]⟩)]⟩ Tryz.f197
def pI_Disk_linksOk_b2 (m:Nat):Lp (IDisk×List Int×List ILink×List ITurn×Int×Int) (IDisk×List Int⊕Bool):=fun(v27,v28,v29,v30,v31,v32)=>
 br (decide (v32<v31)) (
 jn (V:=IDisk×List Int×List ILink×List ITurn×Int×Int) (
 gd (0<=v32/\v32<(↑v30.length:Int)) <|
 bd v30[v32.toNat]? fun x33=>
 bd (pI_isTurn m x33) fun x34=>
 br (!x34) (
 some (.inr (.inr (.inr false)))) <|
 bd (pI_applied m v29 x33) fun(x35,x36)=>
 br (!x36) (
 some (.inr (.inr (.inr false)))) <|
 br (x33.Kind==1) (
 gd (roomB .int (v28++ [x33.Id]).length) <|
 some (.inl (v27,v28++ [x33.Id],x35,v30,v31,v32))) <|
 some (.inl (v27,v28,x35,v30,v31,v32))) fun(v37,v38,v39,v40,v41,v42)=>
 gd (inK .i64 (v42+1)) <|
 some (.inl (v37,v38,v39,v40,v41,v42+1))) <|
 some (.inr (.inl (v27,v28)))
def pI_Disk_linksOk_b1 (m:Nat):Lp (IDisk×List Int×List ILink×Int×Int) (IDisk×List Int⊕Bool):=fun(v12,v13,v14,v15,v16)=>
 br (decide (v16<v15)) (
 gd (0<=v16/\v16<(↑v14.length:Int)) <|
 bd v14[v16.toNat]? fun x17=>
 bd (α:=IDisk×ILink×List Int×List ILink×Int×Int×Bool) (
 bd (pI_NameOk m x17.Name) fun x18=>
 br (!x18) (
 some (v12,x17,v13,v14,v15,v16,true)) <|
 br (decide (0<v16)) (
 gd (inK .i64 (v16-1)) <|
 gd (0<=v16-1/\v16-1<(↑v12.Kept.length:Int)) <|
 bd (v12.Kept[(v16-1).toNat]?) fun x19=>
 some (v12,x17,v13,v14,v15,v16,!Op.bytesLess x19.Name.toList x17.Name.toList)) <|
 some (v12,x17,v13,v14,v15,v16,false)) fun(x20,x21,x22,x23,x24,x25,x26)=>
 br x26 (
 some (.inr (.inr false))) <|
 gd (roomB .int (x22++ [x21.Id]).length) <|
 gd (inK .i64 (x25+1)) <|
 some (.inl (x20,x22++ [x21.Id],x23,x24,x25+1))) <|
 some (.inr (.inl (v12,v13)))
def pI_Disk_linksOk (m:Nat) (a1:IDisk):Option Bool:=
 bd (α:=IDisk×Bool) (
 br (decide (30<(↑a1.Turns.length:Int))) (
 some (a1,true)) <|
 some (a1,decide (10<(↑a1.Kept.length:Int)))) fun(x2,x3)=>
 br x3 (
 some false) <|
 jn (V:=IDisk×List Int) (
 loopF (pI_Disk_linksOk_b1 m) m (x2,[],x2.Kept,(↑x2.Kept.length:Int),0)) fun(v5,v6)=>
 jn (V:=IDisk×List Int) (
 loopF (pI_Disk_linksOk_b2 m) m (v5,v6,v5.Kept,v5.Turns,(↑v5.Turns.length:Int),0)) fun(v8,v9)=>
 bd (pG_slices_Sort_int v9) fun x10=>
 bd (pG_slices_EqualFunc_IFile_I_Disk_linksOk_1 m x10 v8.Files) fun x11=>
 some x11
theorem c113:CC (mo 113 [jS .iDisk] oB pI_Disk_linksOk):=mq (cs c193 (cs c194 (cs c195 (cs c196 (cs c1019700 cn))))) ⟨[(1,⟨[(1,.ptr 200 0)],[.sto 200 .iDisk [],eB 19]⟩),(7,⟨[(1,.ptr 200 0),(5,.ptr 600 0)],[.sto 200 .iDisk [],.sto 600 .iLink [],eO 3 .int 2100,eR 22 .iLink,eI 23,eI 24,eB 48]⟩)],[(22,true,⟨[(1,.ptr 200 0)],[.sto 200 .iDisk [],eO 3 .int 2100,eR 6 .iLink,eR 58 .iTurn,eI 59,eI 60]⟩)],[(5,true,⟨[(1,.ptr 200 0)],[.sto 200 .iDisk [],eO 3 .int 2100,eR 22 .iLink,eI 23,eI 24]⟩,0,⟨[(1,.ptr 200 0)],[.sto 200 .iDisk [],eO 3 .int 2100]⟩),(13,true,⟨[(1,.ptr 200 0)],[.sto 200 .iDisk [],eO 3 .int 2100,eR 6 .iLink,eR 58 .iTurn,eI 59,eI 60]⟩,2,⟨[(1,.ptr 200 0)],[.sto 200 .iDisk [],eO 3 .int 2100]⟩)]⟩ Tryz.f113
def pI_DiskOk (m:Nat) (a1:IDisk):Option Bool:=
 bd (α:=Bool) (
 bd (pI_within m a1.Room 0 400000) fun x2=>
 br x2 (
 bd (pI_within m a1.Fuse (-1) 1000) fun x3=>
 br x3 (
 bd (pI_within m a1.Next 1 1000000) fun x4=>
 br x4 (
 bd (pI_Disk_filesOk m a1) fun x5=>
 br x5 (
 bd (pI_Disk_linksOk m a1) fun x6=>
 some x6) <|
 some false) <|
 some false) <|
 some false) <|
 some false) fun x7=>
 some x7
theorem c44:CC (mo 44 [jS .iDisk] oB pI_DiskOk):=mq (cs c34 (cs c112 (cs c113 cn))) ⟨[(1,⟨[],[eB 2]⟩)],[],[]⟩ Tryz.f44
def pI_isGen (m:Nat) (a1:Int):Option Bool:=
 bd (pI_within m a1 1 1000000000) fun x2=>
 some x2
theorem c109:CC (mo 109 [jI] oB pI_isGen):=mq (cs c34 cn) tn Tryz.f109
def pI_dirOf_b1 (m:Nat):Lp (List ILink×List ITurn×Int×Int) (List ILink):=fun(v6,v7,v8,v9)=>
 br (decide (v9<v8)) (
 gd (0<=v9/\v9<(↑v7.length:Int)) <|
 bd v7[v9.toNat]? fun x10=>
 bd (pI_applied m v6 x10) fun(x11,x12)=>
 gd (inK .i64 (v9+1)) <|
 some (.inl (x11,v7,v8,v9+1))) <|
 some (.inr v6)
def pI_dirOf (m:Nat) (a1:List ILink) (a2:List ITurn):Option (List ILink):=
 bd (pG_slices_Clone_ILink m a1) fun x3=>
 bd (α:=List ILink) (
 loopF (pI_dirOf_b1 m) m (x3,a2,(↑a2.length:Int),0)) fun x5=>
 some x5
theorem c277:CC (mo 277 [.row .iLink,.row .iTurn] (.one (.row .iLink)) (q2 pI_dirOf)):=mq (cs c285 (cs c195 cn)) ⟨[],[],[(3,false,⟨[],[eR 5 .iLink,eR 10 .iTurn,eI 11,eI 12]⟩,0,⟨[],[eR 5 .iLink]⟩)]⟩ Tryz.f277
def pI_Disk_dir (m:Nat) (a1:IDisk):Option (List ILink):=
 bd (pI_dirOf m a1.Kept a1.Turns) fun x2=>
 some x2
theorem c248:CC (mo 248 [jS .iDisk] (.one (.row .iLink)) pI_Disk_dir):=mq (cs c277 cn) tn Tryz.f248
def pI_Disk_file_1 (m:Nat) (a1:IFile) (a2:List ILink) (a3:Int):Option (Bool×List ILink×Int):=
 gd (0<=a3/\a3<(↑a2.length:Int)) <|
 bd a2[a3.toNat]? fun x4=>
 some (a1.Id==x4.Id,a2,a3)
theorem c1025100:CC (mx 251 [none,some (.ptr 0 0 0 0),some (.ptr 1 0 0 0)] [jS .iFile,.row .iLink,jI] 2 (.tup [.B,.row .iLink,jI]) (q3 pI_Disk_file_1)):=mq cn tn Tryz.f251
def pG_slices_IndexFunc_IFile_I_Disk_file_1_b1 (m:Nat):Lp (List ILink×Int×List IFile×Int×Int) (List ILink×Int⊕Int×List ILink×Int):=fun(v7,v8,v9,v10,v11)=>
 br (decide (v11<v10)) (
 gd (0<=v11/\v11<(↑v9.length:Int)) <|
 bd v9[v11.toNat]? fun x12=>
 bd (pI_Disk_file_1 m x12 v7 v8) fun(x13,x14,x15)=>
 br x13 (
 some (.inr (.inr (v11,x14,x15)))) <|
 gd (inK .i64 (v11+1)) <|
 some (.inl (x14,x15,v9,v10,v11+1))) <|
 some (.inr (.inl (v7,v8)))
def pG_slices_IndexFunc_IFile_I_Disk_file_1 (m:Nat) (a1:List IFile) (a2:List ILink) (a3:Int):Option (Int×List ILink×Int):=
 jn (V:=List ILink×Int) (
 loopF (pG_slices_IndexFunc_IFile_I_Disk_file_1_b1 m) m (a2,a3,a1,(↑a1.length:Int),0)) fun(v5,v6)=>
 some (-1,v5,v6)
theorem c1025000:CC (mx 250 [none,some (.fn 251 [.ptr 0 0 0 0,.ptr 1 0 0 0])] [.row .iFile,.row .iLink,jI] 2 (.tup [jI,.row .iLink,jI]) (q3 pG_slices_IndexFunc_IFile_I_Disk_file_1)):=mq (cs c1025100 cn) ⟨[],[],[(2,true,⟨[(1,.fn 251 [(0,0),(1,0)])],[.bxl 0 [.row .iLink],.bxl 1 [jI],eR 0 .iFile,eI 7,eI 8]⟩,0,⟨[],[.bxl 0 [.row .iLink],.bxl 1 [jI]]⟩)]⟩ Tryz.f250
def pI_Disk_file (m:Nat) (a1:IDisk) (a2:ByteArray):Option Int:=
 bd (pI_Disk_dir m a1) fun x3=>
 bd (pI_linkOf m x3 a2) fun x4=>
 br (decide (x4<0)) (
 some (-1)) <|
 bd (pG_slices_IndexFunc_IFile_I_Disk_file_1 m a1.Files x3 x4) fun(x5,x6,x7)=>
 some x5
theorem c189:CC (mo 189 [jS .iDisk,.S] oI (q2 pI_Disk_file)):=mq (cs c248 (cs c249 (cs c1025000 cn))) tn Tryz.f189
def pG_slices_Clone_byte (m:Nat) (a1:List UInt8):Option (List UInt8):=
 cmpN a1 (
 some []) <|
 gd (roomB .u8 ([]++a1).length) <|
 some ([]++a1)
theorem c190:CC (mo 190 [.row .u8] (.one (.own .u8 99)) pG_slices_Clone_byte):=mq cn tn Tryz.f190
def pI_DiskRead (m:Nat) (a1:IDisk) (a2:ByteArray):Option (List UInt8×Bool):=
 bd (pI_DiskOk m a1) fun x3=>
 br (!x3) (
 some ([],false)) <|
 bd (pI_Disk_file m a1 a2) fun x4=>
 br (decide (x4<0)) (
 some ([],false)) <|
 gd (0<=x4/\x4<(↑a1.Files.length:Int)) <|
 bd a1.Files[x4.toNat]? fun x5=>
 bd (pG_slices_Clone_byte m x5.Body) fun x6=>
 some (x6,true)
theorem c110:CC (mo 110 [jS .iDisk,.S] (.tup [.own .u8 99,.B]) (q2 pI_DiskRead)):=mq (cs c44 (cs c189 (cs c190 cn))) tn Tryz.f110
def pI_isNum (m:Nat) (a1:Int):Option Bool:=
 bd (pI_within m a1 0 4294967295) fun x2=>
 some x2
theorem c252:CC (mo 252 [jI] oB pI_isNum):=mq (cs c34 cn) tn Tryz.f252
def pI_NumText (m:Nat) (a1:Int):Option ByteArray:=
 bd (pI_isNum m a1) fun x2=>
 br (!x2) (
 some (ByteArray.mk #[])) <|
 bd (pG_strconv_Itoa a1) fun x3=>
 some x3
theorem c191:CC (mo 191 [jI] (.one .S) pI_NumText):=mq (cs c252 (cs c253 cn)) tn Tryz.f191
def pI_LogName (m:Nat) (a1:Int):Option ByteArray:=
 bd (pI_isGen m a1) fun x2=>
 br (!x2) (
 some (ByteArray.mk #[])) <|
 bd (pI_NumText m a1) fun x3=>
 gd ((ByteArray.mk #[108,111,103,46]).size+x3.size<=9223372036854775807) <|
 some (ByteArray.mk #[108,111,103,46]++x3)
theorem c111:CC (mo 111 [jI] (.one .S) pI_LogName):=mq (cs c109 (cs c191 cn)) tn Tryz.f111
def pI_DepotOk (m:Nat) (a1:IDepot):Option Bool:=
 bd (α:=IDepot×Bool) (
 bd (pI_DiskOk m a1.Disk) fun x2=>
 br (!x2) (
 some (a1,true)) <|
 bd (pI_isGen m a1.Gen) fun x3=>
 br (!x3) (
 some (a1,true)) <|
 bd (pI_within m a1.Seq 1 1000000001) fun x4=>
 br (!x4) (
 some (a1,true)) <|
 some (a1,decide (a1.Size<0))) fun(x5,x6)=>
 br x6 (
 some false) <|
 bd (α:=IDepot×Bool) (
 br (x5.Disk.Fuse==0) (
 some (x5,true)) <|
 some (x5,x5.Stuck)) fun(x7,x8)=>
 br x8 (
 some true) <|
 bd (pI_LogName m x7.Gen) fun x9=>
 bd (pI_DiskRead m x7.Disk x9) fun(x10,x11)=>
 bd (α:=Bool) (
 br x11 (
 some ((↑x10.length:Int)==x7.Size)) <|
 some false) fun x12=>
 some x12
theorem c40:CC (mo 40 [jS .iDepot] oB pI_DepotOk):=mq (cs c44 (cs c109 (cs c34 (cs c111 (cs c110 cn))))) ⟨[(1,⟨[(1,.ptr 200 0)],[.sto 200 .iDepot [],eB 25]⟩),(3,⟨[(1,.ptr 200 0)],[.sto 200 .iDepot [],eB 33]⟩),(6,⟨[],[eB 2]⟩)],[],[]⟩ Tryz.f40
def pI_isZeroDisk (m:Nat) (a1:IDisk):Option Bool:=
 bd (α:=Bool) (
 br (a1.Room==0) (
 br (a1.Fuse==0) (
 br (a1.Next==0) (
 gd (inK .i64 ((↑a1.Files.length:Int)+(↑a1.Kept.length:Int))) <|
 gd (inK .i64 ((↑a1.Files.length:Int)+(↑a1.Kept.length:Int)+(↑a1.Turns.length:Int))) <|
 some ((↑a1.Files.length:Int)+(↑a1.Kept.length:Int)+(↑a1.Turns.length:Int)==0)) <|
 some false) <|
 some false) <|
 some false) fun x2=>
 some x2
theorem c41:CC (mo 41 [jS .iDisk] oB pI_isZeroDisk):=mq cn ⟨[(1,⟨[],[eB 2]⟩)],[],[]⟩ Tryz.f41
def pI_isZeroState (m:Nat) (a1:IState):Option Bool:=
 bd (α:=Bool) (
 br (a1.W==0) (
 br (a1.H==0) (
 br (a1.Limit==0) (
 br (a1.Next==0) (
 gd (inK .i64 ((↑a1.Panes.length:Int)+(↑a1.Wins.length:Int))) <|
 gd (inK .i64 ((↑a1.Panes.length:Int)+(↑a1.Wins.length:Int)+(↑a1.Sess.length:Int))) <|
 some ((↑a1.Panes.length:Int)+(↑a1.Wins.length:Int)+(↑a1.Sess.length:Int)==0)) <|
 some false) <|
 some false) <|
 some false) <|
 some false) fun x2=>
 some x2
theorem c42:CC (mo 42 [jS .iState] oB pI_isZeroState):=mq cn ⟨[(1,⟨[],[eB 2]⟩)],[],[]⟩ Tryz.f42
def pI_isZeroDepot (m:Nat) (a1:IDepot):Option Bool:=
 bd (α:=Bool) (
 bd (pI_isZeroDisk m a1.Disk) fun x2=>
 br x2 (
 br (a1.Gen==0) (
 br (a1.Seq==0) (
 br (a1.Size==0) (
 some (!a1.Stuck)) <|
 some false) <|
 some false) <|
 some false) <|
 some false) fun x3=>
 some x3
theorem c43:CC (mo 43 [jS .iDepot] oB pI_isZeroDepot):=mq (cs c41 cn) ⟨[(1,⟨[],[eB 2]⟩)],[],[]⟩ Tryz.f43
def pI_isZeroOp (m:Nat) (a1:IOp):Option Bool:=
 bd (α:=Bool) (
 br (a1.Kind==0) (
 br (a1.A==0) (
 br (a1.B==0) (
 br (a1.C==0) (
 br (decide (a1.Name=ByteArray.mk #[])) (
 br (decide (a1.Text=ByteArray.mk #[])) (
 br (decide (a1.Dir=ByteArray.mk #[])) (
 some ((↑a1.Data.length:Int)==0)) <|
 some false) <|
 some false) <|
 some false) <|
 some false) <|
 some false) <|
 some false) <|
 some false) fun x2=>
 some x2
theorem c107:CC (mo 107 [jS .iOp] oB pI_isZeroOp):=mq cn ⟨[(1,⟨[],[eB 2]⟩)],[],[]⟩ Tryz.f107
def pI_isSide (m:Nat) (a1:Int):Option Bool:=
 bd (α:=Bool) (
 br (a1==76) (
 some true) <|
 br (a1==82) (
 some true) <|
 br (a1==85) (
 some true) <|
 some (a1==68)) fun x2=>
 some x2
theorem c187:CC (mo 187 [jI] oB pI_isSide):=mq cn ⟨[(1,⟨[],[eB 2]⟩)],[],[]⟩ Tryz.f187
def pI_isLength (m:Nat) (a1:Int):Option Bool:=
 bd (pI_within m a1 1 120) fun x2=>
 some x2
theorem c188:CC (mo 188 [jI] oB pI_isLength):=mq (cs c34 cn) tn Tryz.f188
def pI_OpOk (m:Nat) (a1:IOp):Option Bool:=
 bd (α:=IOp×Bool) (
 bd (α:=IOp×IOp×Bool×Int×Bool) (
 br (a1.Kind==1) (
 some (a1,a1,false,a1.Kind,a1.Kind==1)) <|
 some (a1,a1,false,a1.Kind,a1.Kind==2)) fun(x2,x3,x4,x5,x6)=>
 br x6 (
 bd (α:=IOp×Bool) (
 bd (pI_WordOk m x2.Name) fun x7=>
 br x7 (
 bd (pI_isCmd m x2.Text) fun x8=>
 br x8 (
 bd (pI_isCmd m x2.Dir) fun x9=>
 some (IOp.mk x3.Kind x3.A x3.B x3.C (ByteArray.mk #[]) (ByteArray.mk #[]) (ByteArray.mk #[]) x3.Data,x9)) <|
 some (IOp.mk x3.Kind x3.A x3.B x3.C (ByteArray.mk #[]) (ByteArray.mk #[]) (ByteArray.mk #[]) x3.Data,false)) <|
 some (IOp.mk x3.Kind x3.A x3.B x3.C (ByteArray.mk #[]) (ByteArray.mk #[]) (ByteArray.mk #[]) x3.Data,false)) fun(x10,x11)=>
 some (x10,x11)) <|
 br (x5==3) (
 bd (α:=IOp×Bool) (
 bd (pI_isId m x2.A) fun x12=>
 br x12 (
 bd (pI_within m x2.B 0 1) fun x13=>
 br x13 (
 bd (pI_isCmd m x2.Text) fun x14=>
 br x14 (
 bd (pI_isCmd m x2.Dir) fun x15=>
 some (IOp.mk x3.Kind 0 0 x3.C x3.Name (ByteArray.mk #[]) (ByteArray.mk #[]) x3.Data,x15)) <|
 some (IOp.mk x3.Kind 0 0 x3.C x3.Name (ByteArray.mk #[]) (ByteArray.mk #[]) x3.Data,false)) <|
 some (IOp.mk x3.Kind 0 0 x3.C x3.Name (ByteArray.mk #[]) (ByteArray.mk #[]) x3.Data,false)) <|
 some (IOp.mk x3.Kind 0 0 x3.C x3.Name (ByteArray.mk #[]) (ByteArray.mk #[]) x3.Data,false)) fun(x16,x17)=>
 some (x16,x17)) <|
 bd (α:=IOp×IOp×Bool×Int×Bool) (
 br (x5==4) (
 some (x2,x3,x4,x5,x5==4)) <|
 br (x5==7) (
 some (x2,x3,x4,x5,x5==7)) <|
 br (x5==14) (
 some (x2,x3,x4,x5,x5==14)) <|
 some (x2,x3,x4,x5,x5==8)) fun(x18,x19,x20,x21,x22)=>
 br x22 (
 bd (pI_isId m x18.A) fun x23=>
 some (IOp.mk x19.Kind 0 x19.B x19.C x19.Name x19.Text x19.Dir x19.Data,x23)) <|
 br (x21==5) (
 bd (α:=IOp×Bool) (
 bd (pI_isId m x18.A) fun x24=>
 br x24 (
 bd (pI_within m (↑x18.Data.length:Int) 1 2000) fun x25=>
 some (IOp.mk x19.Kind 0 x19.B x19.C x19.Name x19.Text x19.Dir [],x25)) <|
 some (IOp.mk x19.Kind 0 x19.B x19.C x19.Name x19.Text x19.Dir [],false)) fun(x26,x27)=>
 some (x26,x27)) <|
 br (x21==6) (
 bd (α:=IOp×Bool) (
 bd (pI_isId m x18.A) fun x28=>
 br x28 (
 bd (pI_within m x18.B 0 255) fun x29=>
 some (IOp.mk x19.Kind 0 0 x19.C x19.Name x19.Text x19.Dir x19.Data,x29)) <|
 some (IOp.mk x19.Kind 0 0 x19.C x19.Name x19.Text x19.Dir x19.Data,false)) fun(x30,x31)=>
 some (x30,x31)) <|
 bd (α:=IOp×IOp×Bool×Int×Bool) (
 br (x21==9) (
 some (x18,x19,x20,x21,x21==9)) <|
 some (x18,x19,x20,x21,x21==13)) fun(x32,x33,x34,x35,x36)=>
 br x36 (
 bd (α:=IOp×Bool) (
 bd (pI_isId m x32.A) fun x37=>
 br x37 (
 bd (pI_isId m x32.B) fun x38=>
 some (IOp.mk x33.Kind 0 0 x33.C x33.Name x33.Text x33.Dir x33.Data,x38)) <|
 some (IOp.mk x33.Kind 0 0 x33.C x33.Name x33.Text x33.Dir x33.Data,false)) fun(x39,x40)=>
 some (x39,x40)) <|
 br (x35==10) (
 bd (α:=IOp×Bool) (
 bd (pI_isId m x32.A) fun x41=>
 br x41 (
 bd (pI_isSide m x32.B) fun x42=>
 br x42 (
 bd (pI_isLength m x32.C) fun x43=>
 some (IOp.mk x33.Kind 0 0 0 x33.Name x33.Text x33.Dir x33.Data,x43)) <|
 some (IOp.mk x33.Kind 0 0 0 x33.Name x33.Text x33.Dir x33.Data,false)) <|
 some (IOp.mk x33.Kind 0 0 0 x33.Name x33.Text x33.Dir x33.Data,false)) fun(x44,x45)=>
 some (x44,x45)) <|
 br (x35==11) (
 bd (α:=IOp×Bool) (
 bd (pI_isId m x32.A) fun x46=>
 br x46 (
 bd (pI_WordOk m x32.Name) fun x47=>
 some (IOp.mk x33.Kind 0 x33.B x33.C (ByteArray.mk #[]) x33.Text x33.Dir x33.Data,x47)) <|
 some (IOp.mk x33.Kind 0 x33.B x33.C (ByteArray.mk #[]) x33.Text x33.Dir x33.Data,false)) fun(x48,x49)=>
 some (x48,x49)) <|
 br (x35==12) (
 bd (α:=IOp×Bool) (
 bd (pI_isLength m x32.A) fun x50=>
 br x50 (
 bd (pI_isLength m x32.B) fun x51=>
 some (IOp.mk x33.Kind 0 0 x33.C x33.Name x33.Text x33.Dir x33.Data,x51)) <|
 some (IOp.mk x33.Kind 0 0 x33.C x33.Name x33.Text x33.Dir x33.Data,false)) fun(x52,x53)=>
 some (x52,x53)) <|
 some (x33,x34)) fun(x54,x55)=>
 bd (α:=Bool×Bool) (
 br (x54.A==0) (
 br (x54.B==0) (
 br (x54.C==0) (
 br (decide (x54.Name=ByteArray.mk #[])) (
 br (decide (x54.Text=ByteArray.mk #[])) (
 br (decide (x54.Dir=ByteArray.mk #[])) (
 some (x55,(↑x54.Data.length:Int)==0)) <|
 some (x55,false)) <|
 some (x55,false)) <|
 some (x55,false)) <|
 some (x55,false)) <|
 some (x55,false)) <|
 some (x55,false)) fun(x56,x57)=>
 bd (α:=Bool) (
 br x56 (
 some x57) <|
 some false) fun x58=>
 some x58
theorem c108:CC (mo 108 [jS .iOp] oB pI_OpOk):=mq (cs c176 (cs c186 (cs c98 (cs c34 (cs c187 (cs c188 cn)))))) ⟨[(6,⟨[(3,.ptr 400 0)],[.sto 400 .iOp [],eB 4]⟩),(9,⟨[(3,.ptr 400 0)],[.sto 400 .iOp [],eB 4]⟩),(18,⟨[(3,.ptr 400 0)],[.sto 400 .iOp [(7,50000001)],eB 4]⟩),(21,⟨[(3,.ptr 400 0)],[.sto 400 .iOp [],eB 4]⟩),(25,⟨[(3,.ptr 400 0)],[.sto 400 .iOp [],eB 4]⟩),(28,⟨[(3,.ptr 400 0)],[.sto 400 .iOp [],eB 4]⟩),(31,⟨[(3,.ptr 400 0)],[.sto 400 .iOp [],eB 4]⟩),(34,⟨[(3,.ptr 400 0)],[.sto 400 .iOp [],eB 4]⟩),(35,⟨[],[eB 4,eB 5]⟩),(36,⟨[],[eB 2]⟩)],[(5,false,⟨[(1,.ptr 200 0),(3,.ptr 400 0)],[.sto 200 .iOp [],.sto 400 .iOp [],eB 4,eI 8,eB 9]⟩),(14,false,⟨[(1,.ptr 200 0),(3,.ptr 400 0)],[.sto 200 .iOp [],.sto 400 .iOp [],eB 4,eI 8,eB 52]⟩),(24,false,⟨[(1,.ptr 200 0),(3,.ptr 400 0)],[.sto 200 .iOp [],.sto 400 .iOp [],eB 4,eI 8,eB 86]⟩),(35,false,⟨[(3,.ptr 400 0)],[.sto 400 .iOp [],eB 4]⟩)],[]⟩ Tryz.f108
def pI_isHist (m:Nat) (a1:IHist):Option Bool:=
 br a1.Lost (
 bd (pI_isZeroOp m a1.Op) fun x2=>
 some x2) <|
 bd (pI_OpOk m a1.Op) fun x3=>
 some x3
theorem c38:CC (mo 38 [jS .iHist] oB pI_isHist):=mq (cs c107 (cs c108 cn)) tn Tryz.f38
def pI_SrvOk_1 (m:Nat) (a1:IHist):Option Bool:=
 bd (pI_isHist m a1) fun x2=>
 some (!x2)
theorem c37:CC (mo 37 [jS .iHist] oB pI_SrvOk_1):=mq (cs c38 cn) tn Tryz.f37
def pG_slices_IndexFunc_IHist_I_SrvOk_1_b1 (m:Nat):Lp (List IHist×Int×Int) (Unit⊕Int):=fun(v3,v4,v5)=>
 br (decide (v5<v4)) (
 gd (0<=v5/\v5<(↑v3.length:Int)) <|
 bd v3[v5.toNat]? fun x6=>
 bd (pI_SrvOk_1 m x6) fun x7=>
 br x7 (
 some (.inr (.inr v5))) <|
 gd (inK .i64 (v5+1)) <|
 some (.inl (v3,v4,v5+1))) <|
 some (.inr (.inl ()))
def pG_slices_IndexFunc_IHist_I_SrvOk_1 (m:Nat) (a1:List IHist):Option Int:=
 jn (V:=Unit) (
 loopF (pG_slices_IndexFunc_IHist_I_SrvOk_1_b1 m) m (a1,(↑a1.length:Int),0)) fun _=>
 some (-1)
theorem c1010600:CC (mx 106 [none,some (.fn 37 [])] [.row .iHist] 0 oI pG_slices_IndexFunc_IHist_I_SrvOk_1):=mq (cs c37 cn) ⟨[],[],[(2,true,⟨[(1,.fn 37 [])],[eR 0 .iHist,eI 7,eI 8]⟩,0,⟨[],[]⟩)]⟩ Tryz.f106
def pG_slices_ContainsFunc_IHist_I_SrvOk_1 (m:Nat) (a1:List IHist):Option Bool:=
 bd (pG_slices_IndexFunc_IHist_I_SrvOk_1 m a1) fun x2=>
 some (decide (0<=x2))
theorem c1003600:CC (mx 36 [none,some (.fn 37 [])] [.row .iHist] 0 oB pG_slices_ContainsFunc_IHist_I_SrvOk_1):=mq (cs c1010600 cn) tn Tryz.f36
def pI_SrvOk (m:Nat) (a1:ISrv):Option Bool:=
 bd (α:=ISrv×Bool) (
 bd (pI_StateOk m a1.Base) fun x2=>
 br (!x2) (
 some (a1,true)) <|
 br (decide (0<(↑a1.Base.Panes.length:Int))) (
 some (a1,true)) <|
 bd (pI_within m a1.Top 0 400000) fun x3=>
 br (!x3) (
 some (a1,true)) <|
 bd (pI_TableOk m a1.Tab) fun x4=>
 br (!x4) (
 some (a1,true)) <|
 bd (pG_slices_ContainsFunc_IHist_I_SrvOk_1 m a1.Done) fun x5=>
 br x5 (
 some (a1,true)) <|
 bd (pI_OpsOf m a1.Done) fun x6=>
 bd (pI_within m a1.Sure 0 x6) fun x7=>
 some (a1,!x7)) fun(x8,x9)=>
 br x9 (
 some false) <|
 br x8.Up (
 bd (α:=Bool) (
 bd (pI_StateOk m x8.St) fun x10=>
 br x10 (
 bd (pI_DepotOk m x8.Dep) fun x11=>
 br x11 (
 bd (pI_isZeroDisk m x8.Disk) fun x12=>
 br x12 (
 bd (pI_OpsOf m x8.Done) fun x13=>
 gd (inK .i64 (x13+1)) <|
 some (x8.Dep.Seq==x13+1)) <|
 some false) <|
 some false) <|
 some false) fun x14=>
 some x14) <|
 bd (α:=Bool) (
 bd (pI_isZeroState m x8.St) fun x15=>
 br x15 (
 bd (pI_isZeroDepot m x8.Dep) fun x16=>
 br x16 (
 bd (pI_DiskOk m x8.Disk) fun x17=>
 br x17 (
 some ((↑x8.Tab.Live.length:Int)==0)) <|
 some false) <|
 some false) <|
 some false) fun x18=>
 some x18
theorem c8:CC (mo 8 [jS .iSrv] oB pI_SrvOk):=mq (cs c33 (cs c34 (cs c35 (cs c1003600 (cs c39 (cs c40 (cs c41 (cs c42 (cs c43 (cs c44 cn)))))))))) ⟨[(1,⟨[(1,.ptr 200 0)],[.sto 200 .iSrv [],eB 39]⟩),(4,⟨[],[eB 2]⟩),(5,⟨[],[eB 2]⟩)],[],[]⟩ Tryz.f8
def pL_eqIntS_b1 (m:Nat):Lp (List Int×List Int×Int) (Unit⊕Bool):=fun(v4,v5,v6)=>
 br (decide (v6<(↑v4.length:Int))) (
 gd (0<=v6/\v6<(↑v4.length:Int)) <|
 bd v4[v6.toNat]? fun x7=>
 gd (0<=v6/\v6<(↑v5.length:Int)) <|
 bd v5[v6.toNat]? fun x8=>
 br (x7 !=x8) (
 some (.inr (.inr false))) <|
 gd (inK .i64 (v6+1)) <|
 some (.inl (v4,v5,v6+1))) <|
 some (.inr (.inl ()))
def pL_eqIntS (m:Nat) (a1 a2:List Int):Option Bool:=
 br ((↑a1.length:Int) !=(↑a2.length:Int)) (
 some false) <|
 jn (V:=Unit) (
 loopF (pL_eqIntS_b1 m) m (a1,a2,0)) fun _=>
 some true
theorem c260:CC (mo 260 [.row .int,.row .int] oB (q2 pL_eqIntS)):=mq cn ⟨[],[],[(4,true,⟨[],[eR 0 .int,eR 1 .int,eI 5]⟩,0,⟨[],[]⟩)]⟩ Tryz.f260
def pL_eqByteS_b1 (m:Nat):Lp (List UInt8×List UInt8×Int) (Unit⊕Bool):=fun(v4,v5,v6)=>
 br (decide (v6<(↑v4.length:Int))) (
 gd (0<=v6/\v6<(↑v4.length:Int)) <|
 bd v4[v6.toNat]? fun x7=>
 gd (0<=v6/\v6<(↑v5.length:Int)) <|
 bd v5[v6.toNat]? fun x8=>
 br ((↑x7.toNat:Int) !=(↑x8.toNat:Int)) (
 some (.inr (.inr false))) <|
 gd (inK .i64 (v6+1)) <|
 some (.inl (v4,v5,v6+1))) <|
 some (.inr (.inl ()))
def pL_eqByteS (m:Nat) (a1 a2:List UInt8):Option Bool:=
 br ((↑a1.length:Int) !=(↑a2.length:Int)) (
 some false) <|
 jn (V:=Unit) (
 loopF (pL_eqByteS_b1 m) m (a1,a2,0)) fun _=>
 some true
theorem c261:CC (mo 261 [.row .u8,.row .u8] oB (q2 pL_eqByteS)):=mq cn ⟨[],[],[(4,true,⟨[],[eR 0 .u8,eR 1 .u8,eI 5]⟩,0,⟨[],[]⟩)]⟩ Tryz.f261
def pL_eqVp (m:Nat) (a1 a2:IVp):Option Bool:=
 br (a1.State !=a2.State) (
 some false) <|
 br (!a1.Mark==a2.Mark) (
 some false) <|
 bd (pL_eqIntS m a1.Args a2.Args) fun x3=>
 br (!x3) (
 some false) <|
 bd (pL_eqByteS m a1.Part a2.Part) fun x4=>
 br (!x4) (
 some false) <|
 some true
theorem c299:CC (mo 299 [jS .iVp,jS .iVp] oB (q2 pL_eqVp)):=mq (cs c260 (cs c261 cn)) tn Tryz.f299
def pL_eqAttr (m:Nat) (a1 a2:IAttr):Option Bool:=
 br (a1.Fg !=a2.Fg) (
 some false) <|
 br (a1.Bg !=a2.Bg) (
 some false) <|
 br (!a1.Bold==a2.Bold) (
 some false) <|
 br (!a1.Under==a2.Under) (
 some false) <|
 br (!a1.Turn==a2.Turn) (
 some false) <|
 some true
theorem c335:CC (mo 335 [jS .iAttr,jS .iAttr] oB (q2 pL_eqAttr)):=mq cn tn Tryz.f335
def pL_eqCell (m:Nat) (a1 a2:ICell):Option Bool:=
 br (a1.R !=a2.R) (
 some false) <|
 bd (pL_eqAttr m a1.A a2.A) fun x3=>
 br (!x3) (
 some false) <|
 some true
theorem c373:CC (mo 373 [jS .iCell,jS .iCell] oB (q2 pL_eqCell)):=mq (cs c335 cn) tn Tryz.f373
def pL_eqCellS_b1 (m:Nat):Lp (List ICell×List ICell×Int) (Unit⊕Bool):=fun(v4,v5,v6)=>
 br (decide (v6<(↑v4.length:Int))) (
 gd (0<=v6/\v6<(↑v4.length:Int)) <|
 bd v4[v6.toNat]? fun x7=>
 gd (0<=v6/\v6<(↑v5.length:Int)) <|
 bd v5[v6.toNat]? fun x8=>
 bd (pL_eqCell m x7 x8) fun x9=>
 br (!x9) (
 some (.inr (.inr false))) <|
 gd (inK .i64 (v6+1)) <|
 some (.inl (v4,v5,v6+1))) <|
 some (.inr (.inl ()))
def pL_eqCellS (m:Nat) (a1 a2:List ICell):Option Bool:=
 br ((↑a1.length:Int) !=(↑a2.length:Int)) (
 some false) <|
 jn (V:=Unit) (
 loopF (pL_eqCellS_b1 m) m (a1,a2,0)) fun _=>
 some true
theorem c358:CC (mo 358 [.row .iCell,.row .iCell] oB (q2 pL_eqCellS)):=mq (cs c373 cn) ⟨[],[],[(4,true,⟨[],[eR 0 .iCell,eR 1 .iCell,eI 5]⟩,0,⟨[],[]⟩)]⟩ Tryz.f358
def pL_eqGrid (m:Nat) (a1 a2:IGrid):Option Bool:=
 br (a1.W !=a2.W) (
 some false) <|
 br (a1.H !=a2.H) (
 some false) <|
 bd (pL_eqCellS m a1.Cells a2.Cells) fun x3=>
 br (!x3) (
 some false) <|
 some true
theorem c334:CC (mo 334 [jS .iGrid,jS .iGrid] oB (q2 pL_eqGrid)):=mq (cs c358 cn) tn Tryz.f334
def pL_eqRow (m:Nat) (a1 a2:IRow):Option Bool:=
 bd (pL_eqCellS m a1.Cells a2.Cells) fun x3=>
 br (!x3) (
 some false) <|
 some true
theorem c359:CC (mo 359 [jS .iRow,jS .iRow] oB (q2 pL_eqRow)):=mq (cs c358 cn) tn Tryz.f359
def pL_eqRowS_b1 (m:Nat):Lp (List IRow×List IRow×Int) (Unit⊕Bool):=fun(v4,v5,v6)=>
 br (decide (v6<(↑v4.length:Int))) (
 gd (0<=v6/\v6<(↑v4.length:Int)) <|
 bd v4[v6.toNat]? fun x7=>
 gd (0<=v6/\v6<(↑v5.length:Int)) <|
 bd v5[v6.toNat]? fun x8=>
 bd (pL_eqRow m x7 x8) fun x9=>
 br (!x9) (
 some (.inr (.inr false))) <|
 gd (inK .i64 (v6+1)) <|
 some (.inl (v4,v5,v6+1))) <|
 some (.inr (.inl ()))
def pL_eqRowS (m:Nat) (a1 a2:List IRow):Option Bool:=
 br ((↑a1.length:Int) !=(↑a2.length:Int)) (
 some false) <|
 jn (V:=Unit) (
 loopF (pL_eqRowS_b1 m) m (a1,a2,0)) fun _=>
 some true
theorem c336:CC (mo 336 [.row .iRow,.row .iRow] oB (q2 pL_eqRowS)):=mq (cs c359 cn) ⟨[],[],[(4,true,⟨[],[eR 0 .iRow,eR 1 .iRow,eI 5]⟩,0,⟨[],[]⟩)]⟩ Tryz.f336
def pL_eqScr (m:Nat) (a1 a2:IScr):Option Bool:=
 br (a1.W !=a2.W) (
 some false) <|
 br (a1.H !=a2.H) (
 some false) <|
 bd (pL_eqGrid m a1.Main a2.Main) fun x3=>
 br (!x3) (
 some false) <|
 bd (pL_eqGrid m a1.Alt a2.Alt) fun x4=>
 br (!x4) (
 some false) <|
 br (!a1.OnAlt==a2.OnAlt) (
 some false) <|
 br (a1.X !=a2.X) (
 some false) <|
 br (a1.Y !=a2.Y) (
 some false) <|
 br (!a1.Wrap==a2.Wrap) (
 some false) <|
 bd (pL_eqAttr m a1.A a2.A) fun x5=>
 br (!x5) (
 some false) <|
 br (a1.Top !=a2.Top) (
 some false) <|
 br (a1.Bot !=a2.Bot) (
 some false) <|
 br (!a1.NoWrap==a2.NoWrap) (
 some false) <|
 br (!a1.Hide==a2.Hide) (
 some false) <|
 br (a1.SaveX !=a2.SaveX) (
 some false) <|
 br (a1.SaveY !=a2.SaveY) (
 some false) <|
 bd (pL_eqAttr m a1.SaveA a2.SaveA) fun x6=>
 br (!x6) (
 some false) <|
 bd (pL_eqIntS m a1.Tabs a2.Tabs) fun x7=>
 br (!x7) (
 some false) <|
 br (a1.Limit !=a2.Limit) (
 some false) <|
 bd (pL_eqRowS m a1.Back a2.Back) fun x8=>
 br (!x8) (
 some false) <|
 some true
theorem c300:CC (mo 300 [jS .iScr,jS .iScr] oB (q2 pL_eqScr)):=mq (cs c334 (cs c335 (cs c260 (cs c336 cn)))) tn Tryz.f300
def pL_eqTerm (m:Nat) (a1 a2:ITerm):Option Bool:=
 bd (pL_eqVp m a1.P a2.P) fun x3=>
 br (!x3) (
 some false) <|
 bd (pL_eqScr m a1.S a2.S) fun x4=>
 br (!x4) (
 some false) <|
 some true
theorem c258:CC (mo 258 [jS .iTerm,jS .iTerm] oB (q2 pL_eqTerm)):=mq (cs c299 (cs c300 cn)) tn Tryz.f258
def pL_eqPane (m:Nat) (a1 a2:IPane):Option Bool:=
 br (a1.Id !=a2.Id) (
 some false) <|
 br (!decide (a1.Cmd=a2.Cmd)) (
 some false) <|
 br (!decide (a1.Dir=a2.Dir)) (
 some false) <|
 br (a1.Life !=a2.Life) (
 some false) <|
 br (a1.Code !=a2.Code) (
 some false) <|
 br (a1.Pid !=a2.Pid) (
 some false) <|
 bd (pL_eqTerm m a1.Term a2.Term) fun x3=>
 br (!x3) (
 some false) <|
 some true
theorem c199:CC (mo 199 [jS .iPane,jS .iPane] oB (q2 pL_eqPane)):=mq (cs c258 cn) tn Tryz.f199
def pL_eqPaneS_b1 (m:Nat):Lp (List IPane×List IPane×Int) (Unit⊕Bool):=fun(v4,v5,v6)=>
 br (decide (v6<(↑v4.length:Int))) (
 gd (0<=v6/\v6<(↑v4.length:Int)) <|
 bd v4[v6.toNat]? fun x7=>
 gd (0<=v6/\v6<(↑v5.length:Int)) <|
 bd v5[v6.toNat]? fun x8=>
 bd (pL_eqPane m x7 x8) fun x9=>
 br (!x9) (
 some (.inr (.inr false))) <|
 gd (inK .i64 (v6+1)) <|
 some (.inl (v4,v5,v6+1))) <|
 some (.inr (.inl ()))
def pL_eqPaneS (m:Nat) (a1 a2:List IPane):Option Bool:=
 br ((↑a1.length:Int) !=(↑a2.length:Int)) (
 some false) <|
 jn (V:=Unit) (
 loopF (pL_eqPaneS_b1 m) m (a1,a2,0)) fun _=>
 some true
theorem c114:CC (mo 114 [.row .iPane,.row .iPane] oB (q2 pL_eqPaneS)):=mq (cs c199 cn) ⟨[],[],[(4,true,⟨[],[eR 0 .iPane,eR 1 .iPane,eI 5]⟩,0,⟨[],[]⟩)]⟩ Tryz.f114
def pL_eqNode (m:Nat) (a1 a2:INode):Option Bool:=
 br (a1.Pane !=a2.Pane) (
 some false) <|
 br (!a1.Down==a2.Down) (
 some false) <|
 br (a1.First !=a2.First) (
 some false) <|
 some true
theorem c301:CC (mo 301 [jS .iNode,jS .iNode] oB (q2 pL_eqNode)):=mq cn tn Tryz.f301
def pL_eqNodeS_b1 (m:Nat):Lp (List INode×List INode×Int) (Unit⊕Bool):=fun(v4,v5,v6)=>
 br (decide (v6<(↑v4.length:Int))) (
 gd (0<=v6/\v6<(↑v4.length:Int)) <|
 bd v4[v6.toNat]? fun x7=>
 gd (0<=v6/\v6<(↑v5.length:Int)) <|
 bd v5[v6.toNat]? fun x8=>
 bd (pL_eqNode m x7 x8) fun x9=>
 br (!x9) (
 some (.inr (.inr false))) <|
 gd (inK .i64 (v6+1)) <|
 some (.inl (v4,v5,v6+1))) <|
 some (.inr (.inl ()))
def pL_eqNodeS (m:Nat) (a1 a2:List INode):Option Bool:=
 br ((↑a1.length:Int) !=(↑a2.length:Int)) (
 some false) <|
 jn (V:=Unit) (
 loopF (pL_eqNodeS_b1 m) m (a1,a2,0)) fun _=>
 some true
theorem c259:CC (mo 259 [.row .iNode,.row .iNode] oB (q2 pL_eqNodeS)):=mq (cs c301 cn) ⟨[],[],[(4,true,⟨[],[eR 0 .iNode,eR 1 .iNode,eI 5]⟩,0,⟨[],[]⟩)]⟩ Tryz.f259
def pL_eqWin (m:Nat) (a1 a2:IWin):Option Bool:=
 br (a1.Id !=a2.Id) (
 some false) <|
 br (!decide (a1.Name=a2.Name)) (
 some false) <|
 bd (pL_eqNodeS m a1.Tree a2.Tree) fun x3=>
 br (!x3) (
 some false) <|
 br (a1.Active !=a2.Active) (
 some false) <|
 br (!a1.Zoom==a2.Zoom) (
 some false) <|
 some true
theorem c200:CC (mo 200 [jS .iWin,jS .iWin] oB (q2 pL_eqWin)):=mq (cs c259 cn) tn Tryz.f200
def pL_eqWinS_b1 (m:Nat):Lp (List IWin×List IWin×Int) (Unit⊕Bool):=fun(v4,v5,v6)=>
 br (decide (v6<(↑v4.length:Int))) (
 gd (0<=v6/\v6<(↑v4.length:Int)) <|
 bd v4[v6.toNat]? fun x7=>
 gd (0<=v6/\v6<(↑v5.length:Int)) <|
 bd v5[v6.toNat]? fun x8=>
 bd (pL_eqWin m x7 x8) fun x9=>
 br (!x9) (
 some (.inr (.inr false))) <|
 gd (inK .i64 (v6+1)) <|
 some (.inl (v4,v5,v6+1))) <|
 some (.inr (.inl ()))
def pL_eqWinS (m:Nat) (a1 a2:List IWin):Option Bool:=
 br ((↑a1.length:Int) !=(↑a2.length:Int)) (
 some false) <|
 jn (V:=Unit) (
 loopF (pL_eqWinS_b1 m) m (a1,a2,0)) fun _=>
 some true
theorem c115:CC (mo 115 [.row .iWin,.row .iWin] oB (q2 pL_eqWinS)):=mq (cs c200 cn) ⟨[],[],[(4,true,⟨[],[eR 0 .iWin,eR 1 .iWin,eI 5]⟩,0,⟨[],[]⟩)]⟩ Tryz.f115
def pL_eqSess (m:Nat) (a1 a2:ISess):Option Bool:=
 br (!decide (a1.Name=a2.Name)) (
 some false) <|
 bd (pL_eqIntS m a1.Wins a2.Wins) fun x3=>
 br (!x3) (
 some false) <|
 br (a1.Active !=a2.Active) (
 some false) <|
 some true
theorem c201:CC (mo 201 [jS .iSess,jS .iSess] oB (q2 pL_eqSess)):=mq (cs c260 cn) tn Tryz.f201
def pL_eqSessS_b1 (m:Nat):Lp (List ISess×List ISess×Int) (Unit⊕Bool):=fun(v4,v5,v6)=>
 br (decide (v6<(↑v4.length:Int))) (
 gd (0<=v6/\v6<(↑v4.length:Int)) <|
 bd v4[v6.toNat]? fun x7=>
 gd (0<=v6/\v6<(↑v5.length:Int)) <|
 bd v5[v6.toNat]? fun x8=>
 bd (pL_eqSess m x7 x8) fun x9=>
 br (!x9) (
 some (.inr (.inr false))) <|
 gd (inK .i64 (v6+1)) <|
 some (.inl (v4,v5,v6+1))) <|
 some (.inr (.inl ()))
def pL_eqSessS (m:Nat) (a1 a2:List ISess):Option Bool:=
 br ((↑a1.length:Int) !=(↑a2.length:Int)) (
 some false) <|
 jn (V:=Unit) (
 loopF (pL_eqSessS_b1 m) m (a1,a2,0)) fun _=>
 some true
theorem c116:CC (mo 116 [.row .iSess,.row .iSess] oB (q2 pL_eqSessS)):=mq (cs c201 cn) ⟨[],[],[(4,true,⟨[],[eR 0 .iSess,eR 1 .iSess,eI 5]⟩,0,⟨[],[]⟩)]⟩ Tryz.f116
def pL_eqState (m:Nat) (a1 a2:IState):Option Bool:=
 br (a1.W !=a2.W) (
 some false) <|
 br (a1.H !=a2.H) (
 some false) <|
 br (a1.Limit !=a2.Limit) (
 some false) <|
 br (a1.Next !=a2.Next) (
 some false) <|
 bd (pL_eqPaneS m a1.Panes a2.Panes) fun x3=>
 br (!x3) (
 some false) <|
 bd (pL_eqWinS m a1.Wins a2.Wins) fun x4=>
 br (!x4) (
 some false) <|
 bd (pL_eqSessS m a1.Sess a2.Sess) fun x5=>
 br (!x5) (
 some false) <|
 some true
theorem c45:CC (mo 45 [jS .iState,jS .iState] oB (q2 pL_eqState)):=mq (cs c114 (cs c115 (cs c116 cn))) tn Tryz.f45
def pL_eqFile (m:Nat) (a1 a2:IFile):Option Bool:=
 br (a1.Id !=a2.Id) (
 some false) <|
 bd (pL_eqByteS m a1.Body a2.Body) fun x3=>
 br (!x3) (
 some false) <|
 br (a1.Safe !=a2.Safe) (
 some false) <|
 some true
theorem c202:CC (mo 202 [jS .iFile,jS .iFile] oB (q2 pL_eqFile)):=mq (cs c261 cn) tn Tryz.f202
def pL_eqFileS_b1 (m:Nat):Lp (List IFile×List IFile×Int) (Unit⊕Bool):=fun(v4,v5,v6)=>
 br (decide (v6<(↑v4.length:Int))) (
 gd (0<=v6/\v6<(↑v4.length:Int)) <|
 bd v4[v6.toNat]? fun x7=>
 gd (0<=v6/\v6<(↑v5.length:Int)) <|
 bd v5[v6.toNat]? fun x8=>
 bd (pL_eqFile m x7 x8) fun x9=>
 br (!x9) (
 some (.inr (.inr false))) <|
 gd (inK .i64 (v6+1)) <|
 some (.inl (v4,v5,v6+1))) <|
 some (.inr (.inl ()))
def pL_eqFileS (m:Nat) (a1 a2:List IFile):Option Bool:=
 br ((↑a1.length:Int) !=(↑a2.length:Int)) (
 some false) <|
 jn (V:=Unit) (
 loopF (pL_eqFileS_b1 m) m (a1,a2,0)) fun _=>
 some true
theorem c117:CC (mo 117 [.row .iFile,.row .iFile] oB (q2 pL_eqFileS)):=mq (cs c202 cn) ⟨[],[],[(4,true,⟨[],[eR 0 .iFile,eR 1 .iFile,eI 5]⟩,0,⟨[],[]⟩)]⟩ Tryz.f117
def pL_eqLink (m:Nat) (a1 a2:ILink):Option Bool:=
 br (!decide (a1.Name=a2.Name)) (
 some false) <|
 br (a1.Id !=a2.Id) (
 some false) <|
 some true
theorem c203:CC (mo 203 [jS .iLink,jS .iLink] oB (q2 pL_eqLink)):=mq cn tn Tryz.f203
def pL_eqLinkS_b1 (m:Nat):Lp (List ILink×List ILink×Int) (Unit⊕Bool):=fun(v4,v5,v6)=>
 br (decide (v6<(↑v4.length:Int))) (
 gd (0<=v6/\v6<(↑v4.length:Int)) <|
 bd v4[v6.toNat]? fun x7=>
 gd (0<=v6/\v6<(↑v5.length:Int)) <|
 bd v5[v6.toNat]? fun x8=>
 bd (pL_eqLink m x7 x8) fun x9=>
 br (!x9) (
 some (.inr (.inr false))) <|
 gd (inK .i64 (v6+1)) <|
 some (.inl (v4,v5,v6+1))) <|
 some (.inr (.inl ()))
def pL_eqLinkS (m:Nat) (a1 a2:List ILink):Option Bool:=
 br ((↑a1.length:Int) !=(↑a2.length:Int)) (
 some false) <|
 jn (V:=Unit) (
 loopF (pL_eqLinkS_b1 m) m (a1,a2,0)) fun _=>
 some true
theorem c118:CC (mo 118 [.row .iLink,.row .iLink] oB (q2 pL_eqLinkS)):=mq (cs c203 cn) ⟨[],[],[(4,true,⟨[],[eR 0 .iLink,eR 1 .iLink,eI 5]⟩,0,⟨[],[]⟩)]⟩ Tryz.f118
def pL_eqTurn (m:Nat) (a1 a2:ITurn):Option Bool:=
 br (a1.Kind !=a2.Kind) (
 some false) <|
 br (!decide (a1.Name=a2.Name)) (
 some false) <|
 br (!decide (a1.To=a2.To)) (
 some false) <|
 br (a1.Id !=a2.Id) (
 some false) <|
 some true
theorem c204:CC (mo 204 [jS .iTurn,jS .iTurn] oB (q2 pL_eqTurn)):=mq cn tn Tryz.f204
def pL_eqTurnS_b1 (m:Nat):Lp (List ITurn×List ITurn×Int) (Unit⊕Bool):=fun(v4,v5,v6)=>
 br (decide (v6<(↑v4.length:Int))) (
 gd (0<=v6/\v6<(↑v4.length:Int)) <|
 bd v4[v6.toNat]? fun x7=>
 gd (0<=v6/\v6<(↑v5.length:Int)) <|
 bd v5[v6.toNat]? fun x8=>
 bd (pL_eqTurn m x7 x8) fun x9=>
 br (!x9) (
 some (.inr (.inr false))) <|
 gd (inK .i64 (v6+1)) <|
 some (.inl (v4,v5,v6+1))) <|
 some (.inr (.inl ()))
def pL_eqTurnS (m:Nat) (a1 a2:List ITurn):Option Bool:=
 br ((↑a1.length:Int) !=(↑a2.length:Int)) (
 some false) <|
 jn (V:=Unit) (
 loopF (pL_eqTurnS_b1 m) m (a1,a2,0)) fun _=>
 some true
theorem c119:CC (mo 119 [.row .iTurn,.row .iTurn] oB (q2 pL_eqTurnS)):=mq (cs c204 cn) ⟨[],[],[(4,true,⟨[],[eR 0 .iTurn,eR 1 .iTurn,eI 5]⟩,0,⟨[],[]⟩)]⟩ Tryz.f119
def pL_eqDisk (m:Nat) (a1 a2:IDisk):Option Bool:=
 br (a1.Room !=a2.Room) (
 some false) <|
 br (a1.Fuse !=a2.Fuse) (
 some false) <|
 br (a1.Next !=a2.Next) (
 some false) <|
 bd (pL_eqFileS m a1.Files a2.Files) fun x3=>
 br (!x3) (
 some false) <|
 bd (pL_eqLinkS m a1.Kept a2.Kept) fun x4=>
 br (!x4) (
 some false) <|
 bd (pL_eqTurnS m a1.Turns a2.Turns) fun x5=>
 br (!x5) (
 some false) <|
 some true
theorem c47:CC (mo 47 [jS .iDisk,jS .iDisk] oB (q2 pL_eqDisk)):=mq (cs c117 (cs c118 (cs c119 cn))) tn Tryz.f47
def pL_eqDepot (m:Nat) (a1 a2:IDepot):Option Bool:=
 bd (pL_eqDisk m a1.Disk a2.Disk) fun x3=>
 br (!x3) (
 some false) <|
 br (a1.Gen !=a2.Gen) (
 some false) <|
 br (a1.Seq !=a2.Seq) (
 some false) <|
 br (a1.Size !=a2.Size) (
 some false) <|
 br (!a1.Stuck==a2.Stuck) (
 some false) <|
 some true
theorem c46:CC (mo 46 [jS .iDepot,jS .iDepot] oB (q2 pL_eqDepot)):=mq (cs c47 cn) tn Tryz.f46
def pL_eqProc (m:Nat) (a1 a2:IProc):Option Bool:=
 br (a1.Pid !=a2.Pid) (
 some false) <|
 br (a1.Pane !=a2.Pane) (
 some false) <|
 some true
theorem c205:CC (mo 205 [jS .iProc,jS .iProc] oB (q2 pL_eqProc)):=mq cn tn Tryz.f205
def pL_eqProcS_b1 (m:Nat):Lp (List IProc×List IProc×Int) (Unit⊕Bool):=fun(v4,v5,v6)=>
 br (decide (v6<(↑v4.length:Int))) (
 gd (0<=v6/\v6<(↑v4.length:Int)) <|
 bd v4[v6.toNat]? fun x7=>
 gd (0<=v6/\v6<(↑v5.length:Int)) <|
 bd v5[v6.toNat]? fun x8=>
 bd (pL_eqProc m x7 x8) fun x9=>
 br (!x9) (
 some (.inr (.inr false))) <|
 gd (inK .i64 (v6+1)) <|
 some (.inl (v4,v5,v6+1))) <|
 some (.inr (.inl ()))
def pL_eqProcS (m:Nat) (a1 a2:List IProc):Option Bool:=
 br ((↑a1.length:Int) !=(↑a2.length:Int)) (
 some false) <|
 jn (V:=Unit) (
 loopF (pL_eqProcS_b1 m) m (a1,a2,0)) fun _=>
 some true
theorem c120:CC (mo 120 [.row .iProc,.row .iProc] oB (q2 pL_eqProcS)):=mq (cs c205 cn) ⟨[],[],[(4,true,⟨[],[eR 0 .iProc,eR 1 .iProc,eI 5]⟩,0,⟨[],[]⟩)]⟩ Tryz.f120
def pL_eqAsk (m:Nat) (a1 a2:IAsk):Option Bool:=
 br (a1.Pane !=a2.Pane) (
 some false) <|
 br (!decide (a1.Cmd=a2.Cmd)) (
 some false) <|
 br (!decide (a1.Dir=a2.Dir)) (
 some false) <|
 br (a1.W !=a2.W) (
 some false) <|
 br (a1.H !=a2.H) (
 some false) <|
 br (a1.Pid !=a2.Pid) (
 some false) <|
 some true
theorem c206:CC (mo 206 [jS .iAsk,jS .iAsk] oB (q2 pL_eqAsk)):=mq cn tn Tryz.f206
def pL_eqAskS_b1 (m:Nat):Lp (List IAsk×List IAsk×Int) (Unit⊕Bool):=fun(v4,v5,v6)=>
 br (decide (v6<(↑v4.length:Int))) (
 gd (0<=v6/\v6<(↑v4.length:Int)) <|
 bd v4[v6.toNat]? fun x7=>
 gd (0<=v6/\v6<(↑v5.length:Int)) <|
 bd v5[v6.toNat]? fun x8=>
 bd (pL_eqAsk m x7 x8) fun x9=>
 br (!x9) (
 some (.inr (.inr false))) <|
 gd (inK .i64 (v6+1)) <|
 some (.inl (v4,v5,v6+1))) <|
 some (.inr (.inl ()))
def pL_eqAskS (m:Nat) (a1 a2:List IAsk):Option Bool:=
 br ((↑a1.length:Int) !=(↑a2.length:Int)) (
 some false) <|
 jn (V:=Unit) (
 loopF (pL_eqAskS_b1 m) m (a1,a2,0)) fun _=>
 some true
theorem c121:CC (mo 121 [.row .iAsk,.row .iAsk] oB (q2 pL_eqAskS)):=mq (cs c206 cn) ⟨[],[],[(4,true,⟨[],[eR 0 .iAsk,eR 1 .iAsk,eI 5]⟩,0,⟨[],[]⟩)]⟩ Tryz.f121
def pL_eqTable (m:Nat) (a1 a2:ITable):Option Bool:=
 br (a1.Next !=a2.Next) (
 some false) <|
 bd (pL_eqProcS m a1.Live a2.Live) fun x3=>
 br (!x3) (
 some false) <|
 bd (pL_eqAskS m a1.Asked a2.Asked) fun x4=>
 br (!x4) (
 some false) <|
 some true
theorem c48:CC (mo 48 [jS .iTable,jS .iTable] oB (q2 pL_eqTable)):=mq (cs c120 (cs c121 cn)) tn Tryz.f48
def pL_eqOp (m:Nat) (a1 a2:IOp):Option Bool:=
 br (a1.Kind !=a2.Kind) (
 some false) <|
 br (a1.A !=a2.A) (
 some false) <|
 br (a1.B !=a2.B) (
 some false) <|
 br (a1.C !=a2.C) (
 some false) <|
 br (!decide (a1.Name=a2.Name)) (
 some false) <|
 br (!decide (a1.Text=a2.Text)) (
 some false) <|
 br (!decide (a1.Dir=a2.Dir)) (
 some false) <|
 bd (pL_eqByteS m a1.Data a2.Data) fun x3=>
 br (!x3) (
 some false) <|
 some true
theorem c207:CC (mo 207 [jS .iOp,jS .iOp] oB (q2 pL_eqOp)):=mq (cs c261 cn) tn Tryz.f207
def pL_eqHist (m:Nat) (a1 a2:IHist):Option Bool:=
 br (!a1.Lost==a2.Lost) (
 some false) <|
 bd (pL_eqOp m a1.Op a2.Op) fun x3=>
 br (!x3) (
 some false) <|
 some true
theorem c122:CC (mo 122 [jS .iHist,jS .iHist] oB (q2 pL_eqHist)):=mq (cs c207 cn) tn Tryz.f122
def pL_eqHistS_b1 (m:Nat):Lp (List IHist×List IHist×Int) (Unit⊕Bool):=fun(v4,v5,v6)=>
 br (decide (v6<(↑v4.length:Int))) (
 gd (0<=v6/\v6<(↑v4.length:Int)) <|
 bd v4[v6.toNat]? fun x7=>
 gd (0<=v6/\v6<(↑v5.length:Int)) <|
 bd v5[v6.toNat]? fun x8=>
 bd (pL_eqHist m x7 x8) fun x9=>
 br (!x9) (
 some (.inr (.inr false))) <|
 gd (inK .i64 (v6+1)) <|
 some (.inl (v4,v5,v6+1))) <|
 some (.inr (.inl ()))
def pL_eqHistS (m:Nat) (a1 a2:List IHist):Option Bool:=
 br ((↑a1.length:Int) !=(↑a2.length:Int)) (
 some false) <|
 jn (V:=Unit) (
 loopF (pL_eqHistS_b1 m) m (a1,a2,0)) fun _=>
 some true
theorem c49:CC (mo 49 [.row .iHist,.row .iHist] oB (q2 pL_eqHistS)):=mq (cs c122 cn) ⟨[],[],[(4,true,⟨[],[eR 0 .iHist,eR 1 .iHist,eI 5]⟩,0,⟨[],[]⟩)]⟩ Tryz.f49
def pL_eqSrv (m:Nat) (a1 a2:ISrv):Option Bool:=
 bd (pL_eqState m a1.Base a2.Base) fun x3=>
 br (!x3) (
 some false) <|
 br (a1.Top !=a2.Top) (
 some false) <|
 br (!a1.Up==a2.Up) (
 some false) <|
 bd (pL_eqState m a1.St a2.St) fun x4=>
 br (!x4) (
 some false) <|
 bd (pL_eqDepot m a1.Dep a2.Dep) fun x5=>
 br (!x5) (
 some false) <|
 bd (pL_eqDisk m a1.Disk a2.Disk) fun x6=>
 br (!x6) (
 some false) <|
 bd (pL_eqTable m a1.Tab a2.Tab) fun x7=>
 br (!x7) (
 some false) <|
 br (a1.Sure !=a2.Sure) (
 some false) <|
 bd (pL_eqHistS m a1.Done a2.Done) fun x8=>
 br (!x8) (
 some false) <|
 some true
theorem c9:CC (mo 9 [jS .iSrv,jS .iSrv] oB (q2 pL_eqSrv)):=mq (cs c45 (cs c46 (cs c47 (cs c48 (cs c49 cn))))) tn Tryz.f9
def pL_FnExactSrvOk (m:Nat) (a1:LSrv):Option Bool:=
 bd (pL_szSrv m a1 1048576) fun x2=>
 br (decide (x2<0)) (
 some true) <|
 bd (pL_toSrv m a1) fun x3=>
 bd (pS_SrvOk m x3) fun x4=>
 bd (pL_toSrv m a1) fun x5=>
 bd (pI_SrvOk m x5) fun x6=>
 br (!x6==x4) (
 some false) <|
 bd (pL_toSrv m a1) fun x7=>
 bd (pL_eqSrv m x5 x7) fun x8=>
 br (!x8) (
 some false) <|
 some true
theorem c3:CC (mo 3 [jS .lSrv] oB pL_FnExactSrvOk):=mq (cs c5 (cs c7 (cs c6 (cs c8 (cs c9 cn))))) tn Tryz.f3
end
open Go.RowKit Go.Deep
def shp:Leaf->Leaf->Prop
 | .sc (.int k _),.sc (.int k' _)=>k'=k
 | .sc (.string _),.sc (.string _)=>True
 | .sc (.bool _),.sc (.bool _)=>True
 | .nest k _,.nest k' _=>k'=k
 | _,_=>False
theorem shp_int {k:IntKind} {n:Int} {lf:Leaf} (h:shp (.sc (.int k n)) lf):∃m,lf= .sc (.int k m):=by
 cases lf with
 | sc v=>cases v<;>first|exact h.elim|(obtain rfl:_=_:=h;exact⟨_,rfl⟩)
 | nest=>exact h.elim
theorem shp_str {s:ByteArray} {lf:Leaf} (h:shp (.sc (.string s)) lf):∃m,lf= .sc (.string m):=by
 cases lf with
 | sc v=>cases v<;>first|exact⟨_,rfl⟩ | exact h.elim
 | nest=>exact h.elim
theorem shp_bool {s:Bool} {lf:Leaf} (h:shp (.sc (.bool s)) lf):∃m,lf= .sc (.bool m):=by
 cases lf with
 | sc v=>cases v<;>first|exact⟨_,rfl⟩ | exact h.elim
 | nest=>exact h.elim
theorem shp_nest {l:List (ty k)} {lf:Leaf} (h:shp (.nest k l) lf):∃m,lf= .nest k m:=by
 cases lf with
 | sc v=>exact h.elim
 | nest k' l'=>obtain rfl:k'=k:=h;exact⟨_,rfl⟩
theorem shp_cons {z:Leaf} {zs:List Leaf} (h:All2 shp (z::zs) lfs):∃l t,lfs=l::t/\shp z l/\All2 shp zs t:=by
 cases lfs with
 | nil=>exact h.elim
 | cons l t=>exact⟨l,t,rfl,h.1,h.2⟩
theorem shp_nil (h:All2 shp [] lfs):lfs=[]:=by
 cases lfs with
 | nil=>rfl
 | cons=>exact h.elim
set_option maxRecDepth 20000 in
theorem leaves_of:∀{k:K} {lfs:List Leaf},All2 shp (leaves (zK k)) lfs->∃x,ofLeaves k (lfs.map leafIn)=some x:=by
 intro k lfs h
 cases k
 all_goals
  repeat
   obtain⟨_,_,e0,h0,h'⟩:=shp_cons h
   clear h
   subst e0
   have h:=h'
   clear h'
   first
    | (obtain⟨_,rfl⟩:=shp_int h0;clear h0)
    | (obtain⟨_,rfl⟩:=shp_str h0;clear h0)
    | (obtain⟨_,rfl⟩:=shp_bool h0;clear h0)
    | (obtain⟨_,rfl⟩:=shp_nest h0;clear h0)
  obtain rfl:=shp_nil h
  exact⟨_,rfl⟩
def RdL (w:World) (zs:List Leaf) (cs:List Value):Prop:=∃lfs,All2 shp zs lfs/\All2 (LeafV (fun b=>b<w.heap.size) w) lfs cs
theorem RdL.app {w:World}:∀{z1 z2:List Leaf} {c1 c2:List Value},RdL w z1 c1->RdL w z2 c2->RdL w (z1++z2) (c1++c2)
 | z1,z2,c1,c2,⟨l1,a1,b1⟩,⟨l2,a2,b2⟩=>⟨l1++l2,All2.app a1 a2,All2.app b1 b2⟩
theorem RdL.len {w:World} {zs:List Leaf} {cs:List Value} (h:RdL w zs cs):cs.length=zs.length:=by
 obtain⟨l,a,b⟩:=h
 rw[<-b.len,<-a.len]
theorem leafIn_InL {ls:List Leaf}:∀{cs:List Value},All2 InL (lfs.map leafIn) ls->All2 (LeafV S w) lfs cs->ls=lfs:=by
 induction lfs generalizing ls with
 | nil=>intro cs h _;cases ls with
  | nil=>rfl
  | cons=>exact h.elim
 | cons a lfs ih=>
  intro cs h hv
  cases ls with
  | nil=>exact h.elim
  | cons b ls=>
   cases cs with
   | nil=>exact hv.elim
   | cons c cs=>
    rw[ih h.2 hv.2]
    congr 1
    cases a with
    | sc v=>exact h.1 hv.1.2
    | nest k l=>exact h.1
theorem RdL.elem {cs:List Value} (h:RdL w (leaves (zK k)) cs):∃x:ty k,All2 (LeafV (fun b=>b<w.heap.size) w) (leaves x) cs:=by
 obtain⟨lfs,a,b⟩:=h
 obtain⟨x,hx⟩:=leaves_of a
 refine⟨x,?_⟩
 rw[leafIn_InL (ofLeaves_spec hx) b]
 exact b
def Reads (P:Program) (t:TypeId) (zs:List Leaf):Prop:=∀(H:Type) (enc:TypeId×Value->H) (w:World) (base:Nat) (spare:Nat->Bool) (held:Bool) (fuel:Nat) (cs:List Value) (x:DataW H×List MemPlace),
  DataW.trod enc P w base spare held fuel t cs=some x->RdL w zs cs
section
variable {P:Program}
theorem wf_lit {k:IntKind} {n:Int} (h:(Lit.int k n).wf=true):wfV (.int k n):=by
 refine(wrap_iff k n).2 ?_
 cases k<;>simp[Lit.wf,IntKind.min,IntKind.max,IntKind.signed,IntKind.bits,loK,hiK]at h⊢<;>omega
theorem reads_int {t:TypeId} {k:IntKind} (ht:P.underlying t=some (.int k)):Reads P t [.sc (.int k 0)]:=by
 intro H enc w base spare held fuel cs x h
 obtain⟨n,rfl,_,hw⟩:=DataW.trod_int ht h
 exact⟨[.sc (.int k n)],⟨rfl,trivial⟩,⟨rfl,wf_lit hw⟩,trivial⟩
theorem reads_bool {t:TypeId} (ht:P.underlying t=some .bool):Reads P t [.sc (.bool false)]:=by
 intro H enc w base spare held fuel cs x h
 obtain⟨b,rfl,_⟩:=DataW.trod_bool ht h
 exact⟨[.sc (.bool b)],⟨trivial,trivial⟩,⟨rfl,trivial⟩,trivial⟩
theorem reads_str {t:TypeId} (ht:P.underlying t=some .string):Reads P t [.sc (.string ByteArray.empty)]:=by
 intro H enc w base spare held fuel cs x h
 obtain⟨s,rfl,_,hs⟩:=DataW.trod_string ht h
 exact⟨[.sc (.string s)],⟨trivial,trivial⟩,⟨rfl,hs⟩,trivial⟩
theorem cell_block {a:Addr} {v:Value} (h:w.cell? a=some v):a.block<w.heap.size:=by
 unfold World.cell? at h
 split at h
 ·rename_i e;exact(Array.getElem?_eq_some_iff.1 e).1
 ·cases h
theorem reads_slice {t:TypeId} (ht:P.underlying t=some (.slice (tid k))) (hC:P.cellsOf (tid k)=size k) (he:Reads P (tid k) (leaves (zK k))):Reads P t [.nest k []]:=by
 intro H enc w base spare held fuel cs x h
 rcases open_slice ht h with⟨rfl,_⟩ |⟨⟨b,off,spot⟩,len,cap,m,n,D,Pl,rfl,hb,hl,hm,hmm,hx,hi⟩
 ·exact⟨[.nest k []],⟨rfl,trivial⟩,Row.nil,trivial⟩
 ·have hp:=size_pos k
  have hlm:len<=m:=by rw[hmm];split<;>omega
  have hspot:0<len->spot=none:=by
   intro h0
   obtain⟨cs',hcs,htr⟩:=hi 0 (by omega)
   obtain⟨_,hlen,hat⟩:=World.cells?_some hcs
   rw[hC]at hat hlen
   have hc:=(hat 0 hp).trans (qE1 (show 0<cs'.length by omega))
   have:=World.cell?_spot hc
   simpa [Addr.add]using this
  have H1:∀i:Fin len,∃y:ty k,spot=none/\b<w.heap.size/\∀(j:Nat) lf,(leaves y)[j]?=some lf->∃u,w.cell? ⟨b,off+(i.1*size k+j),none⟩ = some u/\LeafV (fun b=>b<w.heap.size) w lf u:=by
   intro i
   obtain⟨cs',hcs,htr⟩:=hi i.1 (by omega)
   obtain⟨_,hlen,hat⟩:=World.cells?_some hcs
   rw[hC]at hlen hat
   obtain⟨y,hy⟩:=(he _ _ _ _ _ _ _ _ _ htr).elem
   have hc0:=(hat 0 hp).trans (qE1 (show 0<cs'.length by omega))
   have hspot:=hspot (Nat.lt_of_le_of_lt (Nat.zero_le _) i.2)
   subst hspot
   have hblk:b<w.heap.size:=by
    have:=cell_block hc0
    rw[addr_add,addr_add]at this
    exact this
   refine⟨y,rfl,hblk,fun j lf hlf=> ?_⟩
   obtain⟨u,hu,hv⟩:=hy.get j lf hlf
   have hj:j<size k:=by have:=(qS1.1 hlf).1;rwa[leaves_len]at this
   have hc:=(hat j hj).trans hu
   rw[addr_add,addr_add]at hc
   exact⟨u,by rw[<-Nat.add_assoc];exact hc,hv⟩
  have hm':len<=9223372036854775807:=Nat.le_trans hl hm
  refine⟨[.nest k (List.ofFn fun i=>(H1 i).choose)],⟨rfl,trivial⟩,?_,trivial⟩
  have hlen:(List.ofFn fun i=>(H1 i).choose).length=len:=by simp
  have:=Row.make (S:=fun b=>b<w.heap.size) (w:=w) (k:=k) (l:=List.ofFn fun i=>(H1 i).choose) (a:=some ⟨b,off,spot⟩) (cap:=cap) (by rw[hlen];exact hl) (by rw[hlen];exact hm') fun hne=>by
   have h0:0<len:=by
    rcases Nat.eq_zero_or_pos len with h0|h0
    ·subst h0;simp at hne
    ·exact h0
   obtain⟨hs,hblk,_⟩:=(H1 ⟨0,h0⟩).choose_spec
   refine⟨b,off,by rw[hs],hblk,fun i x hx j lf hlf=> ?_⟩
   have hi':i<len:=by rw[<-hlen];exact(qS1.1 hx).1
   have hx':x=(H1 ⟨i,hi'⟩).choose:=by
    rw[List.getElem?_ofFn]at hx
    simp[hi']at hx
    exact hx.symm
   subst hx'
   exact(H1 ⟨i,hi'⟩).choose_spec.2.2 j lf hlf
  rw[hlen]at this
  exact this
def sameZ:List Leaf->List Leaf->Bool
 | [],[]=>true
 | .sc (.int k _)::l,.sc (.int k' _)::m=>decide (k'=k)&&sameZ l m
 | .sc (.string _)::l,.sc (.string _)::m=>sameZ l m
 | .sc (.bool _)::l,.sc (.bool _)::m=>sameZ l m
 | .nest k _::l,.nest k' _::m=>decide (k'=k)&&sameZ l m
 | _,_=>false
theorem sameZ_spec:∀{l m:List Leaf},sameZ l m=true->∀{lfs:List Leaf},All2 shp l lfs->All2 shp m lfs
 | [],[],_,lfs,h=>h
 | a::l,b::m,hs,lfs,h=>by
  cases lfs with
  | nil=>exact h.elim
  | cons c lfs=>
   unfold sameZ at hs
   split at hs
   ·rename_i h1 h2;cases h1
   ·rename_i k n l1 k' n' m1 h1 h2
    cases h1;cases h2
    rw[Bool.and_eq_true]at hs
    obtain rfl:=of_decide_eq_true hs.1
    obtain⟨q,rfl⟩:=shp_int h.1
    exact⟨rfl,sameZ_spec hs.2 h.2⟩
   ·rename_i h1 h2
    cases h1;cases h2
    obtain⟨q,rfl⟩:=shp_str h.1
    exact⟨trivial,sameZ_spec hs h.2⟩
   ·rename_i h1 h2
    cases h1;cases h2
    obtain⟨q,rfl⟩:=shp_bool h.1
    exact⟨trivial,sameZ_spec hs h.2⟩
   ·rename_i k n l1 k' n' m1 h1 h2
    cases h1;cases h2
    rw[Bool.and_eq_true]at hs
    obtain rfl:=of_decide_eq_true hs.1
    obtain⟨q,rfl⟩:=shp_nest h.1
    exact⟨rfl,sameZ_spec hs.2 h.2⟩
   ·cases hs
 | [],_::_,hs,_,_=>by cases hs
 | .sc v::_,[],hs,_,_=>by cases v<;>simp[sameZ]at hs
 | .nest _ _::_,[],hs,_,_=>by cases hs
def fieldsZ (P:Program) (r:TypeId->Option (List Leaf)):Nat->List Field->Option (List Leaf)
 | _,[]=>some []
 | off,f::fs=>match Nat.beq f.offset off,r f.type with
  | true,some z=>(match Nat.beq (P.cellsOf f.type) z.length with
   | true=>(match fieldsZ P r (off+z.length) fs with
    | some zs=>some (z++zs)
    | none=>none)
   | false=>none)
  | _,_=>none
def rdT (P:Program):Nat->TypeId->Option (List Leaf)
 | 0,_=>none
 | n+1,t=>match P.underlying t with
  | some (.int k)=>some [.sc (.int k 0)]
  | some .string=>some [.sc (.string ByteArray.empty)]
  | some .bool=>some [.sc (.bool false)]
  | some (.slice e)=>(match slK t with
   | some k=>(match Nat.beq e (tid k),Nat.beq (P.cellsOf (tid k)) (size k),rdT P n (tid k)with
    | true,true,some zs=>(match sameZ zs (leaves (zK k))with
     | true=>some [.nest k []]
     | false=>none)
    | _,_,_=>none)
   | none=>none)
  | some (.struct fs)=>(match fieldsZ P (rdT P n) 0 fs.toList with
   | some zs=>(match Nat.beq (P.cellsOf t) zs.length with
    | true=>some zs
    | false=>none)
   | none=>none)
  | _=>none
theorem fieldsZ_rd {r:TypeId->Option (List Leaf)} {w:World} {cs:List Value}:∀{fs:List Field} {off:Nat} {zs:List Leaf},fieldsZ P r off fs=some zs->cs.length=off+zs.length->
  (∀(i:Nat) f z,fs[i]?=some f->r f.type=some z->RdL w z ((cs.drop f.offset).take (P.cellsOf f.type)))->RdL w zs (cs.drop off)
 | [],off,zs,h,hl,_=>by
  cases h
  rw[List.drop_eq_nil_of_le (by simp at hl;omega)]
  exact⟨[],trivial,trivial⟩
 | f::fs,off,zs,h,hl,hf=>by
  unfold fieldsZ at h
  split at h
  case h_2=>cases h
  rename_i z h1 h2
  split at h
  case h_2=>cases h
  rename_i h3
  split at h
  case h_2=>cases h
  rename_i zs' h4
  cases h
  have h5:=Nat.eq_of_beq_eq_true h1
  have h6:=Nat.eq_of_beq_eq_true h3
  have q1:=hf 0 f z rfl h2
  rw[h5,h6]at q1
  have q2:=fieldsZ_rd (off:=off+z.length) h4 (by rw[List.length_append]at hl;omega) fun i f z hi hz=>hf (i+1) f z (by simpa using hi) hz
  have:=q1.app q2
  rwa[show(cs.drop off).take z.length++cs.drop (off+z.length)=cs.drop off by rw[<-List.drop_drop];exact List.take_append_drop ..]at this
theorem rdT_reads:∀{n:Nat} {t:TypeId} {zs:List Leaf},rdT P n t=some zs->Reads P t zs
 | 0,_,_,h=>by cases h
 | n+1,t,zs,h=>by
  unfold rdT at h
  split at h
  ·rename_i k ht;cases h;exact reads_int ht
  ·rename_i ht;cases h;exact reads_str ht
  ·rename_i ht;cases h;exact reads_bool ht
  ·rename_i e ht
   split at h
   case h_2=>cases h
   rename_i k hk
   split at h
   case h_2=>cases h
   rename_i zs' h1 h2 h3
   split at h
   case h_2=>cases h
   rename_i h4
   cases h
   have e1:=Nat.eq_of_beq_eq_true h1
   have e2:=Nat.eq_of_beq_eq_true h2
   subst e1
   refine reads_slice ht e2 fun H enc w base spare held fuel cs x hx=> ?_
   obtain⟨l,a,b⟩:=rdT_reads h3 H enc w base spare held fuel cs x hx
   exact⟨l,sameZ_spec h4 a,b⟩
  ·rename_i fs ht
   split at h
   case h_2=>cases h
   rename_i zs' h1
   split at h
   case h_2=>cases h
   rename_i h2
   cases h
   have e2:=Nat.eq_of_beq_eq_true h2
   intro H enc w base spare held fuel cs x hx
   obtain⟨xs,m,_,_,hC,hl,hf⟩:=DataW.trod_struct ht hx
   have:=fieldsZ_rd (P:=P) (w:=w) (cs:=cs) (off:=0) h1 (by rw[hC,e2,Nat.zero_add]) fun i f z hi hz=>by
    have g:=hf i f (by simpa using hi)
    have hix:i<xs.length:=by rw[hl];simpa using(qS1.1 hi).1
    rw[qE1 hix]at g
    exact rdT_reads hz H enc w base spare held m _ _ g
   simpa using this
  ·cases h
end
open Go.RowKit
section
variable {S:Nat->Prop} {w:World} {J:Nat->Option (Nat×Nat)} {σ:Sto}
theorem own_leaf {lf:Leaf} {u:Value} (h:LeafV S w lf u):OwnS S w J σ (leafPV lf) u []:=by
 cases lf with
 | sc q=>exact⟨rfl,h⟩
 | nest k l=>exact⟨rfl,rfl,h⟩
theorem own_st {x:ty k} {us:List Value} (h:All2 (LeafV S w) (leaves x) us):Own1 S w J σ ((Sh.st k []).encC x) (.agg us.toArray) []:=by
 refine⟨us.toArray,rfl,?_⟩
 have key:∀(lfs:List Leaf) (j:Nat) (us:List Value),All2 (LeafV S w) lfs us->All3 (OwnS S w J σ) (stoR [] j lfs) us []:=by
  intro lfs
  induction lfs with
  | nil=>intro j us h;cases us with
   | nil=>rfl
   | cons=>exact h.elim
  | cons a lfs ih=>intro j us h;cases us with
   | nil=>exact h.elim
   | cons u us=>exact⟨[],[],rfl,own_leaf h.1,ih (j+1) us h.2⟩
 simpa using key _ 0 us h
end
@[simp] theorem bd_s {α J:Type} (a:α) (f:α->Option J):bd (some a) f=f a:=rfl
@[simp] theorem bd_n {α J:Type} (f:α->Option J):bd (none:Option α) f=none:=rfl
@[simp] theorem br_t {α:Type} (x y:α):br true x y=x:=rfl
@[simp] theorem br_f {α:Type} (x y:α):br false x y=y:=rfl
@[simp] theorem jn_l {V J:Type} (v:V) (f:V->Option J):jn (some (.inl v)) f=f v:=rfl
@[simp] theorem jn_r {V J:Type} (r:J) (f:V->Option J):jn (some (.inr r)) f=some r:=rfl
theorem bd_br (b:Bool) (x y:Option α) (f:α->Option J):bd (br b x y) f=br b (bd x f) (bd y f):=by cases b<;>rfl
theorem br_ss (b:Bool) (x y:α):br b (some x) (some y)=some (br b x y):=by cases b<;>rfl
theorem br_pp (b:Bool) (a:α) (x y:J):br b (a,x) (a,y)=(a,br b x y):=by cases b<;>rfl
theorem gd_t {p:Prop} [Decidable p] (h:p) (x:Option J):gd p x=x:=if_pos h
theorem br_if (b:Bool) (x y:α):br b x y=if b then x else y:=by cases b<;>rfl
theorem loopF_drop {V O α:Type} {B:V->Option (V⊕O)} {f:Nat->V} {l:List α} {q:α->Bool} {R E:O} (h:∀i x,l[i]?=some x->B (f i)=if q x then some (.inr R)else some (.inl (f (i+1)))) (he:B (f l.length)=some (.inr E)) :
  ∀(n fuel i:Nat),l.length-i=n->i<=l.length->n<fuel->loopF B fuel (f i)=some (if(l.drop i).any q then R else E)
 | n,0,i,_,_,hf=>by omega
 | 0,fuel+1,i,hn,hi,_=>by
  obtain rfl:i=l.length:=by omega
  unfold loopF
  rw[he]
  simp
 | n+1,fuel+1,i,hn,hi,hf=>by
  have hlt:i<l.length:=by omega
  have hx:l[i]?=some l[i]:=qE1 hlt
  unfold loopF
  rw[h i _ hx,List.drop_eq_getElem_cons hlt,List.any_cons]
  by_cases hq:q l[i]=true
  ·simp[hq]
  ·simp only[hq,if_false,Bool.false_eq_true,Bool.false_or]
   exact loopF_drop h he n fuel (i+1) (by omega) (by omega) (by omega)
theorem loopF_any {V:Type} {B:V->Option (V⊕O)} (f:Nat->V) (l:List α) (q:α->Bool) (R E:O) {fuel:Nat} {v:V} (hv:v=f 0) (h:∀i x,l[i]?=some x->B (f i)=if q x then some (.inr R)else some (.inl (f (i+1)))) (he:B (f l.length)=some (.inr E)) (hf:l.length<fuel):loopF B fuel v=some (if l.any q then R else E):=by
 subst hv
 have:=loopF_drop h he l.length fuel 0 rfl (Nat.zero_le _) hf
 rwa[List.drop_zero]at this
theorem loopF_find {V:Type} {B:V->Option (V⊕O)} (f:Nat->V) (l:List α) (q:α->Bool) (R:Nat->O) (E:O) {fuel:Nat} {v:V} (hv:v=f 0) (h:∀i x,l[i]?=some x->B (f i)=if q x then some (.inr (R i))else some (.inl (f (i+1)))) (he:B (f l.length)=some (.inr E)) (hf:l.length<fuel) :
  (∃(i:Nat) (x:α),l[i]?=some x/\q x=true/\(∀(j:Nat) y,j<i->l[j]?=some y->q y=false)/\loopF B fuel v=some (R i))∨((∀x∈l,q x=false)/\loopF B fuel v=some E):=by
 subst hv
 have key:∀(n fuel i:Nat),l.length-i=n->i<=l.length->n<fuel->(∀(j:Nat) y,j<i->l[j]?=some y->q y=false)->
   (∃(i':Nat) (x:α),l[i']?=some x/\q x=true/\(∀(j:Nat) y,j<i'->l[j]?=some y->q y=false)/\loopF B fuel (f i)=some (R i'))∨((∀(j:Nat) y,l[j]?=some y->q y=false)/\loopF B fuel (f i)=some E):=by
  intro n
  induction n with
  | zero=>
   intro fuel i hn hi hf hq
   cases fuel with
   | zero=>omega
   | succ fuel=>
    obtain rfl:i=l.length:=by omega
    refine .inr ⟨fun j y hj=>hq j y (qS1.1 hj).1 hj,?_⟩
    unfold loopF;rw[he]
  | succ n ih=>
   intro fuel i hn hi hf hq
   cases fuel with
   | zero=>omega
   | succ fuel=>
    have hlt:i<l.length:=by omega
    have hx:l[i]?=some l[i]:=qE1 hlt
    by_cases hqx:q l[i]=true
    ·refine .inl ⟨i,_,hx,hqx,hq,?_⟩
     unfold loopF;rw[h i _ hx,hqx];rfl
    ·have hqx:q l[i]=false:=by simpa using hqx
     have hstep:loopF B (fuel+1) (f i)=loopF B fuel (f (i+1)):=by
      conv=>lhs;unfold loopF
      rw[h i _ hx,hqx];rfl
     rw[hstep]
     refine ih fuel (i+1) (by omega) (by omega) (by omega) fun j y hj hy=> ?_
     rcases Nat.lt_succ_iff_lt_or_eq.1 hj with h1|h1
     ·exact hq j y h1 hy
     ·subst h1;rw[hx]at hy;cases hy;exact hqx
 rcases key l.length fuel 0 rfl (Nat.zero_le _) hf (fun j y hj=>by omega)with h1|⟨h1,h2⟩
 ·exact .inl h1
 ·exact .inr ⟨fun x hx=>by obtain⟨j,hj⟩:=List.getElem?_of_mem hx;exact h1 j x hj,h2⟩
theorem loopF_anyI {V:Type} {B:V->Option (V⊕O)} (f:Nat->V) (l:List α) (q:Nat->α->Bool) (R E:O) {fuel:Nat} {v:V} (hv:v=f 0) (h:∀i x,l[i]?=some x->B (f i)=if q i x then some (.inr R)else some (.inl (f (i+1)))) (he:B (f l.length)=some (.inr E)) (hf:l.length<fuel) :
  loopF B fuel v=some (if l.zipIdx.any (fun p=>q p.2 p.1)then R else E):=by
 have hl:l.zipIdx.length=l.length:=List.length_zipIdx
 refine loopF_any f l.zipIdx (fun p=>q p.2 p.1) R E hv (fun i p hp=> ?_) (by rw[hl];exact he) (by rw[hl];exact hf)
 rw[List.getElem?_zipIdx]at hp
 cases hx:l[i]? with
 | none=>rw[hx]at hp;cases hp
 | some x=>rw[hx]at hp;simp at hp;subst hp;exact h i x hx
end Go.Px
