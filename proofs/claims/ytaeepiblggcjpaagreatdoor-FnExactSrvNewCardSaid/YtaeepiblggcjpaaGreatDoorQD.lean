/- What a call may hold, as plain values and a store: a small machine over them, the functions of this program as its contracts, and the plain laws: texts T0 to QI8. -/
import Derived.Test.YtaeepiblggcjpaaGreatDoorQC
import Derived.Test.YtaeepiblggcjpaaGreatDoorProg
import Derived.Shelf.Small.Strs
import Derived.Shelf.Sort.Plain
import Derived.Shelf.Slices.In.SortNone
import Derived.Shelf.Strconv.Itoa3
import Derived.Sort.OwnSortedInts
import Derived.Ground.NamesProg
import Derived.Lib.SmallJoins
import Derived.WalkKit
import Derived.Laws.IdiomCopy
import Derived.Lib.AppendZerosOnto
import Derived.Lib.Overlaps
import Derived.Lib.SliceRun
import Derived.Shelf.Spec.SlicesInsert
import Derived.Shelf.Spec.SlicesInsertGrow
set_option linter.unusedSimpArgs false
set_option linter.unusedVariables false
set_option linter.constructorNameAsVariable false
namespace Go.Proofs.YtaeepiblggcjpaaGreatDoor
open Go.RowKit Go.Shelf
def Tryz.laysIndexByte_ren:Go.Shelf.Ren:=⟨fun|137=>276|217=>323|266=>350|n=>n,fun|9=>9|5=>5|3=>3|n=>n,fun|n=>n⟩
theorem Tryz.laysIndexByte:Go.Proofs.Lays.n137 Tryz.prog Tryz.laysIndexByte_ren:= {
 mixed:=by kernel_rfl
 f137:=Tryz.func276.trans (congrArg some (by kernel_rfl))
 f217:=Tryz.func323.trans (congrArg some (by kernel_rfl))
 f266:=Tryz.func350.trans (congrArg some (by kernel_rfl))
 t3:=Tryz.underlying3
 a3:=Tryz.isAgg3
 z3:=Tryz.sizeOf3
 v3:=Tryz.zeroValue3
 t5:=Tryz.underlying5
 a5:=Tryz.isAgg5
 z5:=Tryz.sizeOf5
 v5:=Tryz.zeroValue5
 t9:=Tryz.underlying9
 a9:=Tryz.isAgg9
 z9:=Tryz.sizeOf9
 v9:=Tryz.zeroValue9}
def Tryz.laysItoa_ren:Go.Shelf.Ren:=⟨fun|171=>253|243=>280|246=>324|283=>351|284=>352|285=>353|286=>354|129=>298|317=>368|318=>369|319=>370|320=>371|337=>375|338=>376|n=>n,fun|3=>3|9=>9|2=>2|4=>4|171=>384|0=>0|53=>342|37=>77|5=>5|173=>386|212=>400|51=>340|20=>20|213=>401|46=>306|232=>405|233=>406|n=>n,fun|17=>1|18=>2|19=>3|n=>n⟩
theorem Tryz.laysItoa:Go.Proofs.LaysM.n171 Tryz.prog Tryz.laysItoa_ren:= {
 mixed:=by kernel_rfl
 f129:=Tryz.func298.trans (congrArg some (by kernel_rfl))
 f171:=Tryz.func253.trans (congrArg some (by kernel_rfl))
 f243:=Tryz.func280.trans (congrArg some (by kernel_rfl))
 f246:=Tryz.func324.trans (congrArg some (by kernel_rfl))
 f283:=Tryz.func351.trans (congrArg some (by kernel_rfl))
 f284:=Tryz.func352.trans (congrArg some (by kernel_rfl))
 f285:=Tryz.func353.trans (congrArg some (by kernel_rfl))
 f286:=Tryz.func354.trans (congrArg some (by kernel_rfl))
 f317:=Tryz.func368.trans (congrArg some (by kernel_rfl))
 f318:=Tryz.func369.trans (congrArg some (by kernel_rfl))
 f319:=Tryz.func370.trans (congrArg some (by kernel_rfl))
 f320:=Tryz.func371.trans (congrArg some (by kernel_rfl))
 f337:=Tryz.func375.trans (congrArg some (by kernel_rfl))
 f338:=Tryz.func376.trans (congrArg some (by kernel_rfl))
 t0:=Tryz.underlying0
 a0:=Tryz.isAgg0
 z0:=Tryz.sizeOf0
 v0:=Tryz.zeroValue0
 t2:=Tryz.underlying2
 a2:=Tryz.isAgg2
 z2:=Tryz.sizeOf2
 v2:=Tryz.zeroValue2
 t3:=Tryz.underlying3
 a3:=Tryz.isAgg3
 z3:=Tryz.sizeOf3
 v3:=Tryz.zeroValue3
 t4:=Tryz.underlying4
 a4:=Tryz.isAgg4
 z4:=Tryz.sizeOf4
 v4:=Tryz.zeroValue4
 t5:=Tryz.underlying5
 a5:=Tryz.isAgg5
 z5:=Tryz.sizeOf5
 v5:=Tryz.zeroValue5
 t9:=Tryz.underlying9
 a9:=Tryz.isAgg9
 z9:=Tryz.sizeOf9
 v9:=Tryz.zeroValue9
 t20:=Tryz.underlying20
 a20:=Tryz.isAgg20
 z20:=Tryz.sizeOf20
 v20:=Tryz.zeroValue20
 t37:=Tryz.underlying77
 a37:=Tryz.isAgg77
 z37:=Tryz.sizeOf77
 v37:=Tryz.zeroValue77
 t46:=Tryz.underlying306
 a46:=Tryz.isAgg306
 z46:=Tryz.sizeOf306
 v46:=Tryz.zeroValue306
 t51:=Tryz.underlying340
 a51:=Tryz.isAgg340
 z51:=Tryz.sizeOf340
 v51:=Tryz.zeroValue340
 t53:=Tryz.underlying342
 a53:=Tryz.isAgg342
 z53:=Tryz.sizeOf342
 v53:=Tryz.zeroValue342
 t171:=Tryz.underlying384
 a171:=Tryz.isAgg384
 z171:=Tryz.sizeOf384
 v171:=Tryz.zeroValue384
 t173:=Tryz.underlying386
 a173:=Tryz.isAgg386
 z173:=Tryz.sizeOf386
 v173:=Tryz.zeroValue386
 t212:=Tryz.underlying400
 a212:=Tryz.isAgg400
 z212:=Tryz.sizeOf400
 v212:=Tryz.zeroValue400
 t213:=Tryz.underlying401
 a213:=Tryz.isAgg401
 z213:=Tryz.sizeOf401
 t232:=Tryz.underlying405
 a232:=Tryz.isAgg405
 z232:=Tryz.sizeOf405
 v232:=Tryz.zeroValue405
 t233:=Tryz.underlying406
 a233:=Tryz.isAgg406
 z233:=Tryz.sizeOf406
 v233:=Tryz.zeroValue406
 g17:=by kernel_rfl
 g18:=by kernel_rfl
 g19:=by kernel_rfl
 i0:=by kernel_rfl
 i2:=by kernel_rfl
 i3:=by kernel_rfl
 i4:=by kernel_rfl
 i5:=by kernel_rfl
 i9:=by kernel_rfl
 i20:=by kernel_rfl
 i37:=by kernel_rfl
 i46:=by kernel_rfl
 i51:=by kernel_rfl
 i53:=by kernel_rfl
 i171:=by kernel_rfl
 i173:=by kernel_rfl
 i212:=by kernel_rfl
 i232:=by kernel_rfl
 i233:=by kernel_rfl
 m17:=by kernel_rfl
 m18:=by kernel_rfl
 m19:=by kernel_rfl}
def Tryz.laysSort_ren:Go.Shelf.Ren:=⟨fun|189=>196|125=>257|257=>256|128=>297|129=>298|294=>288|295=>289|296=>290|297=>291|298=>292|299=>293|216=>294|300=>295|301=>296|328=>328|329=>329|330=>330|331=>331|332=>332|215=>333|343=>357|n=>n,fun|28=>124|3=>3|46=>306|0=>0|51=>340|53=>342|4=>4|183=>334|182=>333|131=>325|5=>5|9=>9|218=>363|222=>367|228=>388|229=>169|n=>n,fun|n=>n⟩
theorem Tryz.laysSort:Go.Proofs.Lays.n189 Tryz.prog Tryz.laysSort_ren:= {
 mixed:=by kernel_rfl
 f125:=Tryz.func257.trans (congrArg some (by kernel_rfl))
 f128:=Tryz.func297.trans (congrArg some (by kernel_rfl))
 f129:=Tryz.func298.trans (congrArg some (by kernel_rfl))
 f189:=Tryz.func196.trans (congrArg some (by kernel_rfl))
 f215:=Tryz.func333.trans (congrArg some (by kernel_rfl))
 f216:=Tryz.func294.trans (congrArg some (by kernel_rfl))
 f257:=Tryz.func256.trans (congrArg some (by kernel_rfl))
 f294:=Tryz.func288.trans (congrArg some (by kernel_rfl))
 f295:=Tryz.func289.trans (congrArg some (by kernel_rfl))
 f296:=Tryz.func290.trans (congrArg some (by kernel_rfl))
 f297:=Tryz.func291.trans (congrArg some (by kernel_rfl))
 f298:=Tryz.func292.trans (congrArg some (by kernel_rfl))
 f299:=Tryz.func293.trans (congrArg some (by kernel_rfl))
 f300:=Tryz.func295.trans (congrArg some (by kernel_rfl))
 f301:=Tryz.func296.trans (congrArg some (by kernel_rfl))
 f328:=Tryz.func328.trans (congrArg some (by kernel_rfl))
 f329:=Tryz.func329.trans (congrArg some (by kernel_rfl))
 f330:=Tryz.func330.trans (congrArg some (by kernel_rfl))
 f331:=Tryz.func331.trans (congrArg some (by kernel_rfl))
 f332:=Tryz.func332.trans (congrArg some (by kernel_rfl))
 f343:=Tryz.func357.trans (congrArg some (by kernel_rfl))
 t0:=Tryz.underlying0
 a0:=Tryz.isAgg0
 z0:=Tryz.sizeOf0
 v0:=Tryz.zeroValue0
 t3:=Tryz.underlying3
 a3:=Tryz.isAgg3
 z3:=Tryz.sizeOf3
 v3:=Tryz.zeroValue3
 t4:=Tryz.underlying4
 a4:=Tryz.isAgg4
 z4:=Tryz.sizeOf4
 v4:=Tryz.zeroValue4
 t5:=Tryz.underlying5
 a5:=Tryz.isAgg5
 z5:=Tryz.sizeOf5
 v5:=Tryz.zeroValue5
 t9:=Tryz.underlying9
 a9:=Tryz.isAgg9
 z9:=Tryz.sizeOf9
 v9:=Tryz.zeroValue9
 t28:=Tryz.underlying124
 a28:=Tryz.isAgg124
 z28:=Tryz.sizeOf124
 v28:=Tryz.zeroValue124
 t46:=Tryz.underlying306
 a46:=Tryz.isAgg306
 z46:=Tryz.sizeOf306
 v46:=Tryz.zeroValue306
 t51:=Tryz.underlying340
 a51:=Tryz.isAgg340
 z51:=Tryz.sizeOf340
 v51:=Tryz.zeroValue340
 t53:=Tryz.underlying342
 a53:=Tryz.isAgg342
 z53:=Tryz.sizeOf342
 v53:=Tryz.zeroValue342
 t131:=Tryz.underlying325
 a131:=Tryz.isAgg325
 z131:=Tryz.sizeOf325
 v131:=Tryz.zeroValue325
 t182:=Tryz.underlying333
 a182:=Tryz.isAgg333
 z182:=Tryz.sizeOf333
 v182:=Tryz.zeroValue333
 t183:=Tryz.underlying334
 a183:=Tryz.isAgg334
 z183:=Tryz.sizeOf334
 v183:=Tryz.zeroValue334
 t218:=Tryz.underlying363
 a218:=Tryz.isAgg363
 z218:=Tryz.sizeOf363
 v218:=Tryz.zeroValue363
 t222:=Tryz.underlying367
 a222:=Tryz.isAgg367
 z222:=Tryz.sizeOf367
 v222:=Tryz.zeroValue367
 t228:=Tryz.underlying388
 a228:=Tryz.isAgg388
 z228:=Tryz.sizeOf388
 v228:=Tryz.zeroValue388
 t229:=Tryz.underlying169
 a229:=Tryz.isAgg169
 z229:=Tryz.sizeOf169
 v229:=Tryz.zeroValue169}
def Tryz.laysCompare_ren:Go.Shelf.Ren:=⟨fun|106=>283|213=>325|265=>355|n=>n,fun|9=>9|3=>3|n=>n,fun|n=>n⟩
theorem Tryz.laysCompare:Go.Proofs.Lays.n106 Tryz.prog Tryz.laysCompare_ren:= {
 mixed:=by kernel_rfl
 f106:=Tryz.func283.trans (congrArg some (by kernel_rfl))
 f213:=Tryz.func325.trans (congrArg some (by kernel_rfl))
 f265:=Tryz.func355.trans (congrArg some (by kernel_rfl))
 t3:=Tryz.underlying3
 a3:=Tryz.isAgg3
 z3:=Tryz.sizeOf3
 v3:=Tryz.zeroValue3
 t9:=Tryz.underlying9
 a9:=Tryz.isAgg9
 z9:=Tryz.sizeOf9
 v9:=Tryz.zeroValue9}
end Go.Proofs.YtaeepiblggcjpaaGreatDoor
namespace Go.Px
variable {w:World}
open Go.RowKit Go.Proofs Go.Sort
theorem winOk:WinOk Tryz.prog:=by
 intro f t hf
 have:=look_mem hf
 simp[winL]at this
theorem selOk:SelOk Tryz.prog:=by
 intro f oc oa ob hf
 have:=look_mem hf
 simp[selL]at this
set_option maxRecDepth 100000 in
theorem facts:Facts Tryz.prog:=Facts.of winOk selOk (by kernel_rfl)
theorem mixed:Tryz.prog.follows .mixedOrders=true:=by kernel_rfl
def TabW (w:World):Prop:=Lib.TabIs Tryz.prog w "internal/strconv.uint64pow10" .u64 Lib.pow10Tab
structure Cl (G:Nat) (E:World->Prop):Prop where
 cl:∀w w':World,E w->(∀b,b<G->w'.heap[b]?=w.heap[b]?)->E w'
 tab:∀w,E w->TabW w
def CC (o:Nat->Orc):Prop:=∀{G:Nat} {E:World->Prop} (_:Cl G E) (m:Nat),Ctr Tryz.prog G E (o m)
def CL (C:Nat->List Orc):Prop:=∀{G:Nat} {E:World->Prop} (_:Cl G E) (m:Nat),∀o∈C m,Ctr Tryz.prog G E o
theorem cn:CL (fun _=> []):=fun _ _=>csn
theorem cs {o:Nat->Orc} {C:Nat->List Orc} (h:CC o) (t:CL C):CL (fun m=>o m::C m):=fun hcl m=>csc (h hcl m) (t hcl m)
def tn:Tab:=⟨[],[],[]⟩
theorem mq {C:Nat->List Orc} (hC:CL C) {o:Nat->Orc} (T:Tab) (fn:Func) {c:Code} (hf:∀m,Tryz.prog.funcs[(o m).f]?=some fn:=by intro _;kernel_rfl) (hb:fn.body=some c:=by rfl)
  (hB:((fn.name== "runtime.NumGoroutine")==false&&codeB fn.ntmps c)=true:=by kernel_rfl) (hok:∀m v,okB fn.ntmps (o m).nx ((o m).args v) ((o m).exts v)=true:=by intro _ _;kernel_rfl) (hel:∀m v r,((o m).back r).map List.length=((o m).exts v).map List.length:=by intro _ _ _;kernel_rfl) (h:∀m v,fev (C m) T (o m).nx m fn (o m).pat (o m).ins (o m).out v=(o m).p v:=by intro _ _;kernel_rfl):CC o:=fun hcl m=>Ctr.mk (hC hcl m) facts mixed hcl.cl T m (hf m) hb hB (hok m) (hel m) (h m)
section
variable {G:Nat} {E:World->Prop}
theorem PCalls.libV {P:Program} {f:FuncId} {fn:Func} {c:Code} (hf:P.funcs[f]?=some fn) (hname:(fn.name== "runtime.NumGoroutine")=false) (hb:fn.body=some c) {vs:List Value} {x:Value} (hx:wfV x)
  (h:∀w,E w->Calls P f vs.toArray w fun e w'=>e= .returned x/\Below w.heap.size w w'):PCalls P G E f (vs.map .v) [] (.v x) []:=by
 refine⟨rfl,fun w S us locs La Le hG hE hl1 hl2 hnd hF0 hS hargs hext=> ?_⟩
 obtain rfl:locs=[]:=List.eq_nil_of_length_eq_zero hl1
 obtain rfl:Le=[]:=List.eq_nil_of_length_eq_zero hl2
 have hus:us=vs/\La=[]:=by
  have key:∀(vs us:List Value) (L:List Nat),All3 (Own1 S w (extB []) (extS [])) (vs.map .v) us L->us=vs/\L=[]:=by
   intro vs
   induction vs with
   | nil=>intro us L h;cases us with
    | nil=>exact⟨rfl,h⟩
    | cons _ _=>exact h.elim
   | cons v vs ih=>
    intro us L h
    cases us with
    | nil=>exact h.elim
    | cons u us=>
     obtain⟨L1,L2,e,h1,h2⟩:=h
     obtain⟨q1,q2⟩:=ih us L2 h2
     obtain⟨p1,p2⟩:L1=[]/\u=v/\wfV v:=h1
     exact⟨by rw[q1,p2.1],by rw[e,p1,q2];rfl⟩
  exact key vs us La hargs
 obtain⟨rfl,rfl⟩:=hus
 refine Arrive.of hf hname hb (Calls.mono (h w hE) ?_)
 rintro e w' ⟨rfl,h1,h2,h3,h4,h5⟩
 exact⟨x,[],[],rfl,rfl,by simp,by simp,⟨rfl,rfl,hx⟩,fun j p cs L hj=>by simp at hj,⟨h1,h2,h3,h4,fun b hb _=>h5 b hb,fun j b off n hj=>by simp at hj⟩⟩
def pG_slices_Sort_int (l:List Int):Option (List Int):=gd (l.length<4611686018427387904) (some (l.mergeSort fun x y=>decide (x<=y)))
def o196 (fuel:Nat):Orc:=⟨196,[none],[.own .int 99],101,.one (.own .int 99),fun v=>pG_slices_Sort_int v⟩
theorem sort_calls (v r:List Int) (hr:pG_slices_Sort_int v=some r):PCalls Tryz.prog G E 196 [.row true .int v] [] (.gb (.tup []) [.row true .int r]) []:=by
 unfold pG_slices_Sort_int at hr
 obtain⟨hlen,hr⟩:=gd_some hr
 cases hr
 refine⟨rfl,fun w S us locs La Le hG hE hl1 hl2 hnd hF0 hS hargs hext=> ?_⟩
 obtain rfl:locs=[]:=List.eq_nil_of_length_eq_zero hl1
 obtain rfl:Le=[]:=List.eq_nil_of_length_eq_zero hl2
 match us,hargs with
 | [u],⟨L1,L2,e,h1,h2⟩=>
 have h2:L2=[]:=h2
 subst h2
 rw[List.append_nil]at e
 subst e
 have h1:Own S w .int u v La:=h1
 refine Arrive.of (fn:=Tryz.f196) (by kernel_rfl) (by kernel_rfl) rfl ?_
 rcases h1 with⟨rfl,rfl,rfl⟩ |⟨b,cap,cur,rfl,rfl,hlt,hrow,hcap,hmax,hsz,hcont⟩
 ·refine Calls.mono (Any.slices_Sort_int_none Go.Proofs.YtaeepiblggcjpaaGreatDoor.Tryz.laysSort none 0 w) ?_
  rintro e w' ⟨rfl,rfl⟩
  refine⟨.tuple #[],[],[],rfl,rfl,by simp,by simp,⟨[],[],rfl,⟨#[],rfl,rfl⟩,[],[],rfl,.inl ⟨rfl,?_,rfl⟩,rfl⟩,fun j p cs L hj=>by simp at hj,⟨rfl,rfl,rfl,Nat.le_refl _,fun _ _ _=>rfl,fun j b off n hj=>by simp at hj⟩⟩
  simp
 ·have hbl:b<w.heap.size:=hrow.lt
  have hH:Holds (Value.int .i64) w b 0 v.toArray:=fun j hj=>by
   have hj':j<v.length:=by simpa using hj
   obtain⟨u,hu,hl⟩:=hcont j v[j] (qE1 hj') 0 (.sc (.int .i64 v[j])) rfl
   have e1:j*size .int+0=j:=by show j*1+0=j;omega
   rw[e1]at hu
   have hlu:u= .int .i64 v[j]:=hl.1
   subst hlu
   have hjs:j<cur.size:=(Array.getElem?_eq_some_iff.1 hu).1
   rw[Nat.zero_add]
   refine⟨?_,hrow.frozen hjs⟩
   have hu:cur[j]?=some (.int .i64 v[j]):=hu
   rw[hrow.cell,hu]
   simp[hj']
  refine Calls.mono (Any.slices_Sort_int Go.Proofs.YtaeepiblggcjpaaGreatDoor.Tryz.laysSort b 0 cap v w hH hbl hlen) ?_
  rintro e w' ⟨rfl,n,os,rfl⟩
  obtain⟨fz,hheap,hice⟩:=hrow
  have hnew:=heap_sortedI (w:=w) (n:=n) (os:=os) (v.mergeSort fun x y=>decide (x<=y)).toArray hheap
  have hgr:=grownBy_sortedI (w:=w) (g:=b) (n:=n) (os:=os) (v.mergeSort fun x y=>decide (x<=y)).toArray
  obtain⟨g1,g2,g3,g4,g5⟩:=hgr
  have hml:(v.mergeSort fun x y=>decide (x<=y)).length=v.length:=List.length_mergeSort ..
  have hcs:(putCells (Value.int .i64) 0 (v.mergeSort fun x y=>decide (x<=y)).toArray cur).size=cur.size:=by simp[putCells]
  have hcz:cur.size=cap:=by rw[hsz];show cap*1=cap;omega
  refine⟨.tuple #[],[b],[],rfl,rfl,by simp,fun x hx=> ?_,⟨[],[b],rfl,⟨#[],rfl,rfl⟩,[b],[],rfl,.inr ⟨b,cap,_,?_,rfl,by rw[hml];exact hlt,⟨fz,hnew,by rw[hcs];exact hice⟩,by rw[hml];exact hcap,hmax,by rw[hcs];exact hsz,?_⟩,rfl⟩,fun j p cs L hj=>by simp at hj,⟨g1,g2,g3,g4,fun x hx hn=>g5 x hx fun e=>hn (by cases e;simp),fun j b off n hj=>by simp at hj⟩⟩
  ·have hx:x=b:=by simpa using hx
   subst hx
   exact⟨.inl (by simp),Nat.lt_of_lt_of_le hbl g4⟩
  ·rw[hml]
  ·intro i x hx j lf hlf
   have hi:i<v.length:=by have:=(qS1.1 hx).1;rwa[hml]at this
   have hj:j=0:=by
    have:=(qS1.1 hlf).1
    rw[leaves_len]at this
    have e:size K.int=1:=rfl
    omega
   subst hj
   have hlf:lf= .sc (.int .i64 x):=by
    have:(leaves (k:= .int) x)[0]?=some (.sc (.int .i64 x)):=rfl
    rw[this]at hlf;exact(Option.some.inj hlf).symm
   subst hlf
   have htk:=take_putCellsI cur (v.mergeSort fun x y=>decide (x<=y)) (by rw[hml,hcz];exact hcap)
   have e1:i*size .int+0=i:=by show i*1+0=i;omega
   refine⟨.int .i64 x,?_,rfl,?_⟩
   ·show(putCells (Value.int .i64) 0 (v.mergeSort fun x y=>decide (x<=y)).toArray cur)[i*size K.int+0]?=_
    rw[e1,<-Array.getElem?_toList]
    have h3:((putCells (Value.int .i64) 0 (v.mergeSort fun x y=>decide (x<=y)).toArray cur).toList.take (v.mergeSort fun x y=>decide (x<=y)).length)[i]?=some (.int .i64 x):=by
     rw[htk,List.getElem?_map,hx];rfl
    rw[List.getElem?_take_of_lt (by rw[hml];exact hi)]at h3
    exact h3
   ·have hxm:x∈v:=List.mem_mergeSort.1 (qM1 hx)
    obtain⟨m,hm⟩:=List.getElem?_of_mem hxm
    obtain⟨u,_,hl⟩:=hcont m x hm 0 (.sc (.int .i64 x)) rfl
    exact hl.2
theorem c196 (hcl:Cl G E) (fuel:Nat):Ctr Tryz.prog G E (o196 fuel):=fun v r hr=>sort_calls v r hr
def pG_strings_IndexByte (s:ByteArray) (c:Int):Option Int:=gd (s.size<=9223372036854775807) (some (Lib.indexByte s.data.toList (UInt8.ofNat c.toNat)))
def o276 (fuel:Nat):Orc:=⟨276,[none,none],[.S,.I .u8],0,.one (.I .i64),fun v=>pG_strings_IndexByte v.1 v.2⟩
theorem indexByte_le (c:UInt8):∀l:List UInt8,-1<=Lib.indexByte l c/\Lib.indexByte l c<=l.length
 | []=>by unfold Lib.indexByte;simp
 | b::l=>by
  have:=indexByte_le c l
  unfold Lib.indexByte
  split
  ·simp;omega
  ·split
   ·simp;omega
   ·simp;omega
theorem indexByte_calls (s:ByteArray) (c r:Int) (hr:pG_strings_IndexByte s c=some r):PCalls Tryz.prog G E 276 [.v (.string s),.v (.int .u8 c)] [] (.v (.int .i64 r)) []:=by
 unfold pG_strings_IndexByte at hr
 obtain⟨h2,hr⟩:=gd_some hr
 cases hr
 have hl:s.data.toList.length=s.size:=Array.length_toList
 have hb:=indexByte_le (UInt8.ofNat c.toNat) s.data.toList
 refine PCalls.libV (vs:=[.string s,.int .u8 c]) (fn:=Tryz.f276) (by kernel_rfl) (by kernel_rfl) rfl ((wrap_iff .i64 _).2 (by simp[loK,hiK];omega)) fun w hE=> ?_
 refine Calls.mono (Any.strings_IndexByte Go.Proofs.YtaeepiblggcjpaaGreatDoor.Tryz.laysIndexByte s c w) ?_
 rintro e w' ⟨rfl,rfl⟩
 exact⟨rfl,Below.refl _ _⟩
theorem c276 (hcl:Cl G E) (fuel:Nat):Ctr Tryz.prog G E (o276 fuel):=fun v r hr=>indexByte_calls v.1 v.2 r hr
def pG_strings_Compare (a b:ByteArray):Option Int:=some (Lib.compareBytes a.data.toList b.data.toList)
def o283 (fuel:Nat):Orc:=⟨283,[none,none],[.S,.S],0,.one (.I .i64),fun v=>pG_strings_Compare v.1 v.2⟩
theorem compareB_le:∀a b:List UInt8,-1<=Lib.compareBytes a b/\Lib.compareBytes a b<=1
 | [],[]=>by unfold Lib.compareBytes;omega
 | [],_::_=>by unfold Lib.compareBytes;omega
 | _::_,[]=>by unfold Lib.compareBytes;omega
 | a::l,b::m=>by
  have:=compareB_le l m
  unfold Lib.compareBytes
  split
  ·omega
  ·split<;>omega
theorem compare_calls (a b:ByteArray) (r:Int) (hr:pG_strings_Compare a b=some r):PCalls Tryz.prog G E 283 [.v (.string a),.v (.string b)] [] (.v (.int .i64 r)) []:=by
 unfold pG_strings_Compare at hr
 cases hr
 have hb:=compareB_le a.data.toList b.data.toList
 refine PCalls.libV (vs:=[.string a,.string b]) (fn:=Tryz.f283) (by kernel_rfl) (by kernel_rfl) rfl ((wrap_iff .i64 _).2 (by simp[loK,hiK];omega)) fun w hE=> ?_
 refine Calls.mono (Any.strings_Compare Go.Proofs.YtaeepiblggcjpaaGreatDoor.Tryz.laysCompare a b w) ?_
 rintro e w' ⟨rfl,rfl⟩
 exact⟨rfl,Below.refl _ _⟩
theorem c283 (hcl:Cl G E) (fuel:Nat):Ctr Tryz.prog G E (o283 fuel):=fun v r hr=>compare_calls v.1 v.2 r hr
def pG_strconv_Itoa (n:Int):Option ByteArray:=gd (0<=n/\n<=4294967295) (some ⟨(Lib.decDigits n.toNat).toArray⟩)
def o253 (fuel:Nat):Orc:=⟨253,[none],[.I .i64],0,.one .S,fun v=>pG_strconv_Itoa v⟩
theorem dec_small {u:Nat} (h:u<10):Lib.decDigits u=[UInt8.ofNat (48+u)]:=by rw[Lib.decDigits,dif_pos h]
theorem dec_big {u:Nat} (h:¬u<10):Lib.decDigits u=Lib.decDigits (u / 10)++ [UInt8.ofNat (48+u % 10)]:=by rw[Lib.decDigits,dif_neg h]
theorem dec_len:∀(k u:Nat),u<10 ^ (k+1)->(Lib.decDigits u).length<=k+1
 | 0,u,h=>by rw[dec_small (by omega)];simp
 | k+1,u,h=>by
  by_cases h1:u<10
  ·rw[dec_small h1];simp
  ·rw[dec_big h1]
   have:=dec_len k (u / 10) (by rw[Nat.pow_succ]at h;omega)
   simp;omega
theorem itoa_calls (hcl:Cl G E) (v:Int) (r:ByteArray) (hr:pG_strconv_Itoa v=some r):PCalls Tryz.prog G E 253 [.v (.int .i64 v)] [] (.v (.string r)) []:=by
 unfold pG_strconv_Itoa at hr
 obtain⟨⟨h0,h1⟩,hr⟩:=gd_some hr
 cases hr
 have hs:(Lib.decDigits v.toNat).length<=10:=dec_len 9 _ (by omega)
 refine PCalls.libV (vs:=[.int .i64 v]) (x:= .string ⟨(Lib.decDigits v.toNat).toArray⟩) (fn:=Tryz.f253) (by kernel_rfl) (by kernel_rfl) rfl (by show(Lib.decDigits v.toNat).toArray.size<=_;simp;omega) fun w hE=> ?_
 refine Calls.mono (Any.strconv_Itoa Go.Proofs.YtaeepiblggcjpaaGreatDoor.Tryz.laysItoa v (by omega) (by omega) w (hcl.tab w hE)) ?_
 rintro e w' ⟨rfl,k,os,rfl⟩
 refine⟨by simp[Lib.itoa,show¬v<0 from by omega],⟨rfl,rfl,rfl,by simp,fun b hb=>Sort.heap_grow_old (w.drewN k) os hb⟩⟩
theorem c253 (hcl:Cl G E) (fuel:Nat):Ctr Tryz.prog G E (o253 fuel):=fun v r hr=>itoa_calls hcl v r hr
end
open Go.Lib
theorem copyN {P:Program} (w:World) (dT sT ty elem:TypeId) (z b o dLen dCap:Nat) (a:Addr) (sLen sCap:Nat) (cs:List Value)
  (hu:P.underlying dT=some (.slice elem)) (hs:(P.info? elem).map (·.size)=some z) (hn:cs.length=Nat.min sLen dLen*z)
  (hsrc:∀j v,cs[j]?=some v->w.cell? (a.add j)=some v) (hc:∀j,j<cs.length->(w.cell? ⟨b,o+j,none⟩).isSome=true) (hf:∀j,j<cs.length->w.frozen? ⟨b,o+j,none⟩ = false) (h1:∀v∈cs,v.oneCell'=true) :
  (Builtin.copy_ #[dT,sT] ty #[.slice (some ⟨b,o,none⟩) dLen dCap,.slice (some a) sLen sCap]).run P w= .ok (goInt (Nat.min sLen dLen)) (w.setCells b o cs):=by
 have hl:=run_loadCells_list (P:=P) w a cs hsrc
 have hst:=run_storeCells_cells (P:=P) b o cs 0 w (by simpa using hc) (by simpa using hf) h1
 cases hq:P.info? elem with
 | none=>simp[hq]at hs
 | some i=>
  have hi:i.size=z:=by simpa [hq]using hs
  simp[Builtin.copy_,run_underlying hu,Builtin.lenOf,Builtin.firstCells,sizeOf,typeInfo,hq,hi,<-hn,hl,hst]
open Go.RowKit Go.Proofs Go.Lib
theorem mixI:Tryz.prog.follows .mixedOrders=true:=by kernel_rfl
theorem ins_info:(Tryz.prog.info? 139).map (·.size)=some 2:=by kernel_rfl
theorem ins_size:∀w,(Go.sizeOf 139).run Tryz.prog w= .ok 2 w:=fun w=>by
 have h:=ins_info
 cases hq:Tryz.prog.info? 139 with
 | none=>rw[hq]at h;cases h
 | some i=>
  rw[hq]at h
  have hi:i.size=2:=by simpa using h
  simp[Go.sizeOf,typeInfo,hq,hi]
set_option maxHeartbeats 4000000 in
set_option maxRecDepth 100000 in
theorem ins_shift (b n c i vb m vc:Nat) (cs vs:List Value) (w:World) (hi:i<n) (hm:0<m) (hroom:n+m<=c) (hc63:c<=9223372036854775807) (hvb:vb≠b)
  (hcl:cs.length=n*2) (hvl:vs.length=m*2)
  (hcs:∀j v,cs[j]?=some v->w.cell? ⟨b,j,none⟩ = some v) (hsp:∀j,j<(n+m)*2->(w.cell? ⟨b,j,none⟩).isSome=true) (hfz:∀j,j<(n+m)*2->w.frozen? ⟨b,j,none⟩ = false)
  (hvs:∀j v,vs[j]?=some v->w.cell? ⟨vb,j,none⟩ = some v) (h1c:∀v∈cs,v.oneCell'=true) (h1v:∀v∈vs,v.oneCell'=true)
  (tA tB:TypeId) (kA kB:Nat) (hsa:w.shape? vb=some (tA,kA)) (hsb:w.shape? b=some (tB,kB)) (hkB:kB≠0) (hfa:w.frozen? ⟨vb,0,none⟩ = false) (hfe:w.frozen? ⟨vb,kA,none⟩ = false) :
  Calls Tryz.prog 284 #[.slice (some ⟨b,0,none⟩) n c,.int .i64 i,.slice (some ⟨vb,0,none⟩) m vc] w fun e w'=>
   e= .returned (.slice (some ⟨b,0,none⟩) (n+m) c)/\w'=(w.drew.setCells b ((i+m)*2) (cs.drop (i*2))).setCells b (i*2) vs:=by
 have u0:=run_underlying Tryz.underlying3;have u24:=run_underlying Tryz.underlying49
 have hz1:¬((m:Int)=0):=by omega
 have hz2:¬((i:Int)=(n:Int)):=by omega
 have hsz:=ins_info
 have hz:=ins_size
 have hov:∀lb cb,(callFunc 326 #[.slice (some ⟨vb,0,none⟩) m vc,.slice (some ⟨b,(i+m)*2,none⟩) lb cb]).run Tryz.prog w= .ok (.value (.bool false)) w:=fun lb cb=>by
  rw[run_callFunc_extern Tryz.func326 (by kernel_rfl) (by kernel_rfl) (by kernel_rfl) (e:=Extern.SlicesOverlaps.overlaps #[49,49] #[4]) (by kernel_rfl),
   Lib.run_overlaps_apart w 49 4 139 Tryz.underlying49 2 ins_size ⟨vb,0,none⟩ ⟨b,(i+m)*2,none⟩ m vc lb cb hvb tA tB kA kB hsa hsb hkB hfa hfe]
  rfl
 have hdl:(cs.drop (i*2)).length=(n-i)*2:=by rw[List.length_drop,hcl];omega
 have hw1:IntKind.i64.wrap ((i:Int)+(m:Int))=(i:Int)+(m:Int):=by rw[IntKind.wrap_i64];omega
 have hb1:(0:Int)<=(i:Int)+(m:Int):=by omega
 have hin:i<=n:=by omega
 have htn:((i:Int)+(m:Int)).toNat=i+m:=by omega
 have hb2:¬(c=i+m):=by omega
 have hb3:(i:Int)<=(n:Int)+(m:Int):=by omega
 have hb4:¬(c=i):=by omega
 have hcp1:∀ty dc sc,(Builtin.copy_ #[49,49] ty #[.slice (some ⟨b,(i+m)*2,none⟩) (n+m-(i+m)) dc,.slice (some ⟨b,i*2,none⟩) (n+m-i) sc]).run Tryz.prog w.drew= .ok (goInt ((n-i:Nat))) (w.drew.setCells b ((i+m)*2) (cs.drop (i*2))):=fun ty dc sc=>by
  have hmn:Nat.min (n+m-i) (n+m-(i+m))=n-i:=by simp only[Nat.min_def];split<;>omega
  have:=copyN (P:=Tryz.prog) w.drew 49 49 ty 139 2 b ((i+m)*2) (n+m-(i+m)) dc ⟨b,i*2,none⟩ (n+m-i) sc (cs.drop (i*2)) Tryz.underlying49 hsz (by rw[hdl,hmn])
   (fun j v hj=>by rw[Addr.add_lit];exact hcs (i*2+j) v (by rwa[List.getElem?_drop]at hj))
   (fun j hj=>hsp _ (by omega)) (fun j hj=>hfz _ (by omega)) (fun v hv=>h1c v (List.mem_of_mem_drop hv))
  rw[hmn]at this
  exact this
 obtain⟨W1,hW1⟩:∃W1,W1=w.drew.setCells b ((i+m)*2) (cs.drop (i*2)):=⟨_,rfl⟩
 have hsp1:∀k,k<(n+m)*2->(W1.cell? ⟨b,k,none⟩).isSome=true:=fun k hk=>by
  rw[hW1]
  exact isSome_setCells b (cs.drop (i*2)) ((i+m)*2) w.drew (fun j hj=>hsp _ (by rw[hdl]at hj;omega)) _ (hsp k hk)
 have hcp2:∀(W:World),(∀x,W.cell? x=W1.cell? x)->(∀x,W.frozen? x=W1.frozen? x)->∀ty dc,(Builtin.copy_ #[49,49] ty #[.slice (some ⟨b,i*2,none⟩) (n+m-i) dc,.slice (some ⟨vb,0,none⟩) m vc]).run Tryz.prog W= .ok (goInt m) (W.setCells b (i*2) vs):=fun W hWc hWf ty dc=>by
  have hmn:Nat.min m (n+m-i)=m:=by simp only[Nat.min_def];split<;>omega
  have:=copyN (P:=Tryz.prog) W 49 49 ty 139 2 b (i*2) (n+m-i) dc ⟨vb,0,none⟩ m vc vs Tryz.underlying49 hsz (by rw[hvl,hmn])
   (fun j v hj=>by
    rw[Addr.add_lit,hWc,hW1,World.cell?_setCells_out b _ _ _ _ (fun h _=>absurd h hvb),Nat.zero_add]
    exact hvs j v hj)
   (fun j hj=>by rw[hWc];exact hsp1 _ (by omega)) (fun j hj=>by rw[hWf,hW1,World.frozen?_setCells];exact hfz _ (by omega)) h1v
  rw[hmn]at this
  exact this
 rw[<-hW1]at hcp1
 have mixed:=mixI
 go_enter Tryz.func284,Tryz.ntmps284
 go_wp2_with (simp only[hov])
 go_region_law_o (refine step_copy_runI rfl _ _ 49 49 rfl _ _ (by simp[Act.eval,Act.put]) (by simp[Act.eval,Act.put]) (hcp1 _ _ _) ?_)
 go_wp2_with (at_builtin;refine wpList_copy_runI _ rfl _ _ 49 49 rfl _ _ rfl rfl (hcp2 _ (fun _=>rfl) (fun _=>rfl) _ _) ?_)
 go_ret
 first|exact⟨rfl,rfl⟩ | exact⟨rfl,by rw[hW1]⟩
open Go.RowKit Go.Proofs Go.Lib Go.Shelf
def zLink:Value:= .agg #[.string ⟨#[]⟩,.int .i64 0]
theorem ins_info3:(Tryz.prog.info? 139).map (fun i=>(i.zero,i.size,i.bytes))=some (some zLink,2,24):=by kernel_rfl
set_option maxHeartbeats 4000000 in
set_option maxRecDepth 100000 in
theorem ins_grow (b n c i vb m vc:Nat) (cs vs:List Value) (w:World) (hi:i<n) (hm:0<m) (hnc:n<=c) (hroom:c<n+m) (hbig:(n+m)*24<=140737488355328)
  (hcl:cs.length=n*2) (hvl:vs.length=m*2)
  (hcs:∀j v,cs[j]?=some v->w.cell? ⟨b,j,none⟩ = some v)
  (hvs:∀j v,vs[j]?=some v->w.cell? ⟨vb,j,none⟩ = some v) (h1c:∀v∈cs,v.oneCell'=true) (h1v:∀v∈vs,v.oneCell'=true) :
  Calls Tryz.prog 284 #[.slice (some ⟨b,0,none⟩) n c,.int .i64 i,.slice (some ⟨vb,0,none⟩) m vc] w fun e w'=>
   e= .returned (.slice (some ⟨w.heap.size,0,none⟩) (n+m) (grownCap w (n+m) c 139))/\
   w'=(((w.alloc (.cells ((cs.take (i*2)).toArray++Builtin.zeroCells zLink.cells (n+m-i)++Builtin.zeroCells zLink.cells (grownCap w (n+m) c 139-(n+m))) 139)).drew.setCells w.heap.size (i*2) vs).drew).setCells w.heap.size ((i+m)*2) (cs.drop (i*2)):=by
 have u0:=run_underlying Tryz.underlying3;have u24:=run_underlying Tryz.underlying49
 have mixed:=mixI
 obtain⟨i0,hi0,hz0,hzs,hzb⟩:=info_parts ins_info3
 have hz1:¬((m:Int)=0):=by omega
 have hz2:¬((i:Int)=(n:Int)):=by omega
 have hz3:(c:Int)<(n:Int)+(m:Int):=by omega
 have hsz:=ins_info
 have hz:=ins_size
 have hbw:b<w.heap.size:=block_lt_of_cell (hcs 0 _ (qE1 (by omega)))
 have hvw:vb<w.heap.size:=block_lt_of_cell (hvs 0 _ (qE1 (by omega)))
 have hkk:(n:Int)+(m:Int)-(i:Int)=((n+m-i:Nat):Int):=by omega
 have hik:i+(n+m-i)=n+m:=by omega
 have hold:(Builtin.firstCells i0.size i (.slice (some ⟨b,0,none⟩) i c)).run Tryz.prog w.drew= .ok (cs.take (i*2)).toArray w.drew:=by
  rw[hzs]
  exact run_firstCells_some w.drew 2 i ⟨b,0,none⟩ i c (cs.take (i*2)) (by rw[List.length_take];omega) (fun j v hj=>by
   rw[Addr.add_lit,Nat.zero_add]
   rw[List.getElem?_take]at hj
   split at hj
   ·exact hcs j v hj
   ·cases hj)
 have hrz:∀ty,(Builtin.append_ #[49,3] ty #[.slice (some ⟨b,0,none⟩) i c,.int .i64 ((n:Int)+(m:Int)-(i:Int))]).run Tryz.prog w =
   .ok (.slice (some ⟨w.heap.size,0,none⟩) (n+m) (grownCap w (n+m) c 139)) (w.drew.alloc (.cells ((cs.take (i*2)).toArray++Builtin.zeroCells zLink.cells (n+m-i)++Builtin.zeroCells zLink.cells (grownCap w (n+m) c 139-(n+m))) 139)):=fun ty=>by
  have h:=Lib.run_append_grow_zeros w 49 3 ty 139 i0 _ .i64 .i64 Tryz.underlying49 Tryz.underlying3 hi0 hz0 (some ⟨b,0,none⟩) i c (cs.take (i*2)) hold (n+m-i) (by omega) (by omega) (by omega) (by omega) (by rw[hzb];omega) (by rw[hzb,hik];exact growslice_fits hroom hbig)
  rw[hik]at h
  rw[hkk]
  exact h
 obtain⟨G,hG⟩:∃G,G=grownCap w (n+m) c 139:=⟨_,rfl⟩
 obtain⟨ROW,hROW⟩:∃ROW:Array Value,ROW=(cs.take (i*2)).toArray++Builtin.zeroCells zLink.cells (n+m-i)++Builtin.zeroCells zLink.cells (G-(n+m)):=⟨_,rfl⟩
 rw[<-hG]at hrz⊢
 rw[<-hROW]at hrz⊢
 have hRl:(n+m)*2<=ROW.size:=by
  rw[hROW]
  simp[Builtin.zeroCells,Value.cells,zLink]
  omega
 obtain⟨W1,hW1⟩:∃W1,W1=w.drew.alloc (.cells ROW 139):=⟨_,rfl⟩
 rw[<-hW1]at hrz
 have hN:∀j,j<(n+m)*2->(W1.cell? ⟨w.heap.size,j,none⟩).isSome=true:=fun j hj=>by
  rw[hW1,World.cell?_alloc_at (w:=w.drew) ROW _ w.heap.size j rfl,Array.getElem?_eq_getElem (by omega)];rfl
 have hNf:∀j,W1.frozen? ⟨w.heap.size,j,none⟩ = false:=fun j=>by rw[hW1];exact World.frozen?_alloc_at (w:=w.drew) ROW _ w.heap.size j rfl
 have hOb:∀j v,w.cell? ⟨b,j,none⟩ = some v->W1.cell? ⟨b,j,none⟩ = some v:=fun j v h=>by rw[hW1,World.cell?_alloc_past (w:=w.drew) _ b j hbw];exact h
 have hOv:∀j v,w.cell? ⟨vb,j,none⟩ = some v->W1.cell? ⟨vb,j,none⟩ = some v:=fun j v h=>by rw[hW1,World.cell?_alloc_past (w:=w.drew) _ vb j hvw];exact h
 have hcpA:∀(W:World),(∀x,W.cell? x=W1.cell? x)->(∀x,W.frozen? x=W1.frozen? x)->∀ty dc,(Builtin.copy_ #[49,49] ty #[.slice (some ⟨w.heap.size,i*2,none⟩) (n+m-i) dc,.slice (some ⟨vb,0,none⟩) m vc]).run Tryz.prog W= .ok (goInt m) (W.setCells w.heap.size (i*2) vs):=fun W hWc hWf ty dc=>by
  have hmn:Nat.min m (n+m-i)=m:=by simp only[Nat.min_def];split<;>omega
  have:=copyN (P:=Tryz.prog) W 49 49 ty 139 2 w.heap.size (i*2) (n+m-i) dc ⟨vb,0,none⟩ m vc vs Tryz.underlying49 hsz (by rw[hvl,hmn])
   (fun j v hj=>by rw[Addr.add_lit,hWc,Nat.zero_add];exact hOv _ v (hvs j v hj))
   (fun j hj=>by rw[hWc];exact hN _ (by omega)) (fun j hj=>by rw[hWf];exact hNf _) h1v
  rw[hmn]at this
  exact this
 have hGn:n+m<=G:=by rw[hG];exact grownCap_ge w _ _ _
 have hG63:G<=9223372036854775807:=by
  have:=grownCap_le_maxLen w (n+m) c 139 (by unfold maxLen;omega)
  rw[<-hG]at this
  unfold maxLen at this
  omega
 have hGi:¬(G=i):=by omega
 have hGim:¬(G=i+m):=by omega
 have hci:¬(c=i):=by omega
 have hbN:b≠w.heap.size:=by omega
 have hdl:(cs.drop (i*2)).length=(n-i)*2:=by rw[List.length_drop,hcl];omega
 have hcpB:∀(W:World),(∀x,W.cell? x=(W1.setCells w.heap.size (i*2) vs).cell? x)->(∀x,W.frozen? x=(W1.setCells w.heap.size (i*2) vs).frozen? x)->∀ty dc sc,(Builtin.copy_ #[49,49] ty #[.slice (some ⟨w.heap.size,(i+m)*2,none⟩) (n+m-(i+m)) dc,.slice (some ⟨b,i*2,none⟩) (n-i) sc]).run Tryz.prog W= .ok (goInt ((n-i:Nat))) (W.setCells w.heap.size ((i+m)*2) (cs.drop (i*2))):=fun W hWc hWf ty dc sc=>by
  have hmn:Nat.min (n-i) (n+m-(i+m))=n-i:=by simp only[Nat.min_def];split<;>omega
  have:=copyN (P:=Tryz.prog) W 49 49 ty 139 2 w.heap.size ((i+m)*2) (n+m-(i+m)) dc ⟨b,i*2,none⟩ (n-i) sc (cs.drop (i*2)) Tryz.underlying49 hsz (by rw[hdl,hmn])
   (fun j v hj=>by
    rw[Addr.add_lit,hWc,World.cell?_setCells_out _ _ _ _ _ (fun h _=>absurd h hbN)]
    exact hOb _ v (hcs (i*2+j) v (by rwa[List.getElem?_drop]at hj)))
   (fun j hj=>by rw[hWc];exact isSome_setCells _ vs (i*2) W1 (fun t ht=>hN _ (by omega)) _ (hN _ (by omega)))
   (fun j hj=>by rw[hWf,World.frozen?_setCells];exact hNf _) (fun v hv=>h1c v (List.mem_of_mem_drop hv))
  rw[hmn]at this
  exact this
 subst hW1
 have hE1:∀x,((w.alloc (.cells ROW 139)).drew).cell? x=(w.drew.alloc (.cells ROW 139)).cell? x:=fun x=>rfl
 have hE2:∀x,((w.alloc (.cells ROW 139)).drew).frozen? x=(w.drew.alloc (.cells ROW 139)).frozen? x:=fun x=>rfl
 have hF1:∀x,(((w.alloc (.cells ROW 139)).drew.setCells w.heap.size (i*2) vs).drew).cell? x=((w.drew.alloc (.cells ROW 139)).setCells w.heap.size (i*2) vs).cell? x:=fun x=>rfl
 have hF2:∀x,(((w.alloc (.cells ROW 139)).drew.setCells w.heap.size (i*2) vs).drew).frozen? x=((w.drew.alloc (.cells ROW 139)).setCells w.heap.size (i*2) vs).frozen? x:=fun x=>rfl
 have hw1:IntKind.i64.wrap ((i:Int)+(m:Int))=(i:Int)+(m:Int):=by rw[IntKind.wrap_i64];omega
 have hb1:(0:Int)<=(i:Int)+(m:Int):=by omega
 have hin:i<=n:=by omega
 have htn:((i:Int)+(m:Int)).toNat=i+m:=by omega
 have hb3:(i:Int)<=(n:Int):=by omega
 clear hkk hik hold hROW hG hRl
 go_enter Tryz.func284,Tryz.ntmps284
 go_wp2_with (first
  | (at_builtin;refine Lib.wpList_append_run _ rfl _ _ _ _ rfl _ _ rfl rfl _ _ (hrz _) ?_)
  | (at_builtin;refine wpList_copy_runI _ rfl _ _ 49 49 rfl _ _ rfl rfl (hcpA _ hE1 hE2 _ _) ?_)
  | (at_builtin;refine wpList_copy_runI _ rfl _ _ 49 49 rfl _ _ rfl rfl (hcpB _ (fun _=>rfl) (fun _=>rfl) _ _ _) ?_))
 go_region_law_o (refine step_copy_runI rfl _ _ 49 49 rfl (.slice (some ⟨w.heap.size,(i+m)*2,none⟩) (n+m-(i+m)) (G-(i+m))) (.slice (some ⟨b,i*2,none⟩) (n-i) (c-i)) (by simp[Act.eval,Act.put]) (by simp[Act.eval,Act.put]) (hcpB _ hF1 hF2 3 (G-(i+m)) (c-i)) ?_)
 go_wp2
 go_ret
 exact⟨rfl,rfl⟩
open Go.RowKit Go.Proofs Go.Lib Go.Shelf
set_option maxHeartbeats 4000000 in
set_option maxRecDepth 100000 in
theorem ins_end_room (b n c vb m vc:Nat) (vs:List Value) (w:World) (hm:0<m) (hroom:n+m<=c) (hc63:c<=9223372036854775807)
  (hvl:vs.length=m*2) (hsp:∀j,j<m*2->(w.cell? ⟨b,n*2+j,none⟩).isSome=true) (hfz:∀j,j<m*2->w.frozen? ⟨b,n*2+j,none⟩ = false)
  (hvs:∀j v,vs[j]?=some v->w.cell? ⟨vb,j,none⟩ = some v) (h1v:∀v∈vs,v.oneCell'=true) :
  Calls Tryz.prog 284 #[.slice (some ⟨b,0,none⟩) n c,.int .i64 n,.slice (some ⟨vb,0,none⟩) m vc] w fun e w'=>
   e= .returned (.slice (some ⟨b,0,none⟩) (n+m) c)/\w'=w.setCells b (n*2) vs:=by
 have u0:=run_underlying Tryz.underlying3;have u24:=run_underlying Tryz.underlying49
 have mixed:=mixI
 obtain⟨i0,hi0,hz0,hzs,hzb⟩:=info_parts ins_info3
 have hz1:¬((m:Int)=0):=by omega
 have hsrc:Src Tryz.prog i0.size 49 (.slice (some ⟨vb,0,none⟩) m vc) m vs w:=by
  rw[hzs]
  exact Src.ofSlice w Tryz.underlying49 ⟨vb,0,none⟩ m vc vs (by omega) (fun j u hj=>by rw[Addr.add_lit,Nat.zero_add];exact hvs j u hj) h1v
 have hgoal:0+n*i0.size=n*2:=by rw[hzs];omega
 go_enter Tryz.func284,Tryz.ntmps284
 go_wp2_with (at_builtin;refine wpList_append_room_src _ rfl _ _ 49 49 rfl 139 i0 Tryz.underlying49 hi0 b 0 n c rfl _ rfl m vs hsrc hroom (by rw[hvl,hgoal];exact hsp) (by rw[hvl,hgoal];exact hfz) ?_)
 go_ret
 first|exact⟨rfl,rfl⟩ | exact⟨rfl,by rw[hgoal]⟩
set_option maxHeartbeats 4000000 in
set_option maxRecDepth 100000 in
theorem ins_end_grow (base:Option Addr) (n c vb m vc:Nat) (cs vs:List Value) (w:World) (hm:0<m) (hnc:n<=c) (hroom:c<n+m) (hbig:(n+m)*24<=140737488355328)
  (hcl:cs.length=n*2) (hvl:vs.length=m*2) (hnil:base=none->n=0)
  (hcs:∀a,base=some a->∀j v,cs[j]?=some v->w.cell? (a.add j)=some v)
  (hvs:∀j v,vs[j]?=some v->w.cell? ⟨vb,j,none⟩ = some v) (h1v:∀v∈vs,v.oneCell'=true) :
  Calls Tryz.prog 284 #[.slice base n c,.int .i64 n,.slice (some ⟨vb,0,none⟩) m vc] w fun e w'=>
   e= .returned (.slice (some ⟨w.heap.size,0,none⟩) (n+m) (grownCap w (n+m) c 139))/\
   w'=w.drew.alloc (.cells ((cs++vs).toArray++Builtin.zeroCells zLink.cells (grownCap w (n+m) c 139-(n+m))) 139):=by
 have u0:=run_underlying Tryz.underlying3;have u24:=run_underlying Tryz.underlying49
 have mixed:=mixI
 obtain⟨i0,hi0,hz0,hzs,hzb⟩:=info_parts ins_info3
 have hz1:¬((m:Int)=0):=by omega
 have hsrc:Src Tryz.prog i0.size 49 (.slice (some ⟨vb,0,none⟩) m vc) m vs w:=by
  rw[hzs]
  exact Src.ofSlice w Tryz.underlying49 ⟨vb,0,none⟩ m vc vs (by omega) (fun j u hj=>by rw[Addr.add_lit,Nat.zero_add];exact hvs j u hj) h1v
 have hold:(Builtin.firstCells i0.size n (.slice base n c)).run Tryz.prog w.drew= .ok cs.toArray w.drew:=by
  rw[hzs]
  cases base with
  | none=>
   have h0:=hnil rfl
   subst h0
   rw[List.length_eq_zero_iff.1 (show cs.length=0 by omega)]
   exact run_firstCells_none w.drew 2 0 0 c
  | some a=>exact run_firstCells_some w.drew 2 n a n c cs (by omega) (fun j v hj=>hcs a rfl j v hj)
 have hrun:∀ty,(Builtin.append_ #[49,49] ty #[.slice base n c,.slice (some ⟨vb,0,none⟩) m vc]).run Tryz.prog w=_:=fun ty=>
  run_append_grow_src w 49 49 ty 139 i0 _ Tryz.underlying49 hi0 hz0 base n c cs hold _ m vs hsrc hroom (by omega) (by rw[hzb];exact growslice_fits hroom hbig)
 go_enter Tryz.func284,Tryz.ntmps284
 cases base with
 | none=>
  have h0:=hnil rfl
  subst h0
  go_wp2_with (at_builtin;refine Lib.wpList_append_run _ rfl _ _ _ _ rfl _ _ rfl rfl _ _ (hrun _) ?_)
  go_ret
  exact⟨rfl,rfl⟩
 | some a=>
  obtain⟨ab,ao,asp⟩:=a
  go_wp2_with (at_builtin;refine Lib.wpList_append_run _ rfl _ _ _ _ rfl _ _ rfl rfl _ _ (hrun _) ?_)
  all_goals (go_ret;exact⟨rfl,rfl⟩)
open Go.RowKit
theorem heap_setCell (g o:Nat) (v:Value) {cur:Array Value} {E:TypeId} {fz:Nat×Nat} (h:w.heap[g]?=some (.cells cur E fz)):(w.setCell ⟨g,o,none⟩ v).heap[g]?=some (.cells (cur.setIfInBounds o v) E fz):=by
 unfold World.setCell
 show(w.heap.modify g _)[g]?=_
 rw[Array.getElem?_modify,if_pos rfl,h]
 rfl
theorem heap_setCells (g:Nat):∀(vs:List Value) (o:Nat) {w:World} {cur:Array Value} {E:TypeId} {fz:Nat×Nat},w.heap[g]?=some (.cells cur E fz)->o+vs.length<=cur.size->
  ∃cur',(w.setCells g o vs).heap[g]?=some (.cells cur' E fz)/\cur'.size=cur.size/\(∀j,j<vs.length->cur'[o+j]?=vs[j]?)/\∀j,j<o∨o+vs.length<=j->cur'[j]?=cur[j]?
 | [],o,w,cur,E,fz,h,_=>⟨cur,h,rfl,fun j hj=>by simp at hj,fun _ _=>rfl⟩
 | v::vs,o,w,cur,E,fz,h,hl=>by
  have hl:o+(vs.length+1)<=cur.size:=hl
  obtain⟨cur',h1,h2,h3,h4⟩:=heap_setCells g vs (o+1) (heap_setCell g o v h) (by rw[Array.size_setIfInBounds];omega)
  rw[Array.size_setIfInBounds]at h2
  refine⟨cur',h1,h2,fun j hj=> ?_,fun j hj=> ?_⟩
  ·cases j with
   | zero=>
    rw[Nat.add_zero,h4 o (by omega),Array.getElem?_setIfInBounds,if_pos rfl,if_pos (by omega)]
    rfl
   | succ j=>
    have:=h3 j (by simpa using hj)
    rw[show o+1+j=o+(j+1) by omega]at this
    rw[this]
    rfl
  ·have hj:j<o∨o+(vs.length+1)<=j:=hj
   rw[h4 j (by omega),Array.getElem?_setIfInBounds,if_neg (by omega)]
theorem setCells_os (g:Nat):∀(vs:List Value) (o:Nat) (w:World),(w.setCells g o vs).os=w.os/\(w.setCells g o vs).tape=w.tape/\(w.setCells g o vs).output=w.output/\(w.setCells g o vs).heap.size=w.heap.size/\∀b,b≠g->(w.setCells g o vs).heap[b]?=w.heap[b]?
 | [],_,_=>⟨rfl,rfl,rfl,rfl,fun _ _=>rfl⟩
 | v::vs,o,w=>by
  obtain⟨h1,h2,h3,h4,h5⟩:=setCells_os g vs (o+1) (w.setCell ⟨g,o,none⟩ v)
  refine⟨h1,h2,h3,h4.trans (by simp[World.setCell]),fun b hb=>(h5 b hb).trans ?_⟩
  show(w.heap.modify g _)[b]?=_
  rw[Array.getElem?_modify,if_neg (fun e=>hb e.symm)]
open Go.RowKit Go.Proofs
def cellsL (x:ILink):List Value:=[.string x.Name,.int .i64 x.Id]
def flatL (l:List ILink):List Value:=l.flatMap cellsL
theorem flatL_len:∀(l:List ILink),(flatL l).length=l.length*2
 | []=>rfl
 | x::l=>by
  have:flatL (x::l)=cellsL x++flatL l:=rfl
  rw[this,List.length_append,flatL_len l,List.length_cons]
  simp[cellsL]
  omega
theorem flatL_append (a b:List ILink):flatL (a++b)=flatL a++flatL b:=List.flatMap_append
theorem flatL_take:∀(l:List ILink) (i:Nat),flatL (l.take i)=(flatL l).take (i*2)
 | [],i=>by simp[flatL]
 | x::l,0=>by simp[flatL]
 | x::l,i+1=>by
  have e:flatL (x::l)= .string x.Name:: .int .i64 x.Id::flatL l:=rfl
  have e2:flatL (x::l.take i)= .string x.Name:: .int .i64 x.Id::flatL (l.take i):=rfl
  rw[List.take_succ_cons,e,e2,flatL_take l i,show(i+1)*2=i*2+1+1 by omega]
  rfl
theorem flatL_drop:∀(l:List ILink) (i:Nat),flatL (l.drop i)=(flatL l).drop (i*2)
 | [],i=>by simp[flatL]
 | x::l,0=>by simp
 | x::l,i+1=>by
  have e:flatL (x::l)= .string x.Name:: .int .i64 x.Id::flatL l:=rfl
  rw[List.drop_succ_cons,e,flatL_drop l i,show(i+1)*2=i*2+1+1 by omega]
  rfl
theorem flatL_one (l:List ILink):∀v∈flatL l,v.oneCell'=true:=fun v hv=>by
 obtain⟨x,_,hx⟩:=List.mem_flatMap.1 hv
 simp only[cellsL,List.mem_cons,List.not_mem_nil,or_false]at hx
 rcases hx with rfl|rfl<;>rfl
theorem flatL_get {l:List ILink} {i:Nat} {x:ILink} (h:l[i]?=some x):(flatL l)[i*2]?=some (.string x.Name)/\(flatL l)[i*2+1]?=some (.int .i64 x.Id):=by
 have hd:flatL (l.drop i)= .string x.Name:: .int .i64 x.Id::flatL (l.drop (i+1)):=by
  rw[List.drop_eq_getElem_cons (qS1.1 h).1]
  rw[(qS1.1 h).2]
  rfl
 rw[flatL_drop]at hd
 have h0:((flatL l).drop (i*2))[0]?=some (.string x.Name):=by rw[hd];rfl
 have h1:((flatL l).drop (i*2))[1]?=some (.int .i64 x.Id):=by rw[hd];rfl
 rw[List.getElem?_drop]at h0 h1
 exact⟨h0,h1⟩
def wfL (x:ILink):Prop:=wfV (.string x.Name)/\wfV (.int .i64 x.Id)
theorem cont_flat {S:Nat->Prop} {l:List ILink} {f:Nat->Option Value} (h:Cont S w (k:= .iLink) l f):(∀(j:Nat) (u:Value),(flatL l)[j]?=some u->f j=some u)/\∀x∈l,wfL x:=by
 have key:∀i x,l[i]?=some x->(f (i*2)=some (.string x.Name)/\f (i*2+1)=some (.int .i64 x.Id))/\wfL x:=fun i x hx=>by
  obtain⟨u,hu,e,w1⟩:=h i x hx 0 (.sc (.string x.Name)) rfl
  obtain⟨u',hu',e',w2⟩:=h i x hx 1 (.sc (.int .i64 x.Id)) rfl
  subst e e'
  exact⟨⟨hu,hu'⟩,w1,w2⟩
 refine⟨fun j u hj=> ?_,fun x hx=> ?_⟩
 ·have hl:=(qS1.1 hj).1
  rw[flatL_len]at hl
  have hi:j / 2<l.length:=by omega
  have hx:=qE1 hi
  obtain⟨h1,h2⟩:=flatL_get hx
  obtain⟨⟨h3,h4⟩,_⟩:=key _ _ hx
  rcases Nat.mod_two_eq_zero_or_one j with e|e
  ·have e:j / 2*2=j:=by omega
   rw[e]at h1 h3
   rw[<-hj,h1,h3]
  ·have e:j / 2*2+1=j:=by omega
   rw[e]at h2 h4
   rw[<-hj,h2,h4]
 ·obtain⟨i,hi⟩:=List.getElem?_of_mem hx
  exact(key i x hi).2
theorem own_flat {S:Nat->Prop} {g cap:Nat} {r:List ILink} {cur:Array Value} {fz:Nat×Nat} (h:w.heap[g]?=some (.cells cur 139 fz)) (hf:NoIce 139 cur.size fz) (hr:r.length<=cap) (hc:cap<=maxLen) (hs:cur.size=cap*2) (hl:∀(j:Nat) (u:Value),(flatL r)[j]?=some u->cur[j]?=some u) (hw:∀x∈r,wfL x):Own S w .iLink (.slice (some ⟨g,0,none⟩) r.length cap) r [g]:=by
 refine .inr ⟨g,cap,cur,rfl,rfl,?_,⟨fz,h,hf⟩,hr,hc,hs,fun i x hx j lf hlf=> ?_⟩
 ·unfold maxLen at hc;omega
 ·obtain⟨h1,h2⟩:=flatL_get hx
  obtain⟨w1,w2⟩:=hw x (qM1 hx)
  match j,hlf with
  | 0,hlf=>
   obtain rfl:Leaf.sc (.string x.Name)=lf:=Option.some.inj hlf
   exact⟨_,hl _ _ h1,rfl,w1⟩
  | 1,hlf=>
   obtain rfl:Leaf.sc (.int .i64 x.Id)=lf:=Option.some.inj hlf
   exact⟨_,hl _ _ h2,rfl,w2⟩
  | j+2,hlf=>cases hlf
def pG_slices_Insert_ILink (l:List ILink) (i:Int) (x:List ILink):Option (List ILink):=gd (0<=i/\i<=l.length/\0<x.length/\(l.length+x.length)*24<=140737488355328) (some (l.take i.toNat++x++l.drop i.toNat))
open Go.RowKit Go.Proofs
theorem ins_get {a x:List Value} {p:Nat} (hp:p<=a.length) {j:Nat} {u:Value} (h:(a.take p++x++a.drop p)[j]?=some u):(j<p/\a[j]?=some u)∨(∃t,j=p+t/\t<x.length/\x[t]?=some u)∨∃t,j=p+x.length+t/\t<(a.drop p).length/\(a.drop p)[t]?=some u:=by
 have hl:(a.take p).length=p:=by rw[List.length_take];omega
 by_cases h1:j<p
 ·rw[List.append_assoc,List.getElem?_append_left (by omega),List.getElem?_take,if_pos h1]at h
  exact .inl ⟨h1,h⟩
 ·by_cases h2:j<p+x.length
  ·rw[List.append_assoc,List.getElem?_append_right (by omega),List.getElem?_append_left (by omega),hl]at h
   exact .inr (.inl ⟨j-p,by omega,by omega,h⟩)
  ·rw[List.getElem?_append_right (by rw[List.length_append];omega),List.length_append,hl]at h
   exact .inr (.inr ⟨j-(p+x.length),by omega,(qS1.1 h).1,h⟩)
theorem alloc_at (w:World) (o:Obj):(w.drew.alloc o).heap[w.heap.size]?=some o:=by
 show(w.heap.push o)[w.heap.size]?=some o
 simp
theorem alloc_le (w:World) (o:Obj):w.heap.size<=(w.drew.alloc o).heap.size:=by
 show w.heap.size<=(w.heap.push o).size
 rw[Array.size_push];omega
set_option maxHeartbeats 4000000 in
set_option maxRecDepth 100000 in
theorem insert_calls {G:Nat} {E:World->Prop} (l x r:List ILink) (i:Int) (hr:pG_slices_Insert_ILink l i x=some r):PCalls Tryz.prog G E 284 [.row true .iLink l,.v (.int .i64 i),.row true .iLink x] [] (.row true .iLink r) []:=by
 unfold pG_slices_Insert_ILink at hr
 obtain⟨⟨i0,i1,hm,hbig⟩,hr⟩:=gd_some hr
 obtain⟨k,rfl⟩:∃k:Nat,i=k:=⟨i.toNat,by omega⟩
 rw[Int.toNat_natCast]at hr
 have hr:l.take k++x++l.drop k=r:=Option.some.inj hr
 have hkl:k<=l.length:=by omega
 have hrl:r.length=l.length+x.length:=by rw[<-hr];simp;omega
 have hflat:flatL r=(flatL l).take (k*2)++flatL x++(flatL l).drop (k*2):=by rw[<-hr,flatL_append,flatL_append,flatL_take,flatL_drop]
 refine⟨rfl,fun w S us locs La Le hG hE hl1 hl2 hnd hF0 hS hargs hext=> ?_⟩
 obtain rfl:locs=[]:=List.eq_nil_of_length_eq_zero hl1
 obtain rfl:Le=[]:=List.eq_nil_of_length_eq_zero hl2
 match us,hargs with
 | [u1,u2,u3],⟨L1,M1,e1,h1,L2,M2,e2,h2,L3,M3,e3,h3,h4⟩=>
 have h1:Own S w .iLink u1 l L1:=h1
 have h3:Own S w .iLink u3 x L3:=h3
 have h4:M3=[]:=h4
 obtain⟨h2a,h2b,h2c⟩:L2=[]/\u2= .int .i64 k/\wfV (.int .i64 k):=h2
 subst h4 h2a h2b
 rw[List.append_nil]at e3
 rw[List.nil_append]at e2
 subst e3 e2 e1
 refine Arrive.of (fn:=Tryz.f284) (by kernel_rfl) (by kernel_rfl) rfl ?_
 rcases h3 with⟨_,rfl,_⟩ |⟨vb,vc,cur2,rfl,rfl,v1,v2,v3,v4,v5,v6⟩
 ·simp at hm
 have v5:cur2.size=vc*2:=v5
 obtain⟨fx,hwx⟩:=cont_flat v6
 have hvs:∀j v,(flatL x)[j]?=some v->w.cell? ⟨vb,j,none⟩ = some v:=fun j v hj=>(v2.cell j).trans (fx j v hj)
 have hlx:=flatL_len x
 have hll:=flatL_len l
 have fin:∀(g cap':Nat) (ROW:Array Value) (fz:Nat×Nat) (w':World),(∀y∈l,wfL y)->w'.heap[g]?=some (.cells ROW 139 fz)->NoIce 139 ROW.size fz->r.length<=cap'->cap'<=maxLen->ROW.size=cap'*2->(∀(j:Nat) (u:Value),(flatL r)[j]?=some u->ROW[j]?=some u)->(g∈L1++ [vb]∨w.heap.size<=g)->w'.os=w.os->w'.tape=w.tape->w'.output=w.output->w.heap.size<=w'.heap.size->(∀b,b<w.heap.size->b∉L1++ [vb]->w'.heap[b]?=w.heap[b]?)->
   ∃(u:Value) (Lr:List Nat) (Le':List (List Nat)),Ending.returned (.slice (some ⟨g,0,none⟩) (l.length+x.length) cap')= .returned u/\Le'.length=([]:List (List PV)).length/\(([]:List (Nat×Nat)).map (·.1)++Lr++Le'.flatten).Nodup/\
   (∀b∈Lr++Le'.flatten,(b∈(L1++ [vb])++([]:List (List Nat)).flatten∨w.heap.size<=b)/\b<w'.heap.size)/\
   OwnG (fun b=>(S b∨b∈(L1++ [vb])++([]:List (List Nat)).flatten∨w.heap.size<=b)/\b<w'.heap.size/\b∉([]:List (Nat×Nat)).map (·.1)++Lr++Le'.flatten) w' (extB []) (extS []) (ownVals [.row true .iLink l,.v (.int .i64 k),.row true .iLink x] [u1,.int .i64 k,.slice (some ⟨vb,0,none⟩) x.length vc]) (.row true .iLink r) u Lr/\
   (∀(j:Nat) p cs L,([]:List (Nat×Nat))[j]?=some p->([]:List (List PV))[j]?=some cs->Le'[j]?=some L->BoxO (fun b=>(S b∨b∈(L1++ [vb])++([]:List (List Nat)).flatten∨w.heap.size<=b)/\b<w'.heap.size/\b∉([]:List (Nat×Nat)).map (·.1)++Lr++Le'.flatten) w' (extB []) (extS []) p cs L)/\
   Stay w w' (([]:List (Nat×Nat)).map (·.1)++(L1++ [vb])++([]:List (List Nat)).flatten) [] (([]:List (List PV)).map List.length):=by
  intro g cap' ROW fz w' hwl a1 a2 a3 a4 a5 a6 a7 b1 b2 b3 b4 b5
  have hg:g<w'.heap.size:=(Array.getElem?_eq_some_iff.1 a1).1
  refine⟨_,[g],[],rfl,rfl,by simp,fun b hb=> ?_,?_,fun j p cs L hj=>by simp at hj,⟨b1,b2,b3,b4,fun b hb hn=>b5 b hb (fun hm=>hn (by simpa using hm)),fun j b off n hj=>by simp at hj⟩⟩
  ·obtain rfl:b=g:=by simpa using hb
   exact⟨a7.elim (fun h=> .inl (by simpa using h)) .inr,hg⟩
  ·rw[<-hrl]
   exact own_flat a1 a2 a3 a4 a5 a6 (fun y hy=>by
    rw[<-hr]at hy
    rcases List.mem_append.1 hy with hy|hy
    ·rcases List.mem_append.1 hy with hy|hy
     ·exact hwl y (List.mem_of_mem_take hy)
     ·exact hwx y hy
    ·exact hwl y (List.mem_of_mem_drop hy))
 have zsz:∀n,(Builtin.zeroCells zLink.cells n).size=n*2:=fun n=>by simp[Builtin.zeroCells,Value.cells,zLink]
 have hmx:l.length+x.length<=maxLen:=by unfold maxLen;omega
 rcases h1 with⟨rfl,rfl,rfl⟩ |⟨b,c,cur,rfl,rfl,p1,p2,p3,p4,p5,p6⟩
 ·have hk:k=0:=by simpa using hkl
  subst hk
  have hg1:=grownCap_ge w (0+x.length) 0 139
  have hg2:=grownCap_le_maxLen w (0+x.length) 0 139 (by unfold maxLen at hmx⊢;simp at hmx;omega)
  refine Calls.mono (ins_end_grow none 0 0 vb x.length vc [] (flatL x) w (by omega) (by omega) (by omega) (by simpa using hbig) rfl hlx (fun _=>rfl) (fun a ha=>by cases ha) hvs (flatL_one x)) ?_
  rintro e w' ⟨rfl,rfl⟩
  generalize grownCap w (0+x.length) 0 139=Gc at *
  refine fin w.heap.size Gc _ (0,0) _ (fun y hy=>by cases hy) (alloc_at _ _) (.inl rfl) (by rw[hrl];simp at *;omega) hg2 ?_ ?_ (.inr (Nat.le_refl _)) rfl rfl rfl (alloc_le _ _) fun b hb _=> ?_
  ·rw[Array.size_append,zsz];simp[hlx];omega
  ·intro j u hj
   rw[hflat]at hj
   have hj:(flatL x)[j]?=some u:=by simpa [flatL]using hj
   rw[Array.getElem?_append_left (by simp;exact(qS1.1 hj).1)]
   simpa using hj
  ·show(w.heap.push _)[b]?=_
   rw[Array.getElem?_push_lt hb]
   exact(Array.getElem?_eq_getElem hb).symm
 ·have p5:cur.size=c*2:=p5
  obtain⟨fl,hwl⟩:=cont_flat p6
  have hcs:∀j v,(flatL l)[j]?=some v->w.cell? ⟨b,j,none⟩ = some v:=fun j v hj=>(p2.cell j).trans (fl j v hj)
  have hbv:vb≠b:=fun e=>by
   subst e
   simp at hnd
  obtain⟨fz,hz,hice⟩:=id p2
  obtain⟨fz2,hz2,hice2⟩:=id v2
  have hsome:∀j,j<c*2->(w.cell? ⟨b,j,none⟩).isSome=true:=fun j hj=>by rw[p2.cell,Array.getElem?_eq_getElem (by omega)];rfl
  have hfrz:∀j,j<c*2->w.frozen? ⟨b,j,none⟩ = false:=fun j hj=>p2.frozen (by omega)
  have hcm:c<=9223372036854775807:=by unfold maxLen at p4;omega
  by_cases hkn:k=l.length
  ·subst hkn
   by_cases hroom:l.length+x.length<=c
   ·refine Calls.mono (ins_end_room b l.length c vb x.length vc (flatL x) w (by omega) hroom hcm hlx (fun j hj=>hsome _ (by omega)) (fun j hj=>hfrz _ (by omega)) hvs (flatL_one x)) ?_
    rintro e w' ⟨rfl,rfl⟩
    obtain⟨s1,s2,s3,s4,s5⟩:=setCells_os b (flatL x) (l.length*2) w
    obtain⟨cur',q1,q2,q3,q4⟩:=heap_setCells b (flatL x) (l.length*2) hz (by omega)
    refine fin b c cur' fz _ hwl q1 (by rw[q2];exact hice) (by omega) p4 (by omega) ?_ (.inl (by simp)) s1 s2 s3 (by omega) fun b' hb hn=>s5 b' (fun e=>hn (by subst e;simp))
    intro j u hj
    rw[hflat]at hj
    rcases ins_get (by omega) hj with⟨h1,h2⟩ |⟨t,rfl,h1,h2⟩ |⟨t,rfl,h1,h2⟩
    ·rw[q4 j (by omega)];exact fl j u h2
    ·rw[q3 t h1];exact h2
    ·rw[List.length_drop]at h1;omega
   ·have hg1:=grownCap_ge w (l.length+x.length) c 139
    have hg2:=grownCap_le_maxLen w (l.length+x.length) c 139 hmx
    refine Calls.mono (ins_end_grow (some ⟨b,0,none⟩) l.length c vb x.length vc (flatL l) (flatL x) w (by omega) p3 (by omega) hbig hll hlx (fun h=>by cases h) (fun a ha j v hj=>by cases ha;rw[Addr.add_lit,Nat.zero_add];exact hcs j v hj) hvs (flatL_one x)) ?_
    rintro e w' ⟨rfl,rfl⟩
    generalize grownCap w (l.length+x.length) c 139=Gc at *
    refine fin w.heap.size Gc _ (0,0) _ hwl (alloc_at _ _) (.inl rfl) (by omega) hg2 ?_ ?_ (.inr (Nat.le_refl _)) rfl rfl rfl (alloc_le _ _) fun b hb _=> ?_
    ·rw[Array.size_append,zsz];simp[hlx,hll];omega
    ·intro j u hj
     have hj:(flatL l++flatL x)[j]?=some u:=by
      rw[hflat,List.take_of_length_le (by omega),List.drop_of_length_le (by omega),List.append_nil]at hj
      exact hj
     rw[Array.getElem?_append_left (by simpa using(qS1.1 hj).1)]
     simpa using hj
    ·show(w.heap.push _)[b]?=_
     rw[Array.getElem?_push_lt hb]
     exact(Array.getElem?_eq_getElem hb).symm
  ·by_cases hroom:l.length+x.length<=c
   ·have hend:fz2.2=0:=hice2.elim id fun h=>absurd (show(139:Nat)=5 from h.2) (by decide)
    refine Calls.mono (ins_shift b l.length c k vb x.length vc (flatL l) (flatL x) w (by omega) (by omega) hroom hcm hbv hll hlx hcs (fun j hj=>hsome _ (by omega)) (fun j hj=>hfrz _ (by omega)) hvs (flatL_one l) (flatL_one x) 139 139 cur2.size cur.size (by unfold World.shape?;rw[hz2];rfl) (by unfold World.shape?;rw[hz];rfl) (by omega) (v2.frozen (by omega)) (by unfold World.frozen?;rw[hz2];simp[hend])) ?_
    rintro e w' ⟨rfl,rfl⟩
    obtain⟨s1,s2,s3,s4,s5⟩:=setCells_os b ((flatL l).drop (k*2)) ((k+x.length)*2) w.drew
    obtain⟨cur',q1,q2,q3,q4⟩:=heap_setCells b ((flatL l).drop (k*2)) ((k+x.length)*2) (w:=w.drew) hz (by rw[List.length_drop];omega)
    obtain⟨t1,t2,t3,t4,t5⟩:=setCells_os b (flatL x) (k*2) (w.drew.setCells b ((k+x.length)*2) ((flatL l).drop (k*2)))
    obtain⟨cur'',r1,r2,r3,r4⟩:=heap_setCells b (flatL x) (k*2) q1 (by omega)
    refine fin b c cur'' fz _ hwl r1 (by rw[r2,q2];exact hice) (by omega) p4 (by omega) ?_ (.inl (by simp)) (t1.trans s1) (t2.trans s2) (t3.trans s3) (by rw[t4,s4];exact Nat.le_refl _) fun b' hb hn=>(t5 b' (fun e=>hn (by subst e;simp))).trans (s5 b' (fun e=>hn (by subst e;simp)))
    intro j u hj
    rw[hflat]at hj
    rcases ins_get (by omega) hj with⟨h1,h2⟩ |⟨t,rfl,h1,h2⟩ |⟨t,rfl,h1,h2⟩
    ·rw[r4 j (by omega),q4 j (by omega)];exact fl j u h2
    ·rw[r3 t h1];exact h2
    ·rw[r4 _ (by omega),show k*2+(flatL x).length+t=(k+x.length)*2+t by omega,q3 t h1];exact h2
   ·have hg1:=grownCap_ge w (l.length+x.length) c 139
    have hg2:=grownCap_le_maxLen w (l.length+x.length) c 139 hmx
    refine Calls.mono (ins_grow b l.length c k vb x.length vc (flatL l) (flatL x) w (by omega) (by omega) p3 (by omega) hbig hll hlx hcs hvs (flatL_one l) (flatL_one x)) ?_
    rintro e w' ⟨rfl,rfl⟩
    generalize grownCap w (l.length+x.length) c 139=Gc at *
    generalize hR:((flatL l).take (k*2)).toArray++Builtin.zeroCells zLink.cells (l.length+x.length-k)++Builtin.zeroCells zLink.cells (Gc-(l.length+x.length))=ROW
    have hRs:ROW.size=Gc*2:=by
     rw[<-hR,Array.size_append,Array.size_append,zsz,zsz]
     simp[hll]
     omega
    have a0:((w.alloc (.cells ROW 139)).drew).heap[w.heap.size]?=some (.cells ROW 139 (0,0)):=alloc_at w _
    have aO:∀b',b'<w.heap.size->((w.alloc (.cells ROW 139)).drew).heap[b']?=w.heap[b']?:=fun b' hb=>by
     show(w.heap.push _)[b']?=_
     rw[Array.getElem?_push_lt hb]
     exact(Array.getElem?_eq_getElem hb).symm
    obtain⟨s1,s2,s3,s4,s5⟩:=setCells_os w.heap.size (flatL x) (k*2) ((w.alloc (.cells ROW 139)).drew)
    obtain⟨cur',q1,q2,q3,q4⟩:=heap_setCells w.heap.size (flatL x) (k*2) a0 (by omega)
    obtain⟨t1,t2,t3,t4,t5⟩:=setCells_os w.heap.size ((flatL l).drop (k*2)) ((k+x.length)*2) (((w.alloc (.cells ROW 139)).drew.setCells w.heap.size (k*2) (flatL x)).drew)
    obtain⟨cur'',r1,r2,r3,r4⟩:=heap_setCells w.heap.size ((flatL l).drop (k*2)) ((k+x.length)*2) (w:=((w.alloc (.cells ROW 139)).drew.setCells w.heap.size (k*2) (flatL x)).drew) q1 (by rw[List.length_drop];omega)
    refine fin w.heap.size Gc cur'' (0,0) _ hwl r1 (.inl rfl) (by omega) hg2 (by omega) ?_ (.inr (Nat.le_refl _)) (t1.trans s1) (t2.trans s2) (t3.trans s3) (by rw[t4];exact Nat.le_trans (alloc_le w _) (Nat.le_of_eq s4.symm)) fun b' hb hn=>(t5 b' (by omega)).trans ((s5 b' (by omega)).trans (aO b' hb))
    intro j u hj
    rw[hflat]at hj
    rcases ins_get (by omega) hj with⟨h1,h2⟩ |⟨t,rfl,h1,h2⟩ |⟨t,rfl,h1,h2⟩
    ·rw[r4 j (by omega),q4 j (by omega),<-hR,Array.append_assoc,Array.getElem?_append_left (by simp;omega)]
     simp only[List.getElem?_toArray]
     rw[List.getElem?_take,if_pos h1]
     exact h2
    ·rw[r4 _ (by omega),q3 t h1];exact h2
    ·rw[show k*2+(flatL x).length+t=(k+x.length)*2+t by omega,r3 t h1];exact h2
open Go.RowKit Go.Proofs
def o284 (fuel:Nat):Orc:=⟨284,[none,none,none],[.own .iLink 99,.I .i64,.own .iLink 99],0,.one (.own .iLink 99),fun v=>pG_slices_Insert_ILink v.1 v.2.1 v.2.2⟩
theorem c284 {G:Nat} {E:World->Prop} (hcl:Cl G E) (fuel:Nat):Ctr Tryz.prog G E (o284 fuel):=fun v r hr=>insert_calls v.1 v.2.2 r v.2.1 hr
end Go.Px
