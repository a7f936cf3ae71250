/- What a call may hold, as plain values and a store: a small machine over them, the functions of this program as its contracts, and the plain laws: texts T0 to QL. -/
import Derived.Test.YtegmckcdakndaaaGreatDoorQC
import Derived.Test.YtegmckcdakndaaaGreatDoorProg
import Derived.Shelf.Small.Strs
import Derived.Shelf.Strings.OnBuilder
import Derived.Shelf.Sort.Plain
import Derived.Shelf.Slices.In.SortNone
import Derived.Shelf.Strconv.Itoa3
import Derived.Sort.OwnSortedInts
import Derived.Ground.NamesProg
import Derived.Lib.SmallJoins
import Derived.WalkKit
import Derived.Laws.IdiomCopy
import Derived.Lib.AppendZerosOnto
import Derived.Lib.Overlaps
import Derived.Lib.SliceRun
import Derived.Shelf.Spec.SlicesInsert
import Derived.Shelf.Spec.SlicesInsertGrow
import Derived.ProofKit
import Derived.Deep.Slices
import Derived.OpenShut
import Derived.Below
set_option linter.unusedSimpArgs false
set_option linter.unusedVariables false
set_option linter.constructorNameAsVariable false
namespace Go.Proofs.YtegmckcdakndaaaGreatDoor
open Go.RowKit Go.Shelf
def Tryz.laysIndexByte_ren:Go.Shelf.Ren:=⟨fun|137=>256|217=>305|266=>331|n=>n,fun|9=>9|5=>5|3=>3|n=>n,fun|n=>n⟩
theorem Tryz.laysIndexByte:Go.Proofs.Lays.n137 Tryz.prog Tryz.laysIndexByte_ren:= {
 mixed:=by kernel_rfl
 f137:=Tryz.func256.trans (congrArg some (by kernel_rfl))
 f217:=Tryz.func305.trans (congrArg some (by kernel_rfl))
 f266:=Tryz.func331.trans (congrArg some (by kernel_rfl))
 t3:=Tryz.underlying3
 a3:=Tryz.isAgg3
 z3:=Tryz.sizeOf3
 v3:=Tryz.zeroValue3
 t5:=Tryz.underlying5
 a5:=Tryz.isAgg5
 z5:=Tryz.sizeOf5
 v5:=Tryz.zeroValue5
 t9:=Tryz.underlying9
 a9:=Tryz.isAgg9
 z9:=Tryz.sizeOf9
 v9:=Tryz.zeroValue9}
def Tryz.laysItoa_ren:Go.Shelf.Ren:=⟨fun|171=>140|243=>199|246=>240|283=>278|284=>279|285=>280|286=>281|129=>277|317=>315|318=>316|319=>317|320=>318|337=>335|338=>336|n=>n,fun|3=>3|9=>9|2=>2|4=>4|171=>350|0=>0|53=>349|37=>99|5=>5|173=>352|212=>383|51=>347|20=>20|213=>384|46=>312|232=>403|233=>404|n=>n,fun|17=>1|18=>2|19=>3|n=>n⟩
theorem Tryz.laysItoa:Go.Proofs.LaysM.n171 Tryz.prog Tryz.laysItoa_ren:= {
 mixed:=by kernel_rfl
 f129:=Tryz.func277.trans (congrArg some (by kernel_rfl))
 f171:=Tryz.func140.trans (congrArg some (by kernel_rfl))
 f243:=Tryz.func199.trans (congrArg some (by kernel_rfl))
 f246:=Tryz.func240.trans (congrArg some (by kernel_rfl))
 f283:=Tryz.func278.trans (congrArg some (by kernel_rfl))
 f284:=Tryz.func279.trans (congrArg some (by kernel_rfl))
 f285:=Tryz.func280.trans (congrArg some (by kernel_rfl))
 f286:=Tryz.func281.trans (congrArg some (by kernel_rfl))
 f317:=Tryz.func315.trans (congrArg some (by kernel_rfl))
 f318:=Tryz.func316.trans (congrArg some (by kernel_rfl))
 f319:=Tryz.func317.trans (congrArg some (by kernel_rfl))
 f320:=Tryz.func318.trans (congrArg some (by kernel_rfl))
 f337:=Tryz.func335.trans (congrArg some (by kernel_rfl))
 f338:=Tryz.func336.trans (congrArg some (by kernel_rfl))
 t0:=Tryz.underlying0
 a0:=Tryz.isAgg0
 z0:=Tryz.sizeOf0
 v0:=Tryz.zeroValue0
 t2:=Tryz.underlying2
 a2:=Tryz.isAgg2
 z2:=Tryz.sizeOf2
 v2:=Tryz.zeroValue2
 t3:=Tryz.underlying3
 a3:=Tryz.isAgg3
 z3:=Tryz.sizeOf3
 v3:=Tryz.zeroValue3
 t4:=Tryz.underlying4
 a4:=Tryz.isAgg4
 z4:=Tryz.sizeOf4
 v4:=Tryz.zeroValue4
 t5:=Tryz.underlying5
 a5:=Tryz.isAgg5
 z5:=Tryz.sizeOf5
 v5:=Tryz.zeroValue5
 t9:=Tryz.underlying9
 a9:=Tryz.isAgg9
 z9:=Tryz.sizeOf9
 v9:=Tryz.zeroValue9
 t20:=Tryz.underlying20
 a20:=Tryz.isAgg20
 z20:=Tryz.sizeOf20
 v20:=Tryz.zeroValue20
 t37:=Tryz.underlying99
 a37:=Tryz.isAgg99
 z37:=Tryz.sizeOf99
 v37:=Tryz.zeroValue99
 t46:=Tryz.underlying312
 a46:=Tryz.isAgg312
 z46:=Tryz.sizeOf312
 v46:=Tryz.zeroValue312
 t51:=Tryz.underlying347
 a51:=Tryz.isAgg347
 z51:=Tryz.sizeOf347
 v51:=Tryz.zeroValue347
 t53:=Tryz.underlying349
 a53:=Tryz.isAgg349
 z53:=Tryz.sizeOf349
 v53:=Tryz.zeroValue349
 t171:=Tryz.underlying350
 a171:=Tryz.isAgg350
 z171:=Tryz.sizeOf350
 v171:=Tryz.zeroValue350
 t173:=Tryz.underlying352
 a173:=Tryz.isAgg352
 z173:=Tryz.sizeOf352
 v173:=Tryz.zeroValue352
 t212:=Tryz.underlying383
 a212:=Tryz.isAgg383
 z212:=Tryz.sizeOf383
 v212:=Tryz.zeroValue383
 t213:=Tryz.underlying384
 a213:=Tryz.isAgg384
 z213:=Tryz.sizeOf384
 t232:=Tryz.underlying403
 a232:=Tryz.isAgg403
 z232:=Tryz.sizeOf403
 v232:=Tryz.zeroValue403
 t233:=Tryz.underlying404
 a233:=Tryz.isAgg404
 z233:=Tryz.sizeOf404
 v233:=Tryz.zeroValue404
 g17:=by kernel_rfl
 g18:=by kernel_rfl
 g19:=by kernel_rfl
 i0:=by kernel_rfl
 i2:=by kernel_rfl
 i3:=by kernel_rfl
 i4:=by kernel_rfl
 i5:=by kernel_rfl
 i9:=by kernel_rfl
 i20:=by kernel_rfl
 i37:=by kernel_rfl
 i46:=by kernel_rfl
 i51:=by kernel_rfl
 i53:=by kernel_rfl
 i171:=by kernel_rfl
 i173:=by kernel_rfl
 i212:=by kernel_rfl
 i232:=by kernel_rfl
 i233:=by kernel_rfl
 m17:=by kernel_rfl
 m18:=by kernel_rfl
 m19:=by kernel_rfl}
def Tryz.laysSort_ren:Go.Shelf.Ren:=⟨fun|189=>194|125=>237|257=>236|128=>276|129=>277|294=>267|295=>268|296=>269|297=>270|298=>271|299=>272|216=>273|300=>274|301=>275|328=>309|329=>310|330=>311|331=>312|332=>313|215=>314|343=>334|n=>n,fun|28=>73|3=>3|46=>312|0=>0|51=>347|53=>349|4=>4|183=>341|182=>340|131=>332|5=>5|9=>9|218=>376|222=>380|228=>396|229=>222|n=>n,fun|n=>n⟩
theorem Tryz.laysSort:Go.Proofs.Lays.n189 Tryz.prog Tryz.laysSort_ren:= {
 mixed:=by kernel_rfl
 f125:=Tryz.func237.trans (congrArg some (by kernel_rfl))
 f128:=Tryz.func276.trans (congrArg some (by kernel_rfl))
 f129:=Tryz.func277.trans (congrArg some (by kernel_rfl))
 f189:=Tryz.func194.trans (congrArg some (by kernel_rfl))
 f215:=Tryz.func314.trans (congrArg some (by kernel_rfl))
 f216:=Tryz.func273.trans (congrArg some (by kernel_rfl))
 f257:=Tryz.func236.trans (congrArg some (by kernel_rfl))
 f294:=Tryz.func267.trans (congrArg some (by kernel_rfl))
 f295:=Tryz.func268.trans (congrArg some (by kernel_rfl))
 f296:=Tryz.func269.trans (congrArg some (by kernel_rfl))
 f297:=Tryz.func270.trans (congrArg some (by kernel_rfl))
 f298:=Tryz.func271.trans (congrArg some (by kernel_rfl))
 f299:=Tryz.func272.trans (congrArg some (by kernel_rfl))
 f300:=Tryz.func274.trans (congrArg some (by kernel_rfl))
 f301:=Tryz.func275.trans (congrArg some (by kernel_rfl))
 f328:=Tryz.func309.trans (congrArg some (by kernel_rfl))
 f329:=Tryz.func310.trans (congrArg some (by kernel_rfl))
 f330:=Tryz.func311.trans (congrArg some (by kernel_rfl))
 f331:=Tryz.func312.trans (congrArg some (by kernel_rfl))
 f332:=Tryz.func313.trans (congrArg some (by kernel_rfl))
 f343:=Tryz.func334.trans (congrArg some (by kernel_rfl))
 t0:=Tryz.underlying0
 a0:=Tryz.isAgg0
 z0:=Tryz.sizeOf0
 v0:=Tryz.zeroValue0
 t3:=Tryz.underlying3
 a3:=Tryz.isAgg3
 z3:=Tryz.sizeOf3
 v3:=Tryz.zeroValue3
 t4:=Tryz.underlying4
 a4:=Tryz.isAgg4
 z4:=Tryz.sizeOf4
 v4:=Tryz.zeroValue4
 t5:=Tryz.underlying5
 a5:=Tryz.isAgg5
 z5:=Tryz.sizeOf5
 v5:=Tryz.zeroValue5
 t9:=Tryz.underlying9
 a9:=Tryz.isAgg9
 z9:=Tryz.sizeOf9
 v9:=Tryz.zeroValue9
 t28:=Tryz.underlying73
 a28:=Tryz.isAgg73
 z28:=Tryz.sizeOf73
 v28:=Tryz.zeroValue73
 t46:=Tryz.underlying312
 a46:=Tryz.isAgg312
 z46:=Tryz.sizeOf312
 v46:=Tryz.zeroValue312
 t51:=Tryz.underlying347
 a51:=Tryz.isAgg347
 z51:=Tryz.sizeOf347
 v51:=Tryz.zeroValue347
 t53:=Tryz.underlying349
 a53:=Tryz.isAgg349
 z53:=Tryz.sizeOf349
 v53:=Tryz.zeroValue349
 t131:=Tryz.underlying332
 a131:=Tryz.isAgg332
 z131:=Tryz.sizeOf332
 v131:=Tryz.zeroValue332
 t182:=Tryz.underlying340
 a182:=Tryz.isAgg340
 z182:=Tryz.sizeOf340
 v182:=Tryz.zeroValue340
 t183:=Tryz.underlying341
 a183:=Tryz.isAgg341
 z183:=Tryz.sizeOf341
 v183:=Tryz.zeroValue341
 t218:=Tryz.underlying376
 a218:=Tryz.isAgg376
 z218:=Tryz.sizeOf376
 v218:=Tryz.zeroValue376
 t222:=Tryz.underlying380
 a222:=Tryz.isAgg380
 z222:=Tryz.sizeOf380
 v222:=Tryz.zeroValue380
 t228:=Tryz.underlying396
 a228:=Tryz.isAgg396
 z228:=Tryz.sizeOf396
 v228:=Tryz.zeroValue396
 t229:=Tryz.underlying222
 a229:=Tryz.isAgg222
 z229:=Tryz.sizeOf222
 v229:=Tryz.zeroValue222}
def Tryz.laysCompare_ren:Go.Shelf.Ren:=⟨fun|106=>262|213=>306|265=>332|n=>n,fun|9=>9|3=>3|n=>n,fun|n=>n⟩
theorem Tryz.laysCompare:Go.Proofs.Lays.n106 Tryz.prog Tryz.laysCompare_ren:= {
 mixed:=by kernel_rfl
 f106:=Tryz.func262.trans (congrArg some (by kernel_rfl))
 f213:=Tryz.func306.trans (congrArg some (by kernel_rfl))
 f265:=Tryz.func332.trans (congrArg some (by kernel_rfl))
 t3:=Tryz.underlying3
 a3:=Tryz.isAgg3
 z3:=Tryz.sizeOf3
 v3:=Tryz.zeroValue3
 t9:=Tryz.underlying9
 a9:=Tryz.isAgg9
 z9:=Tryz.sizeOf9
 v9:=Tryz.zeroValue9}
def Tryz.laysJoin_ren:Go.Shelf.Ren:=⟨fun|156=>72|165=>136|166=>137|169=>138|240=>197|241=>198|276=>238|277=>239|n=>n,fun|31=>83|9=>9|3=>3|4=>4|0=>0|20=>20|72=>229|76=>233|70=>227|37=>99|75=>232|127=>285|164=>313|5=>5|80=>235|n=>n,fun|n=>n⟩
theorem Tryz.laysJoin:Go.Proofs.Lays.n156 Tryz.prog Tryz.laysJoin_ren:= {
 mixed:=by kernel_rfl
 f156:=Tryz.func72.trans (congrArg some (by kernel_rfl))
 f165:=Tryz.func136.trans (congrArg some (by kernel_rfl))
 f166:=Tryz.func137.trans (congrArg some (by kernel_rfl))
 f169:=Tryz.func138.trans (congrArg some (by kernel_rfl))
 f240:=Tryz.func197.trans (congrArg some (by kernel_rfl))
 f241:=Tryz.func198.trans (congrArg some (by kernel_rfl))
 f276:=Tryz.func238.trans (congrArg some (by kernel_rfl))
 f277:=Tryz.func239.trans (congrArg some (by kernel_rfl))
 t0:=Tryz.underlying0
 a0:=Tryz.isAgg0
 z0:=Tryz.sizeOf0
 v0:=Tryz.zeroValue0
 t3:=Tryz.underlying3
 a3:=Tryz.isAgg3
 z3:=Tryz.sizeOf3
 v3:=Tryz.zeroValue3
 t4:=Tryz.underlying4
 a4:=Tryz.isAgg4
 z4:=Tryz.sizeOf4
 v4:=Tryz.zeroValue4
 t9:=Tryz.underlying9
 a9:=Tryz.isAgg9
 z9:=Tryz.sizeOf9
 v9:=Tryz.zeroValue9
 t20:=Tryz.underlying20
 a20:=Tryz.isAgg20
 z20:=Tryz.sizeOf20
 v20:=Tryz.zeroValue20
 t31:=Tryz.underlying83
 a31:=Tryz.isAgg83
 z31:=Tryz.sizeOf83
 v31:=Tryz.zeroValue83
 t37:=Tryz.underlying99
 a37:=Tryz.isAgg99
 z37:=Tryz.sizeOf99
 v37:=Tryz.zeroValue99
 t70:=Tryz.underlying227
 a70:=Tryz.isAgg227
 z70:=Tryz.sizeOf227
 v70:=Tryz.zeroValue227
 t72:=Tryz.underlying229
 a72:=Tryz.isAgg229
 z72:=Tryz.sizeOf229
 v72:=Tryz.zeroValue229
 t75:=Tryz.underlying232
 a75:=Tryz.isAgg232
 z75:=Tryz.sizeOf232
 v75:=Tryz.zeroValue232
 t76:=Tryz.underlying233
 a76:=Tryz.isAgg233
 z76:=Tryz.sizeOf233
 v76:=Tryz.zeroValue233
 t127:=Tryz.underlying285
 a127:=Tryz.isAgg285
 z127:=Tryz.sizeOf285
 v127:=Tryz.zeroValue285
 t164:=Tryz.underlying313
 a164:=Tryz.isAgg313
 z164:=Tryz.sizeOf313
 v164:=Tryz.zeroValue313}
end Go.Proofs.YtegmckcdakndaaaGreatDoor
namespace Go.Px
variable {w:World} {S:Nat->Prop} {G:Nat} {k:K} {lfs:List d4} {O α J:Type}
open Go.RowKit Go.Proofs Go.Sort
theorem aMS:aGb Tryz.prog:=by
 intro f t e
 have:=iQ e
 simp[aMR]at this
theorem aMD:aGa Tryz.prog:=by
 intro f oc oa ob e
 have:=iQ e
 simp[aMC]at this
set_option maxRecDepth 100000 in
theorem aAM:fT Tryz.prog:=fT.of aMS aMD (by kernel_rfl)
theorem mixed:Tryz.prog.follows .mixedOrders=true:=by kernel_rfl
def aEM (w:World):Prop:=Lib.TabIs Tryz.prog w "internal/strconv.uint64pow10" .u64 Lib.pow10Tab
structure Cl (G:Nat) (E:World->Prop):Prop where
 cl:∀w w':World,E w->(∀b,b<G->w'.heap[b]?=w.heap[b]?)->E w'
 tab:∀w,E w->aEM w
def CC (o:Nat->wX):Prop:=∀{G:Nat} {E:World->Prop} (_:Cl G E) (m:Nat),DA Tryz.prog G E (o m)
def CL (C:Nat->List wX):Prop:=∀{G:Nat} {E:World->Prop} (_:Cl G E) (m:Nat),∀o∈C m,DA Tryz.prog G E o
theorem cn:CL (fun _=> []):=fun _ _=>csn
theorem cs {o:Nat->wX} {C:Nat->List wX} (h:CC o) (t:CL C):CL (fun m=>o m::C m):=fun e m=>csc (h e m) (t e m)
def tn:Tab:=⟨[],[],[]⟩
theorem mq {C:Nat->List wX} (H:CL C) {o:Nat->wX} (T:Tab) (fn:Func) {c:Code} (I:∀m,Tryz.prog.funcs[(o m).f]?=some fn:=by intro _;kernel_rfl) (M:fn.body=some c:=by rfl)
  (R:((fn.name== "runtime.NumGoroutine")==false&&yU fn.ntmps c)=true:=by kernel_rfl) (z:∀m v,okB fn.ntmps (o m).nx ((o m).args v) ((o m).exts v)=true:=by intro _ _;kernel_rfl) (D:∀m v r,((o m).back r).map List.length=((o m).exts v).map List.length:=by intro _ _ _;kernel_rfl) (h:∀m v,fev (C m) T (o m).nx m fn (o m).pat (o m).ins (o m).out v=(o m).p v:=by intro _ _;kernel_rfl):CC o:=fun e m=>DA.mk (H e m) aAM mixed e.cl T m (I m) M R (z m) (D m) (h m)
section
variable {G:Nat} {E:World->Prop}
theorem hO.libV {P:Program} {f:FuncId} {fn:Func} {c:Code} (hf:P.funcs[f]?=some fn) (z:(fn.name== "runtime.NumGoroutine")=false) (H:fn.body=some c) {vs:List Value} {x:Value} (hx:sD x)
  (h:∀w,E w->Calls P f vs.toArray w fun e w'=>e= .returned x/\Below w.heap.size w w'):hO P G E f (vs.map .v) [] (.v x) []:=by
 refine⟨rfl,fun w S us locs La Le hG hE I M hnd hF0 hS D hext=> ?_⟩
 obtain rfl:locs=[]:=aR I
 obtain rfl:Le=[]:=aR M
 have R:us=vs/\La=[]:=by
  have key:∀(vs us:List Value) (L:List Nat),bZ (kN S w (kO []) (iF [])) (vs.map .v) us L->us=vs/\L=[]:=by
   intro vs
   induction vs with
   | nil=>intro us L h;cases us with
    | nil=>exact⟨rfl,h⟩
    | cons _ _=>exact h.elim
   | cons v vs ih=>
    intro us L h
    cases us with
    | nil=>exact h.elim
    | cons u us=>
     obtain⟨L1,L2,e,W,Y⟩:=h
     obtain⟨q1,q2⟩:=ih us L2 Y
     obtain⟨p1,p2⟩:L1=[]/\u=v/\sD v:=W
     exact⟨by rw[q1,p2.1],by rw[e,p1,q2];rfl⟩
  exact key vs us La D
 obtain⟨rfl,rfl⟩:=R
 refine jQ.of hf z H (Calls.mono (h w hE) ?_)
 rintro e w' ⟨rfl,W,Y,h3,h4,h5⟩
 exact⟨x,[],[],rfl,rfl,by simp,by simp,⟨rfl,rfl,hx⟩,fun j p cs L hj=>by simp at hj,⟨W,Y,h3,h4,fun b H _=>h5 b H,fun j b off n hj=>by simp at hj⟩⟩
def fJ (l:List Int):Option (List Int):=gd (l.length<4611686018427387904) (some (l.mergeSort fun x y=>decide (x<=y)))
def aPq (fuel:Nat):wX:=⟨194,[none],[.own .int 99],101,.one (.own .int 99),fun v=>fJ v⟩
theorem aDJ (v r:List Int) (hr:fJ v=some r):hO Tryz.prog G E 194 [.row true .int v] [] (.gb (.tup []) [.row true .int r]) []:=by
 unfold fJ at hr
 obtain⟨hlen,hr⟩:=E9 hr
 cases hr
 refine⟨rfl,fun w S us locs La Le hG hE hl1 hl2 hnd hF0 hS Y hext=> ?_⟩
 obtain rfl:locs=[]:=aR hl1
 obtain rfl:Le=[]:=aR hl2
 match us,Y with
 | [u],⟨L1,L2,e,h1,h2⟩=>
 have h2:L2=[]:=h2
 subst h2
 rw[bO]at e
 subst e
 have h1:G6 S w .int u v La:=h1
 refine jQ.of (fn:=Tryz.f194) (by kernel_rfl) (by kernel_rfl) rfl ?_
 rcases h1 with⟨rfl,rfl,rfl⟩ |⟨b,cap,cur,rfl,rfl,hlt,z,W,hmax,hsz,H⟩
 ·refine Calls.mono (Any.slices_Sort_int_none Go.Proofs.YtegmckcdakndaaaGreatDoor.Tryz.laysSort none 0 w) ?_
  rintro e w' ⟨rfl,rfl⟩
  refine⟨.tuple #[],[],[],rfl,rfl,by simp,by simp,⟨[],[],rfl,⟨#[],rfl,rfl⟩,[],[],rfl,.inl ⟨rfl,?_,rfl⟩,rfl⟩,fun j p cs L I=>by simp at I,⟨rfl,rfl,rfl,bB _,fun _ _ _=>rfl,fun j b off n I=>by simp at I⟩⟩
  simp
 ·have hbl:b<w.heap.size:=z.lt
  have hH:Holds (Value.int .i64) w b 0 v.toArray:=fun j I=>by
   have hj':j<v.length:=by simpa using I
   obtain⟨u,hu,hl⟩:=H j v[j] (iD hj') 0 (.sc (.int .i64 v[j])) rfl
   have e1:j*size .int+0=j:=by show j*1+0=j;omega
   rw[e1]at hu
   have hlu:u= .int .i64 v[j]:=hl.1
   subst hlu
   have hjs:j<cur.size:=(Array.getElem?_eq_some_iff.1 hu).1
   rw[bP]
   refine⟨?_,z.frozen hjs⟩
   have hu:cur[j]?=some (.int .i64 v[j]):=hu
   rw[z.cell,hu]
   simp[hj']
  refine Calls.mono (Any.slices_Sort_int Go.Proofs.YtegmckcdakndaaaGreatDoor.Tryz.laysSort b 0 cap v w hH hbl hlen) ?_
  rintro e w' ⟨rfl,n,os,rfl⟩
  obtain⟨fz,hheap,hice⟩:=z
  have hnew:=heap_sortedI (w:=w) (n:=n) (os:=os) (v.mergeSort fun x y=>decide (x<=y)).toArray hheap
  have hgr:=grownBy_sortedI (w:=w) (g:=b) (n:=n) (os:=os) (v.mergeSort fun x y=>decide (x<=y)).toArray
  obtain⟨g1,g2,g3,g4,g5⟩:=hgr
  have D:(v.mergeSort fun x y=>decide (x<=y)).length=v.length:=iU ..
  have hcs:(putCells (Value.int .i64) 0 (v.mergeSort fun x y=>decide (x<=y)).toArray cur).size=cur.size:=by simp[putCells]
  have hcz:cur.size=cap:=by rw[hsz];show cap*1=cap;omega
  refine⟨.tuple #[],[b],[],rfl,rfl,by simp,fun x R=> ?_,⟨[],[b],rfl,⟨#[],rfl,rfl⟩,[b],[],rfl,.inr ⟨b,cap,_,?_,rfl,by rw[D];exact hlt,⟨fz,hnew,by rw[hcs];exact hice⟩,by rw[D];exact W,hmax,by rw[hcs];exact hsz,?_⟩,rfl⟩,fun j p cs L I=>by simp at I,⟨g1,g2,g3,g4,fun x R hn=>g5 x R fun e=>hn (by cases e;simp),fun j b off n I=>by simp at I⟩⟩
  ·have R:x=b:=by simpa using R
   subst R
   exact⟨.inl (by simp),eQ hbl g4⟩
  ·rw[D]
  ·intro i x R j lf M
   have hi:i<v.length:=by have:=(iR.1 R).1;rwa[D]at this
   have I:j=0:=by
    have:=(iR.1 M).1
    rw[cP]at this
    have e:size K.int=1:=rfl
    omega
   subst I
   have M:lf= .sc (.int .i64 x):=by
    have:(aG (k:= .int) x)[0]?=some (.sc (.int .i64 x)):=rfl
    rw[this]at M;exact(Option.some.inj M).symm
   subst M
   have htk:=take_putCellsI cur (v.mergeSort fun x y=>decide (x<=y)) (by rw[D,hcz];exact W)
   have e1:i*size .int+0=i:=by show i*1+0=i;omega
   refine⟨.int .i64 x,?_,rfl,?_⟩
   ·show(putCells (Value.int .i64) 0 (v.mergeSort fun x y=>decide (x<=y)).toArray cur)[i*size K.int+0]?=_
    rw[e1,<-Array.getElem?_toList]
    have h3:((putCells (Value.int .i64) 0 (v.mergeSort fun x y=>decide (x<=y)).toArray cur).toList.take (v.mergeSort fun x y=>decide (x<=y)).length)[i]?=some (.int .i64 x):=by
     rw[htk,bX,R];rfl
    rw[List.getElem?_take_of_lt (by rw[D];exact hi)]at h3
    exact h3
   ·have hxm:x∈v:=List.mem_mergeSort.1 (tF R)
    obtain⟨m,hm⟩:=bD hxm
    obtain⟨u,_,hl⟩:=H m x hm 0 (.sc (.int .i64 x)) rfl
    exact hl.2
theorem aKE (e:Cl G E) (fuel:Nat):DA Tryz.prog G E (aPq fuel):=fun v r z=>aDJ v r z
def cW (s:ByteArray) (c:Int):Option Int:=gd (s.size<=9223372036854775807) (some (Lib.indexByte s.data.toList (UInt8.ofNat c.toNat)))
def aPs (fuel:Nat):wX:=⟨256,[none,none],[.S,.I .u8],0,.one (.I .i64),fun v=>cW v.1 v.2⟩
theorem JH (c:UInt8):∀l:List UInt8,-1<=Lib.indexByte l c/\Lib.indexByte l c<=l.length
 | []=>by unfold Lib.indexByte;simp
 | b::l=>by
  have:=JH c l
  unfold Lib.indexByte
  split
  ·simp;omega
  ·split
   ·simp;omega
   ·simp;omega
theorem NT (s:ByteArray) (c r:Int) (z:cW s c=some r):hO Tryz.prog G E 256 [.v (.string s),.v (.int .u8 c)] [] (.v (.int .i64 r)) []:=by
 unfold cW at z
 obtain⟨D,z⟩:=E9 z
 cases z
 have H:s.data.toList.length=s.size:=d5
 have I:=JH (UInt8.ofNat c.toNat) s.data.toList
 refine hO.libV (vs:=[.string s,.int .u8 c]) (fn:=Tryz.f256) (by kernel_rfl) (by kernel_rfl) rfl ((iS .i64 _).2 (by simp[loK,hiK];omega)) fun w M=> ?_
 refine Calls.mono (Any.strings_IndexByte Go.Proofs.YtegmckcdakndaaaGreatDoor.Tryz.laysIndexByte s c w) ?_
 rintro e w' ⟨rfl,rfl⟩
 exact⟨rfl,Below.refl _ _⟩
theorem aOI (e:Cl G E) (fuel:Nat):DA Tryz.prog G E (aPs fuel):=fun v r z=>NT v.1 v.2 r z
def l4 (a b:ByteArray):Option Int:=some (Lib.compareBytes a.data.toList b.data.toList)
def aPt (fuel:Nat):wX:=⟨262,[none,none],[.S,.S],0,.one (.I .i64),fun v=>l4 v.1 v.2⟩
theorem MX:∀a b:List UInt8,-1<=Lib.compareBytes a b/\Lib.compareBytes a b<=1
 | [],[]=>by unfold Lib.compareBytes;omega
 | [],_::_=>by unfold Lib.compareBytes;omega
 | _::_,[]=>by unfold Lib.compareBytes;omega
 | a::l,b::m=>by
  have:=MX l m
  unfold Lib.compareBytes
  split
  ·omega
  ·split<;>omega
theorem TT (a b:ByteArray) (r:Int) (z:l4 a b=some r):hO Tryz.prog G E 262 [.v (.string a),.v (.string b)] [] (.v (.int .i64 r)) []:=by
 unfold l4 at z
 cases z
 have D:=MX a.data.toList b.data.toList
 refine hO.libV (vs:=[.string a,.string b]) (fn:=Tryz.f262) (by kernel_rfl) (by kernel_rfl) rfl ((iS .i64 _).2 (by simp[loK,hiK];omega)) fun w H=> ?_
 refine Calls.mono (Any.strings_Compare Go.Proofs.YtegmckcdakndaaaGreatDoor.Tryz.laysCompare a b w) ?_
 rintro e w' ⟨rfl,rfl⟩
 exact⟨rfl,Below.refl _ _⟩
theorem aOL (e:Cl G E) (fuel:Nat):DA Tryz.prog G E (aPt fuel):=fun v r z=>TT v.1 v.2 r z
def M5 (xs:List ByteArray) (sep:ByteArray):ByteArray:=⟨(Lib.join (xs.map (·.data.toList)) sep.data.toList).toArray⟩
def mF (xs:List ByteArray) (sep:ByteArray):Option ByteArray:=gd (xs.length<=140737488355328/\(M5 xs sep).size<=140737488355328) (some (M5 xs sep))
def o72 (fuel:Nat):wX:=⟨72,[none,none],[.row .str,.S],0,.one .S,fun v=>mF v.1 v.2⟩
theorem V1:Go.Proofs.Builder.Extra Tryz.prog Go.Proofs.YtegmckcdakndaaaGreatDoor.Tryz.laysJoin_ren where
 sizeBuilder:=by kernel_rfl
 liesBuilder:=by kernel_rfl
 t5:=Tryz.underlying5
 a5:=Tryz.isAgg5
 z5:=Tryz.sizeOf5
 v5:=Tryz.zeroValue5
 infoByte:=by kernel_rfl
 cellsByte:=by kernel_rfl
 sizeByte:=by kernel_rfl
 neB5:=by decide
set_option maxRecDepth 100000 in
theorem aCY (l:List ByteArray) (sep r:ByteArray) (W:mF l sep=some r):hO Tryz.prog G E 72 [.row false .str l,.v (.string sep)] [] (.v (.string r)) []:=by
 unfold mF at W
 obtain⟨⟨hn,I⟩,W⟩:=E9 W
 cases W
 refine⟨rfl,fun w S us locs La Le hG hE Y hl2 hnd hF0 hS D hext=> ?_⟩
 obtain rfl:locs=[]:=aR Y
 obtain rfl:Le=[]:=aR hl2
 match us,D with
 | [u1,u2],⟨L1,M1,e1,ha,L2,M2,e2,M,hc⟩=>
 obtain⟨ha1,_,R⟩:L1=[]/\false=false/\wY S w .str u1 l:=ha
 obtain⟨hb1,hb2,hws⟩:L2=[]/\u2= .string sep/\sD (.string sep):=M
 have hc:M2=[]:=hc
 subst hc hb1 hb2 ha1
 rw[cV]at e2
 subst e2
 rw[cV]at e1
 subst e1
 have H:Calls Tryz.prog 72 #[u1,.string sep] w fun e w'=>e= .returned (.string (M5 l sep))/\Below w.heap.size w w':=by
  obtain⟨a,cap,rfl,c1,c2,c3⟩:=R.open
  by_cases hx:l=[]
  ·subst hx
   refine(Any.strings_Join_none Go.Proofs.YtegmckcdakndaaaGreatDoor.Tryz.laysJoin V1 a cap sep w).mono ?_
   rintro e w' ⟨rfl,rfl⟩
   exact⟨rfl,Below.refl _ _⟩
  ·obtain⟨b,off,rfl,_,hct⟩:=c3 hx
   have z:∀(j:Nat) x,l[j]?=some x->w.cell? ⟨b,off+j,none⟩ = some (.string x):=fun j x H=>by
    obtain⟨u,hu,hv⟩:=hct j x H 0 (.sc (.string x)) rfl
    have hv:u= .string x:=hv.1
    subst hv
    have e:j*size K.str+0=j:=by show j*1+0=j;omega
    rw[<-e]
    exact hu
   obtain⟨x,hx0⟩:∃x,l[0]?=some x:=⟨l[0]'(List.length_pos_iff.2 hx),by simp⟩
   refine(Any.strings_Join Go.Proofs.YtegmckcdakndaaaGreatDoor.Tryz.laysJoin V1 b off cap l sep w z (World.block_lt_of_cell? w _ (z 0 x hx0)) hn c1 (by simpa [M5,ByteArray.size]using I)).mono ?_
   rintro e w' ⟨rfl,M⟩
   exact⟨rfl,M⟩
 refine jQ.of (fn:=Tryz.f72) (by kernel_rfl) (by kernel_rfl) rfl (Calls.mono H ?_)
 rintro e w' ⟨rfl,h1,h2,h3,h4,h5⟩
 exact⟨.string (M5 l sep),[],[],rfl,rfl,by simp,by simp,⟨rfl,rfl,by show(M5 l sep).size<=9223372036854775807;omega⟩,fun j p cs L H=>by simp at H,⟨h1,h2,h3,h4,fun b M _=>h5 b M,fun j b off n H=>by simp at H⟩⟩
theorem c72 (e:Cl G E) (fuel:Nat):DA Tryz.prog G E (o72 fuel):=fun v r z=>aCY v.1 v.2 r z
def mE (n:Int):Option ByteArray:=gd (0<=n/\n<=4294967295) (some ⟨(Lib.decDigits n.toNat).toArray⟩)
def aPp (fuel:Nat):wX:=⟨140,[none],[.I .i64],0,.one .S,fun v=>mE v⟩
theorem K7 {u:Nat} (h:u<10):Lib.decDigits u=[UInt8.ofNat (48+u)]:=by rw[Lib.decDigits,dif_pos h]
theorem aD0 {u:Nat} (h:¬u<10):Lib.decDigits u=Lib.decDigits (u / 10)++ [UInt8.ofNat (48+u % 10)]:=by rw[Lib.decDigits,dif_neg h]
theorem I8:∀(k u:Nat),u<10 ^ (k+1)->(Lib.decDigits u).length<=k+1
 | 0,u,h=>by rw[K7 (by omega)];simp
 | k+1,u,h=>by
  by_cases e:u<10
  ·rw[K7 e];simp
  ·rw[aD0 e]
   have:=I8 k (u / 10) (by rw[Nat.pow_succ]at h;omega)
   simp;omega
theorem aCX (D:Cl G E) (v:Int) (r:ByteArray) (z:mE v=some r):hO Tryz.prog G E 140 [.v (.int .i64 v)] [] (.v (.string r)) []:=by
 unfold mE at z
 obtain⟨⟨M,R⟩,z⟩:=E9 z
 cases z
 have W:(Lib.decDigits v.toNat).length<=10:=I8 9 _ (by omega)
 refine hO.libV (vs:=[.int .i64 v]) (x:= .string ⟨(Lib.decDigits v.toNat).toArray⟩) (fn:=Tryz.f140) (by kernel_rfl) (by kernel_rfl) rfl (by show(Lib.decDigits v.toNat).toArray.size<=_;simp;omega) fun w H=> ?_
 refine Calls.mono (Any.strconv_Itoa Go.Proofs.YtegmckcdakndaaaGreatDoor.Tryz.laysItoa v (by omega) (by omega) w (D.tab w H)) ?_
 rintro e w' ⟨rfl,k,os,rfl⟩
 refine⟨by simp[Lib.itoa,show¬v<0 from by omega],⟨rfl,rfl,rfl,by simp,fun b I=>Sort.heap_grow_old (w.drewN k) os I⟩⟩
theorem aNA (e:Cl G E) (fuel:Nat):DA Tryz.prog G E (aPp fuel):=fun v r z=>aCX e v r z
end
open Go.Lib
theorem aDY {P:Program} (w:World) (dT sT ty elem:TypeId) (z b o dLen dCap:Nat) (a:Addr) (sLen sCap:Nat) (cs:List Value)
  (M:P.underlying dT=some (.slice elem)) (I:(P.info? elem).map (·.size)=some z) (R:cs.length=Nat.min sLen dLen*z)
  (e:∀j v,cs[j]?=some v->w.cell? (a.add j)=some v) (W:∀j,j<cs.length->(w.cell? ⟨b,o+j,none⟩).isSome=true) (Y:∀j,j<cs.length->w.frozen? ⟨b,o+j,none⟩ = false) (h1:∀v∈cs,v.oneCell'=true) :
  (Builtin.copy_ #[dT,sT] ty #[.slice (some ⟨b,o,none⟩) dLen dCap,.slice (some a) sLen sCap]).run P w= .ok (goInt (Nat.min sLen dLen)) (w.setCells b o cs):=by
 have hl:=run_loadCells_list (P:=P) w a cs e
 have D:=run_storeCells_cells (P:=P) b o cs 0 w (by simpa using W) (by simpa using Y) h1
 cases H:P.info? elem with
 | none=>simp[H]at I
 | some i=>
  have hi:i.size=z:=by simpa [H]using I
  simp[Builtin.copy_,run_underlying M,Builtin.lenOf,Builtin.firstCells,sizeOf,typeInfo,H,hi,<-R,hl,D]
open Go.RowKit Go.Proofs Go.Lib
theorem aJh:Tryz.prog.follows .mixedOrders=true:=by kernel_rfl
theorem QB:(Tryz.prog.info? 200).map (·.size)=some 2:=by kernel_rfl
theorem QC:∀w,(Go.sizeOf 200).run Tryz.prog w= .ok 2 w:=fun w=>by
 have h:=QB
 cases e:Tryz.prog.info? 200 with
 | none=>rw[e]at h;cases h
 | some i=>
  rw[e]at h
  have z:i.size=2:=by simpa using h
  simp[Go.sizeOf,typeInfo,e,z]
set_option maxHeartbeats 4000000 in
set_option maxRecDepth 100000 in
theorem aFg (b n c i vb m vc:Nat) (cs vs:List Value) (w:World) (hi:i<n) (hm:0<m) (hroom:n+m<=c) (hc63:c<=9223372036854775807) (R:vb≠b)
  (hcl:cs.length=n*2) (hvl:vs.length=m*2)
  (hcs:∀j v,cs[j]?=some v->w.cell? ⟨b,j,none⟩ = some v) (M:∀j,j<(n+m)*2->(w.cell? ⟨b,j,none⟩).isSome=true) (Y:∀j,j<(n+m)*2->w.frozen? ⟨b,j,none⟩ = false)
  (hvs:∀j v,vs[j]?=some v->w.cell? ⟨vb,j,none⟩ = some v) (h1c:∀v∈cs,v.oneCell'=true) (h1v:∀v∈vs,v.oneCell'=true)
  (tA tB:TypeId) (kA kB:Nat) (hsa:w.shape? vb=some (tA,kA)) (hsb:w.shape? b=some (tB,kB)) (hkB:kB≠0) (hfa:w.frozen? ⟨vb,0,none⟩ = false) (hfe:w.frozen? ⟨vb,kA,none⟩ = false) :
  Calls Tryz.prog 263 #[.slice (some ⟨b,0,none⟩) n c,.int .i64 i,.slice (some ⟨vb,0,none⟩) m vc] w fun e w'=>
   e= .returned (.slice (some ⟨b,0,none⟩) (n+m) c)/\w'=(w.drew.setCells b ((i+m)*2) (cs.drop (i*2))).setCells b (i*2) vs:=by
 have u0:=run_underlying Tryz.underlying3;have u24:=run_underlying Tryz.underlying49
 have hz1:¬((m:Int)=0):=by omega
 have hz2:¬((i:Int)=(n:Int)):=by omega
 have hsz:=QB
 have hz:=QC
 have hov:∀lb cb,(callFunc 307 #[.slice (some ⟨vb,0,none⟩) m vc,.slice (some ⟨b,(i+m)*2,none⟩) lb cb]).run Tryz.prog w= .ok (.value (.bool false)) w:=fun lb cb=>by
  rw[run_callFunc_extern Tryz.func307 (by kernel_rfl) (by kernel_rfl) (by kernel_rfl) (e:=Extern.SlicesOverlaps.overlaps #[49,49] #[4]) (by kernel_rfl),
   Lib.run_overlaps_apart w 49 4 200 Tryz.underlying49 2 QC ⟨vb,0,none⟩ ⟨b,(i+m)*2,none⟩ m vc lb cb R tA tB kA kB hsa hsb hkB hfa hfe]
  rfl
 have hdl:(cs.drop (i*2)).length=(n-i)*2:=by rw[cA,hcl];omega
 have hw1:IntKind.i64.wrap ((i:Int)+(m:Int))=(i:Int)+(m:Int):=by rw[IntKind.wrap_i64];omega
 have hb1:(0:Int)<=(i:Int)+(m:Int):=by omega
 have hin:i<=n:=by omega
 have htn:((i:Int)+(m:Int)).toNat=i+m:=by omega
 have hb2:¬(c=i+m):=by omega
 have hb3:(i:Int)<=(n:Int)+(m:Int):=by omega
 have hb4:¬(c=i):=by omega
 have I:∀ty dc sc,(Builtin.copy_ #[49,49] ty #[.slice (some ⟨b,(i+m)*2,none⟩) (n+m-(i+m)) dc,.slice (some ⟨b,i*2,none⟩) (n+m-i) sc]).run Tryz.prog w.drew= .ok (goInt ((n-i:Nat))) (w.drew.setCells b ((i+m)*2) (cs.drop (i*2))):=fun ty dc sc=>by
  have z:Nat.min (n+m-i) (n+m-(i+m))=n-i:=by simp only[Nat.min_def];split<;>omega
  have:=aDY (P:=Tryz.prog) w.drew 49 49 ty 200 2 b ((i+m)*2) (n+m-(i+m)) dc ⟨b,i*2,none⟩ (n+m-i) sc (cs.drop (i*2)) Tryz.underlying49 hsz (by rw[hdl,z])
   (fun j v H=>by rw[Addr.add_lit];exact hcs (i*2+j) v (by rwa[bK]at H))
   (fun j H=>M _ (by omega)) (fun j H=>Y _ (by omega)) (fun v hv=>h1c v (List.mem_of_mem_drop hv))
  rw[z]at this
  exact this
 obtain⟨W1,D⟩:∃W1,W1=w.drew.setCells b ((i+m)*2) (cs.drop (i*2)):=⟨_,rfl⟩
 have hsp1:∀k,k<(n+m)*2->(W1.cell? ⟨b,k,none⟩).isSome=true:=fun k hk=>by
  rw[D]
  exact isSome_setCells b (cs.drop (i*2)) ((i+m)*2) w.drew (fun j H=>M _ (by rw[hdl]at H;omega)) _ (M k hk)
 have hcp2:∀(W:World),(∀x,W.cell? x=W1.cell? x)->(∀x,W.frozen? x=W1.frozen? x)->∀ty dc,(Builtin.copy_ #[49,49] ty #[.slice (some ⟨b,i*2,none⟩) (n+m-i) dc,.slice (some ⟨vb,0,none⟩) m vc]).run Tryz.prog W= .ok (goInt m) (W.setCells b (i*2) vs):=fun W hWc hWf ty dc=>by
  have z:Nat.min m (n+m-i)=m:=by simp only[Nat.min_def];split<;>omega
  have:=aDY (P:=Tryz.prog) W 49 49 ty 200 2 b (i*2) (n+m-i) dc ⟨vb,0,none⟩ m vc vs Tryz.underlying49 hsz (by rw[hvl,z])
   (fun j v H=>by
    rw[Addr.add_lit,hWc,D,World.cell?_setCells_out b _ _ _ _ (fun h _=>absurd h R),bP]
    exact hvs j v H)
   (fun j H=>by rw[hWc];exact hsp1 _ (by omega)) (fun j H=>by rw[hWf,D,World.frozen?_setCells];exact Y _ (by omega)) h1v
  rw[z]at this
  exact this
 rw[<-D]at I
 have mixed:=aJh
 go_enter Tryz.func263,Tryz.ntmps263
 go_wp2_with (simp only[hov])
 go_region_law_o (refine step_copy_runI rfl _ _ 49 49 rfl _ _ (by simp[Act.eval,Act.put]) (by simp[Act.eval,Act.put]) (I _ _ _) ?_)
 go_wp2_with (at_builtin;refine wpList_copy_runI _ rfl _ _ 49 49 rfl _ _ rfl rfl (hcp2 _ (fun _=>rfl) (fun _=>rfl) _ _) ?_)
 go_ret
 first|exact⟨rfl,rfl⟩ | exact⟨rfl,by rw[D]⟩
open Go.RowKit Go.Proofs Go.Lib Go.Shelf
def A6:Value:= .agg #[.string ⟨#[]⟩,.int .i64 0]
theorem LH:(Tryz.prog.info? 200).map (fun i=>(i.zero,i.size,i.bytes))=some (some A6,2,24):=by kernel_rfl
set_option maxHeartbeats 4000000 in
set_option maxRecDepth 100000 in
theorem aHr (b n c i vb m vc:Nat) (cs vs:List Value) (w:World) (hi:i<n) (hm:0<m) (hnc:n<=c) (hroom:c<n+m) (hbig:(n+m)*24<=140737488355328)
  (hcl:cs.length=n*2) (hvl:vs.length=m*2)
  (hcs:∀j v,cs[j]?=some v->w.cell? ⟨b,j,none⟩ = some v)
  (hvs:∀j v,vs[j]?=some v->w.cell? ⟨vb,j,none⟩ = some v) (h1c:∀v∈cs,v.oneCell'=true) (h1v:∀v∈vs,v.oneCell'=true) :
  Calls Tryz.prog 263 #[.slice (some ⟨b,0,none⟩) n c,.int .i64 i,.slice (some ⟨vb,0,none⟩) m vc] w fun e w'=>
   e= .returned (.slice (some ⟨w.heap.size,0,none⟩) (n+m) (grownCap w (n+m) c 200))/\
   w'=(((w.alloc (.cells ((cs.take (i*2)).toArray++Builtin.zeroCells A6.cells (n+m-i)++Builtin.zeroCells A6.cells (grownCap w (n+m) c 200-(n+m))) 200)).drew.setCells w.heap.size (i*2) vs).drew).setCells w.heap.size ((i+m)*2) (cs.drop (i*2)):=by
 have u0:=run_underlying Tryz.underlying3;have u24:=run_underlying Tryz.underlying49
 have mixed:=aJh
 obtain⟨i0,hi0,hz0,hzs,hzb⟩:=info_parts LH
 have hz1:¬((m:Int)=0):=by omega
 have hz2:¬((i:Int)=(n:Int)):=by omega
 have hz3:(c:Int)<(n:Int)+(m:Int):=by omega
 have hsz:=QB
 have hz:=QC
 have hbw:b<w.heap.size:=block_lt_of_cell (hcs 0 _ (iD (by omega)))
 have hvw:vb<w.heap.size:=block_lt_of_cell (hvs 0 _ (iD (by omega)))
 have hkk:(n:Int)+(m:Int)-(i:Int)=((n+m-i:Nat):Int):=by omega
 have hik:i+(n+m-i)=n+m:=by omega
 have hold:(Builtin.firstCells i0.size i (.slice (some ⟨b,0,none⟩) i c)).run Tryz.prog w.drew= .ok (cs.take (i*2)).toArray w.drew:=by
  rw[hzs]
  exact run_firstCells_some w.drew 2 i ⟨b,0,none⟩ i c (cs.take (i*2)) (by rw[aF];omega) (fun j v z=>by
   rw[Addr.add_lit,bP]
   rw[aU]at z
   split at z
   ·exact hcs j v z
   ·cases z)
 have R:∀ty,(Builtin.append_ #[49,3] ty #[.slice (some ⟨b,0,none⟩) i c,.int .i64 ((n:Int)+(m:Int)-(i:Int))]).run Tryz.prog w =
   .ok (.slice (some ⟨w.heap.size,0,none⟩) (n+m) (grownCap w (n+m) c 200)) (w.drew.alloc (.cells ((cs.take (i*2)).toArray++Builtin.zeroCells A6.cells (n+m-i)++Builtin.zeroCells A6.cells (grownCap w (n+m) c 200-(n+m))) 200)):=fun ty=>by
  have h:=Lib.run_append_grow_zeros w 49 3 ty 200 i0 _ .i64 .i64 Tryz.underlying49 Tryz.underlying3 hi0 hz0 (some ⟨b,0,none⟩) i c (cs.take (i*2)) hold (n+m-i) (by omega) (by omega) (by omega) (by omega) (by rw[hzb];omega) (by rw[hzb,hik];exact growslice_fits hroom hbig)
  rw[hik]at h
  rw[hkk]
  exact h
 obtain⟨G,hG⟩:∃G,G=grownCap w (n+m) c 200:=⟨_,rfl⟩
 obtain⟨ROW,H⟩:∃ROW:Array Value,ROW=(cs.take (i*2)).toArray++Builtin.zeroCells A6.cells (n+m-i)++Builtin.zeroCells A6.cells (G-(n+m)):=⟨_,rfl⟩
 rw[<-hG]at R⊢
 rw[<-H]at R⊢
 have hRl:(n+m)*2<=ROW.size:=by
  rw[H]
  simp[Builtin.zeroCells,Value.cells,A6]
  omega
 obtain⟨W1,D⟩:∃W1,W1=w.drew.alloc (.cells ROW 200):=⟨_,rfl⟩
 rw[<-D]at R
 have hN:∀j,j<(n+m)*2->(W1.cell? ⟨w.heap.size,j,none⟩).isSome=true:=fun j z=>by
  rw[D,World.cell?_alloc_at (w:=w.drew) ROW _ w.heap.size j rfl,gN (by omega)];rfl
 have hNf:∀j,W1.frozen? ⟨w.heap.size,j,none⟩ = false:=fun j=>by rw[D];exact World.frozen?_alloc_at (w:=w.drew) ROW _ w.heap.size j rfl
 have hOb:∀j v,w.cell? ⟨b,j,none⟩ = some v->W1.cell? ⟨b,j,none⟩ = some v:=fun j v h=>by rw[D,World.cell?_alloc_past (w:=w.drew) _ b j hbw];exact h
 have hOv:∀j v,w.cell? ⟨vb,j,none⟩ = some v->W1.cell? ⟨vb,j,none⟩ = some v:=fun j v h=>by rw[D,World.cell?_alloc_past (w:=w.drew) _ vb j hvw];exact h
 have hcpA:∀(W:World),(∀x,W.cell? x=W1.cell? x)->(∀x,W.frozen? x=W1.frozen? x)->∀ty dc,(Builtin.copy_ #[49,49] ty #[.slice (some ⟨w.heap.size,i*2,none⟩) (n+m-i) dc,.slice (some ⟨vb,0,none⟩) m vc]).run Tryz.prog W= .ok (goInt m) (W.setCells w.heap.size (i*2) vs):=fun W I hWf ty dc=>by
  have M:Nat.min m (n+m-i)=m:=by simp only[Nat.min_def];split<;>omega
  have:=aDY (P:=Tryz.prog) W 49 49 ty 200 2 w.heap.size (i*2) (n+m-i) dc ⟨vb,0,none⟩ m vc vs Tryz.underlying49 hsz (by rw[hvl,M])
   (fun j v z=>by rw[Addr.add_lit,I,bP];exact hOv _ v (hvs j v z))
   (fun j z=>by rw[I];exact hN _ (by omega)) (fun j z=>by rw[hWf];exact hNf _) h1v
  rw[M]at this
  exact this
 have hGn:n+m<=G:=by rw[hG];exact grownCap_ge w _ _ _
 have hG63:G<=9223372036854775807:=by
  have:=grownCap_le_maxLen w (n+m) c 200 (by unfold maxLen;omega)
  rw[<-hG]at this
  unfold maxLen at this
  omega
 have hGi:¬(G=i):=by omega
 have hGim:¬(G=i+m):=by omega
 have hci:¬(c=i):=by omega
 have hbN:b≠w.heap.size:=by omega
 have hdl:(cs.drop (i*2)).length=(n-i)*2:=by rw[cA,hcl];omega
 have Y:∀(W:World),(∀x,W.cell? x=(W1.setCells w.heap.size (i*2) vs).cell? x)->(∀x,W.frozen? x=(W1.setCells w.heap.size (i*2) vs).frozen? x)->∀ty dc sc,(Builtin.copy_ #[49,49] ty #[.slice (some ⟨w.heap.size,(i+m)*2,none⟩) (n+m-(i+m)) dc,.slice (some ⟨b,i*2,none⟩) (n-i) sc]).run Tryz.prog W= .ok (goInt ((n-i:Nat))) (W.setCells w.heap.size ((i+m)*2) (cs.drop (i*2))):=fun W I hWf ty dc sc=>by
  have M:Nat.min (n-i) (n+m-(i+m))=n-i:=by simp only[Nat.min_def];split<;>omega
  have:=aDY (P:=Tryz.prog) W 49 49 ty 200 2 w.heap.size ((i+m)*2) (n+m-(i+m)) dc ⟨b,i*2,none⟩ (n-i) sc (cs.drop (i*2)) Tryz.underlying49 hsz (by rw[hdl,M])
   (fun j v z=>by
    rw[Addr.add_lit,I,World.cell?_setCells_out _ _ _ _ _ (fun h _=>absurd h hbN)]
    exact hOb _ v (hcs (i*2+j) v (by rwa[bK]at z)))
   (fun j z=>by rw[I];exact isSome_setCells _ vs (i*2) W1 (fun t ht=>hN _ (by omega)) _ (hN _ (by omega)))
   (fun j z=>by rw[hWf,World.frozen?_setCells];exact hNf _) (fun v hv=>h1c v (List.mem_of_mem_drop hv))
  rw[M]at this
  exact this
 subst D
 have hE1:∀x,((w.alloc (.cells ROW 200)).drew).cell? x=(w.drew.alloc (.cells ROW 200)).cell? x:=fun x=>rfl
 have hE2:∀x,((w.alloc (.cells ROW 200)).drew).frozen? x=(w.drew.alloc (.cells ROW 200)).frozen? x:=fun x=>rfl
 have hF1:∀x,(((w.alloc (.cells ROW 200)).drew.setCells w.heap.size (i*2) vs).drew).cell? x=((w.drew.alloc (.cells ROW 200)).setCells w.heap.size (i*2) vs).cell? x:=fun x=>rfl
 have hF2:∀x,(((w.alloc (.cells ROW 200)).drew.setCells w.heap.size (i*2) vs).drew).frozen? x=((w.drew.alloc (.cells ROW 200)).setCells w.heap.size (i*2) vs).frozen? x:=fun x=>rfl
 have hw1:IntKind.i64.wrap ((i:Int)+(m:Int))=(i:Int)+(m:Int):=by rw[IntKind.wrap_i64];omega
 have hb1:(0:Int)<=(i:Int)+(m:Int):=by omega
 have hin:i<=n:=by omega
 have htn:((i:Int)+(m:Int)).toNat=i+m:=by omega
 have hb3:(i:Int)<=(n:Int):=by omega
 clear hkk hik hold H hG hRl
 go_enter Tryz.func263,Tryz.ntmps263
 go_wp2_with (first
  | (at_builtin;refine Lib.wpList_append_run _ rfl _ _ _ _ rfl _ _ rfl rfl _ _ (R _) ?_)
  | (at_builtin;refine wpList_copy_runI _ rfl _ _ 49 49 rfl _ _ rfl rfl (hcpA _ hE1 hE2 _ _) ?_)
  | (at_builtin;refine wpList_copy_runI _ rfl _ _ 49 49 rfl _ _ rfl rfl (Y _ (fun _=>rfl) (fun _=>rfl) _ _ _) ?_))
 go_region_law_o (refine step_copy_runI rfl _ _ 49 49 rfl (.slice (some ⟨w.heap.size,(i+m)*2,none⟩) (n+m-(i+m)) (G-(i+m))) (.slice (some ⟨b,i*2,none⟩) (n-i) (c-i)) (by simp[Act.eval,Act.put]) (by simp[Act.eval,Act.put]) (Y _ hF1 hF2 3 (G-(i+m)) (c-i)) ?_)
 go_wp2
 go_ret
 exact⟨rfl,rfl⟩
open Go.RowKit Go.Proofs Go.Lib Go.Shelf
set_option maxHeartbeats 4000000 in
set_option maxRecDepth 100000 in
theorem X7 (b n c vb m vc:Nat) (vs:List Value) (w:World) (hm:0<m) (D:n+m<=c) (hc63:c<=9223372036854775807)
  (H:vs.length=m*2) (R:∀j,j<m*2->(w.cell? ⟨b,n*2+j,none⟩).isSome=true) (W:∀j,j<m*2->w.frozen? ⟨b,n*2+j,none⟩ = false)
  (Y:∀j v,vs[j]?=some v->w.cell? ⟨vb,j,none⟩ = some v) (h1v:∀v∈vs,v.oneCell'=true) :
  Calls Tryz.prog 263 #[.slice (some ⟨b,0,none⟩) n c,.int .i64 n,.slice (some ⟨vb,0,none⟩) m vc] w fun e w'=>
   e= .returned (.slice (some ⟨b,0,none⟩) (n+m) c)/\w'=w.setCells b (n*2) vs:=by
 have u0:=run_underlying Tryz.underlying3;have u24:=run_underlying Tryz.underlying49
 have mixed:=aJh
 obtain⟨i0,hi0,hz0,I,hzb⟩:=info_parts LH
 have hz1:¬((m:Int)=0):=by omega
 have M:Src Tryz.prog i0.size 49 (.slice (some ⟨vb,0,none⟩) m vc) m vs w:=by
  rw[I]
  exact Src.ofSlice w Tryz.underlying49 ⟨vb,0,none⟩ m vc vs (by omega) (fun j u hj=>by rw[Addr.add_lit,bP];exact Y j u hj) h1v
 have z:0+n*i0.size=n*2:=by rw[I];omega
 go_enter Tryz.func263,Tryz.ntmps263
 go_wp2_with (at_builtin;refine wpList_append_room_src _ rfl _ _ 49 49 rfl 200 i0 Tryz.underlying49 hi0 b 0 n c rfl _ rfl m vs M D (by rw[H,z];exact R) (by rw[H,z];exact W) ?_)
 go_ret
 first|exact⟨rfl,rfl⟩ | exact⟨rfl,by rw[z]⟩
set_option maxHeartbeats 4000000 in
set_option maxRecDepth 100000 in
theorem JI (base:Option Addr) (n c vb m vc:Nat) (cs vs:List Value) (w:World) (hm:0<m) (hnc:n<=c) (z:c<n+m) (I:(n+m)*24<=140737488355328)
  (hcl:cs.length=n*2) (hvl:vs.length=m*2) (D:base=none->n=0)
  (W:∀a,base=some a->∀j v,cs[j]?=some v->w.cell? (a.add j)=some v)
  (Y:∀j v,vs[j]?=some v->w.cell? ⟨vb,j,none⟩ = some v) (h1v:∀v∈vs,v.oneCell'=true) :
  Calls Tryz.prog 263 #[.slice base n c,.int .i64 n,.slice (some ⟨vb,0,none⟩) m vc] w fun e w'=>
   e= .returned (.slice (some ⟨w.heap.size,0,none⟩) (n+m) (grownCap w (n+m) c 200))/\
   w'=w.drew.alloc (.cells ((cs++vs).toArray++Builtin.zeroCells A6.cells (grownCap w (n+m) c 200-(n+m))) 200):=by
 have u0:=run_underlying Tryz.underlying3;have u24:=run_underlying Tryz.underlying49
 have mixed:=aJh
 obtain⟨i0,hi0,hz0,M,hzb⟩:=info_parts LH
 have hz1:¬((m:Int)=0):=by omega
 have R:Src Tryz.prog i0.size 49 (.slice (some ⟨vb,0,none⟩) m vc) m vs w:=by
  rw[M]
  exact Src.ofSlice w Tryz.underlying49 ⟨vb,0,none⟩ m vc vs (by omega) (fun j u hj=>by rw[Addr.add_lit,bP];exact Y j u hj) h1v
 have hold:(Builtin.firstCells i0.size n (.slice base n c)).run Tryz.prog w.drew= .ok cs.toArray w.drew:=by
  rw[M]
  cases base with
  | none=>
   have h0:=D rfl
   subst h0
   rw[List.length_eq_zero_iff.1 (show cs.length=0 by omega)]
   exact run_firstCells_none w.drew 2 0 0 c
  | some a=>exact run_firstCells_some w.drew 2 n a n c cs (by omega) (fun j v hj=>W a rfl j v hj)
 have H:∀ty,(Builtin.append_ #[49,49] ty #[.slice base n c,.slice (some ⟨vb,0,none⟩) m vc]).run Tryz.prog w=_:=fun ty=>
  run_append_grow_src w 49 49 ty 200 i0 _ Tryz.underlying49 hi0 hz0 base n c cs hold _ m vs R z (by omega) (by rw[hzb];exact growslice_fits z I)
 go_enter Tryz.func263,Tryz.ntmps263
 cases base with
 | none=>
  have h0:=D rfl
  subst h0
  go_wp2_with (at_builtin;refine Lib.wpList_append_run _ rfl _ _ _ _ rfl _ _ rfl rfl _ _ (H _) ?_)
  go_ret
  exact⟨rfl,rfl⟩
 | some a=>
  obtain⟨ab,ao,asp⟩:=a
  go_wp2_with (at_builtin;refine Lib.wpList_append_run _ rfl _ _ _ _ rfl _ _ rfl rfl _ _ (H _) ?_)
  all_goals (go_ret;exact⟨rfl,rfl⟩)
open Go.RowKit
theorem X6 (g o:Nat) (v:Value) {cur:Array Value} {E:TypeId} {fz:Nat×Nat} (h:w.heap[g]?=some (.cells cur E fz)):(w.setCell ⟨g,o,none⟩ v).heap[g]?=some (.cells (cur.setIfInBounds o v) E fz):=by
 unfold World.setCell
 show(w.heap.modify g _)[g]?=_
 rw[Array.getElem?_modify,if_pos rfl,h]
 rfl
theorem mO (g:Nat):∀(vs:List Value) (o:Nat) {w:World} {cur:Array Value} {E:TypeId} {fz:Nat×Nat},w.heap[g]?=some (.cells cur E fz)->o+vs.length<=cur.size->
  ∃cur',(w.setCells g o vs).heap[g]?=some (.cells cur' E fz)/\cur'.size=cur.size/\(∀j,j<vs.length->cur'[o+j]?=vs[j]?)/\∀j,j<o∨o+vs.length<=j->cur'[j]?=cur[j]?
 | [],o,w,cur,E,fz,h,_=>⟨cur,h,rfl,fun j e=>by simp at e,fun _ _=>rfl⟩
 | v::vs,o,w,cur,E,fz,h,z=>by
  have z:o+(vs.length+1)<=cur.size:=z
  obtain⟨cur',I,D,M,H⟩:=mO g vs (o+1) (X6 g o v h) (by rw[Array.size_setIfInBounds];omega)
  rw[Array.size_setIfInBounds]at D
  refine⟨cur',I,D,fun j e=> ?_,fun j e=> ?_⟩
  ·cases j with
   | zero=>
    rw[eY,H o (by omega),Array.getElem?_setIfInBounds,if_pos rfl,if_pos (by omega)]
    rfl
   | succ j=>
    have:=M j (by simpa using e)
    rw[show o+1+j=o+(j+1) by omega]at this
    rw[this]
    rfl
  ·have e:j<o∨o+(vs.length+1)<=j:=e
   rw[H j (by omega),Array.getElem?_setIfInBounds,if_neg (by omega)]
theorem pW (g:Nat):∀(vs:List Value) (o:Nat) (w:World),(w.setCells g o vs).os=w.os/\(w.setCells g o vs).tape=w.tape/\(w.setCells g o vs).output=w.output/\(w.setCells g o vs).heap.size=w.heap.size/\∀b,b≠g->(w.setCells g o vs).heap[b]?=w.heap[b]?
 | [],_,_=>⟨rfl,rfl,rfl,rfl,fun _ _=>rfl⟩
 | v::vs,o,w=>by
  obtain⟨D,H,I,M,R⟩:=pW g vs (o+1) (w.setCell ⟨g,o,none⟩ v)
  refine⟨D,H,I,M.trans (by simp[World.setCell]),fun b z=>(R b z).trans ?_⟩
  show(w.heap.modify g _)[b]?=_
  rw[Array.getElem?_modify,if_neg (fun e=>z e.symm)]
open Go.RowKit Go.Proofs
def XF (x:aT):List Value:=[.string x.Name,.int .i64 x.Id]
def dV (l:List aT):List Value:=l.flatMap XF
theorem E8:∀(l:List aT),(dV l).length=l.length*2
 | []=>rfl
 | x::l=>by
  have:dV (x::l)=XF x++dV l:=rfl
  rw[this,aW,E8 l,cL]
  simp[XF]
  omega
theorem JC (a b:List aT):dV (a++b)=dV a++dV b:=cH
theorem P4:∀(l:List aT) (i:Nat),dV (l.take i)=(dV l).take (i*2)
 | [],i=>by simp[dV]
 | x::l,0=>by simp[dV]
 | x::l,i+1=>by
  have e:dV (x::l)= .string x.Name:: .int .i64 x.Id::dV l:=rfl
  have z:dV (x::l.take i)= .string x.Name:: .int .i64 x.Id::dV (l.take i):=rfl
  rw[List.take_succ_cons,e,z,P4 l i,show(i+1)*2=i*2+1+1 by omega]
  rfl
theorem HI:∀(l:List aT) (i:Nat),dV (l.drop i)=(dV l).drop (i*2)
 | [],i=>by simp[dV]
 | x::l,0=>by simp
 | x::l,i+1=>by
  have e:dV (x::l)= .string x.Name:: .int .i64 x.Id::dV l:=rfl
  rw[List.drop_succ_cons,e,HI l i,show(i+1)*2=i*2+1+1 by omega]
  rfl
theorem sH (l:List aT):∀v∈dV l,v.oneCell'=true:=fun v z=>by
 obtain⟨x,_,e⟩:=List.mem_flatMap.1 z
 simp only[XF,dS,List.not_mem_nil,or_false]at e
 rcases e with rfl|rfl<;>rfl
theorem V3 {l:List aT} {i:Nat} {x:aT} (h:l[i]?=some x):(dV l)[i*2]?=some (.string x.Name)/\(dV l)[i*2+1]?=some (.int .i64 x.Id):=by
 have e:dV (l.drop i)= .string x.Name:: .int .i64 x.Id::dV (l.drop (i+1)):=by
  rw[List.drop_eq_getElem_cons (iR.1 h).1]
  rw[(iR.1 h).2]
  rfl
 rw[HI]at e
 have z:((dV l).drop (i*2))[0]?=some (.string x.Name):=by rw[e];rfl
 have D:((dV l).drop (i*2))[1]?=some (.int .i64 x.Id):=by rw[e];rfl
 rw[bK]at z D
 exact⟨z,D⟩
def wfL (x:aT):Prop:=sD (.string x.Name)/\sD (.int .i64 x.Id)
theorem VT {l:List aT} {f:Nat->Option Value} (h:vR S w (k:= .iLink) l f):(∀(j:Nat) (u:Value),(dV l)[j]?=some u->f j=some u)/\∀x∈l,wfL x:=by
 have key:∀i x,l[i]?=some x->(f (i*2)=some (.string x.Name)/\f (i*2+1)=some (.int .i64 x.Id))/\wfL x:=fun i x z=>by
  obtain⟨u,hu,e,w1⟩:=h i x z 0 (.sc (.string x.Name)) rfl
  obtain⟨u',D,e',w2⟩:=h i x z 1 (.sc (.int .i64 x.Id)) rfl
  subst e e'
  exact⟨⟨hu,D⟩,w1,w2⟩
 refine⟨fun j u H=> ?_,fun x z=> ?_⟩
 ·have hl:=(iR.1 H).1
  rw[E8]at hl
  have I:j / 2<l.length:=by omega
  have z:=iD I
  obtain⟨M,R⟩:=V3 z
  obtain⟨⟨W,Y⟩,_⟩:=key _ _ z
  rcases Nat.mod_two_eq_zero_or_one j with e|e
  ·have e:j / 2*2=j:=by omega
   rw[e]at M W
   rw[<-H,M,W]
  ·have e:j / 2*2+1=j:=by omega
   rw[e]at R Y
   rw[<-H,R,Y]
 ·obtain⟨i,I⟩:=bD z
  exact(key i x I).2
theorem aHO {g cap:Nat} {r:List aT} {cur:Array Value} {fz:Nat×Nat} (h:w.heap[g]?=some (.cells cur 200 fz)) (I:VB 200 cur.size fz) (M:r.length<=cap) (z:cap<=maxLen) (R:cur.size=cap*2) (D:∀(j:Nat) (u:Value),(dV r)[j]?=some u->cur[j]?=some u) (W:∀x∈r,wfL x):G6 S w .iLink (.slice (some ⟨g,0,none⟩) r.length cap) r [g]:=by
 refine .inr ⟨g,cap,cur,rfl,rfl,?_,⟨fz,h,I⟩,M,z,R,fun i x H j lf e=> ?_⟩
 ·unfold maxLen at z;omega
 ·obtain⟨Y,h2⟩:=V3 H
  obtain⟨w1,w2⟩:=W x (tF H)
  match j,e with
  | 0,e=>
   obtain rfl:d4.sc (.string x.Name)=lf:=Option.some.inj e
   exact⟨_,D _ _ Y,rfl,w1⟩
  | 1,e=>
   obtain rfl:d4.sc (.int .i64 x.Id)=lf:=Option.some.inj e
   exact⟨_,D _ _ h2,rfl,w2⟩
  | j+2,e=>cases e
def iG (l:List aT) (i:Int) (x:List aT):Option (List aT):=gd (0<=i/\i<=l.length/\0<x.length/\(l.length+x.length)*24<=140737488355328) (some (l.take i.toNat++x++l.drop i.toNat))
open Go.RowKit Go.Proofs
theorem X8 {a x:List Value} {p:Nat} (D:p<=a.length) {j:Nat} {u:Value} (h:(a.take p++x++a.drop p)[j]?=some u):(j<p/\a[j]?=some u)∨(∃t,j=p+t/\t<x.length/\x[t]?=some u)∨∃t,j=p+x.length+t/\t<(a.drop p).length/\(a.drop p)[t]?=some u:=by
 have e:(a.take p).length=p:=by rw[aF];omega
 by_cases z:j<p
 ·rw[aQ,bM (by omega),aU,if_pos z]at h
  exact .inl ⟨z,h⟩
 ·by_cases H:j<p+x.length
  ·rw[aQ,bI (by omega),bM (by omega),e]at h
   exact .inr (.inl ⟨j-p,by omega,by omega,h⟩)
  ·rw[bI (by rw[aW];omega),aW,e]at h
   exact .inr (.inr ⟨j-(p+x.length),by omega,(iR.1 h).1,h⟩)
theorem OZ (w:World) (o:Obj):(w.drew.alloc o).heap[w.heap.size]?=some o:=by
 show(w.heap.push o)[w.heap.size]?=some o
 simp
theorem O0 (w:World) (o:Obj):w.heap.size<=(w.drew.alloc o).heap.size:=by
 show w.heap.size<=(w.heap.push o).size
 rw[Array.size_push];omega
set_option maxHeartbeats 4000000 in
set_option maxRecDepth 100000 in
theorem X9 {E:World->Prop} (l x r:List aT) (i:Int) (hr:iG l i x=some r):hO Tryz.prog G E 263 [.row true .iLink l,.v (.int .i64 i),.row true .iLink x] [] (.row true .iLink r) []:=by
 unfold iG at hr
 obtain⟨⟨i0,i1,hm,hbig⟩,hr⟩:=E9 hr
 obtain⟨k,rfl⟩:∃k:Nat,i=k:=⟨i.toNat,by omega⟩
 rw[f0]at hr
 have hr:l.take k++x++l.drop k=r:=Option.some.inj hr
 have hkl:k<=l.length:=by omega
 have hrl:r.length=l.length+x.length:=by rw[<-hr];simp;omega
 have D:dV r=(dV l).take (k*2)++dV x++(dV l).drop (k*2):=by rw[<-hr,JC,JC,P4,HI]
 refine⟨rfl,fun w S us locs La Le hG hE hl1 hl2 hnd hF0 hS hargs hext=> ?_⟩
 obtain rfl:locs=[]:=aR hl1
 obtain rfl:Le=[]:=aR hl2
 match us,hargs with
 | [u1,u2,u3],⟨L1,M1,e1,H,L2,M2,e2,I,L3,M3,e3,h3,h4⟩=>
 have H:G6 S w .iLink u1 l L1:=H
 have h3:G6 S w .iLink u3 x L3:=h3
 have h4:M3=[]:=h4
 obtain⟨h2a,h2b,h2c⟩:L2=[]/\u2= .int .i64 k/\sD (.int .i64 k):=I
 subst h4 h2a h2b
 rw[bO]at e3
 rw[cV]at e2
 subst e3 e2 e1
 refine jQ.of (fn:=Tryz.f263) (by kernel_rfl) (by kernel_rfl) rfl ?_
 rcases h3 with⟨_,rfl,_⟩ |⟨vb,vc,cur2,rfl,rfl,v1,v2,v3,v4,v5,v6⟩
 ·simp at hm
 have v5:cur2.size=vc*2:=v5
 obtain⟨fx,hwx⟩:=VT v6
 have hvs:∀j v,(dV x)[j]?=some v->w.cell? ⟨vb,j,none⟩ = some v:=fun j v z=>(v2.cell j).trans (fx j v z)
 have R:=E8 x
 have hll:=E8 l
 have fin:∀(g cap':Nat) (ROW:Array Value) (fz:Nat×Nat) (w':World),(∀y∈l,wfL y)->w'.heap[g]?=some (.cells ROW 200 fz)->VB 200 ROW.size fz->r.length<=cap'->cap'<=maxLen->ROW.size=cap'*2->(∀(j:Nat) (u:Value),(dV r)[j]?=some u->ROW[j]?=some u)->(g∈L1++ [vb]∨w.heap.size<=g)->w'.os=w.os->w'.tape=w.tape->w'.output=w.output->w.heap.size<=w'.heap.size->(∀b,b<w.heap.size->b∉L1++ [vb]->w'.heap[b]?=w.heap[b]?)->
   ∃(u:Value) (Lr:List Nat) (Le':List (List Nat)),Ending.returned (.slice (some ⟨g,0,none⟩) (l.length+x.length) cap')= .returned u/\Le'.length=([]:List (List PV)).length/\(([]:List (Nat×Nat)).map (·.1)++Lr++Le'.flatten).Nodup/\
   (∀b∈Lr++Le'.flatten,(b∈(L1++ [vb])++([]:List (List Nat)).flatten∨w.heap.size<=b)/\b<w'.heap.size)/\
   OW (fun b=>(S b∨b∈(L1++ [vb])++([]:List (List Nat)).flatten∨w.heap.size<=b)/\b<w'.heap.size/\b∉([]:List (Nat×Nat)).map (·.1)++Lr++Le'.flatten) w' (kO []) (iF []) (gS [.row true .iLink l,.v (.int .i64 k),.row true .iLink x] [u1,.int .i64 k,.slice (some ⟨vb,0,none⟩) x.length vc]) (.row true .iLink r) u Lr/\
   (∀(j:Nat) p cs L,([]:List (Nat×Nat))[j]?=some p->([]:List (List PV))[j]?=some cs->Le'[j]?=some L->F8 (fun b=>(S b∨b∈(L1++ [vb])++([]:List (List Nat)).flatten∨w.heap.size<=b)/\b<w'.heap.size/\b∉([]:List (Nat×Nat)).map (·.1)++Lr++Le'.flatten) w' (kO []) (iF []) p cs L)/\
   aEL w w' (([]:List (Nat×Nat)).map (·.1)++(L1++ [vb])++([]:List (List Nat)).flatten) [] (([]:List (List PV)).map List.length):=by
  intro g cap' ROW fz w' W a1 a2 a3 a4 a5 a6 a7 b1 b2 b3 b4 b5
  have hg:g<w'.heap.size:=(Array.getElem?_eq_some_iff.1 a1).1
  refine⟨_,[g],[],rfl,rfl,by simp,fun b M=> ?_,?_,fun j p cs L z=>by simp at z,⟨b1,b2,b3,b4,fun b M hn=>b5 b M (fun hm=>hn (by simpa using hm)),fun j b off n z=>by simp at z⟩⟩
  ·obtain rfl:b=g:=by simpa using M
   exact⟨a7.elim (fun h=> .inl (by simpa using h)) .inr,hg⟩
  ·rw[<-hrl]
   exact aHO a1 a2 a3 a4 a5 a6 (fun y hy=>by
    rw[<-hr]at hy
    rcases List.mem_append.1 hy with hy|hy
    ·rcases List.mem_append.1 hy with hy|hy
     ·exact W y (iA hy)
     ·exact hwx y hy
    ·exact W y (List.mem_of_mem_drop hy))
 have zsz:∀n,(Builtin.zeroCells A6.cells n).size=n*2:=fun n=>by simp[Builtin.zeroCells,Value.cells,A6]
 have hmx:l.length+x.length<=maxLen:=by unfold maxLen;omega
 rcases H with⟨rfl,rfl,rfl⟩ |⟨b,c,cur,rfl,rfl,p1,p2,p3,p4,p5,p6⟩
 ·have hk:k=0:=by simpa using hkl
  subst hk
  have hg1:=grownCap_ge w (0+x.length) 0 200
  have hg2:=grownCap_le_maxLen w (0+x.length) 0 200 (by unfold maxLen at hmx⊢;simp at hmx;omega)
  refine Calls.mono (JI none 0 0 vb x.length vc [] (dV x) w (by omega) (by omega) (by omega) (by simpa using hbig) rfl R (fun _=>rfl) (fun a ha=>by cases ha) hvs (sH x)) ?_
  rintro e w' ⟨rfl,rfl⟩
  generalize grownCap w (0+x.length) 0 200=Gc at *
  refine fin w.heap.size Gc _ (0,0) _ (fun y hy=>by cases hy) (OZ _ _) (.inl rfl) (by rw[hrl];simp at *;omega) hg2 ?_ ?_ (.inr (bB _)) rfl rfl rfl (O0 _ _) fun b M _=> ?_
  ·rw[nD,zsz];simp[R];omega
  ·intro j u z
   rw[D]at z
   have z:(dV x)[j]?=some u:=by simpa [dV]using z
   rw[gG (by simp;exact(iR.1 z).1)]
   simpa using z
  ·show(w.heap.push _)[b]?=_
   rw[Array.getElem?_push_lt M]
   exact(gN M).symm
 ·have p5:cur.size=c*2:=p5
  obtain⟨fl,W⟩:=VT p6
  have hcs:∀j v,(dV l)[j]?=some v->w.cell? ⟨b,j,none⟩ = some v:=fun j v z=>(p2.cell j).trans (fl j v z)
  have hbv:vb≠b:=fun e=>by
   subst e
   simp at hnd
  obtain⟨fz,hz,hice⟩:=id p2
  obtain⟨fz2,hz2,hice2⟩:=id v2
  have hsome:∀j,j<c*2->(w.cell? ⟨b,j,none⟩).isSome=true:=fun j z=>by rw[p2.cell,gN (by omega)];rfl
  have hfrz:∀j,j<c*2->w.frozen? ⟨b,j,none⟩ = false:=fun j z=>p2.frozen (by omega)
  have hcm:c<=9223372036854775807:=by unfold maxLen at p4;omega
  by_cases hkn:k=l.length
  ·subst hkn
   by_cases Y:l.length+x.length<=c
   ·refine Calls.mono (X7 b l.length c vb x.length vc (dV x) w (by omega) Y hcm R (fun j z=>hsome _ (by omega)) (fun j z=>hfrz _ (by omega)) hvs (sH x)) ?_
    rintro e w' ⟨rfl,rfl⟩
    obtain⟨s1,s2,s3,s4,s5⟩:=pW b (dV x) (l.length*2) w
    obtain⟨cur',q1,q2,q3,q4⟩:=mO b (dV x) (l.length*2) hz (by omega)
    refine fin b c cur' fz _ W q1 (by rw[q2];exact hice) (by omega) p4 (by omega) ?_ (.inl (by simp)) s1 s2 s3 (by omega) fun b' M hn=>s5 b' (fun e=>hn (by subst e;simp))
    intro j u z
    rw[D]at z
    rcases X8 (by omega) z with⟨H,I⟩ |⟨t,rfl,H,I⟩ |⟨t,rfl,H,I⟩
    ·rw[q4 j (by omega)];exact fl j u I
    ·rw[q3 t H];exact I
    ·rw[cA]at H;omega
   ·have hg1:=grownCap_ge w (l.length+x.length) c 200
    have hg2:=grownCap_le_maxLen w (l.length+x.length) c 200 hmx
    refine Calls.mono (JI (some ⟨b,0,none⟩) l.length c vb x.length vc (dV l) (dV x) w (by omega) p3 (by omega) hbig hll R (fun h=>by cases h) (fun a ha j v z=>by cases ha;rw[Addr.add_lit,bP];exact hcs j v z) hvs (sH x)) ?_
    rintro e w' ⟨rfl,rfl⟩
    generalize grownCap w (l.length+x.length) c 200=Gc at *
    refine fin w.heap.size Gc _ (0,0) _ W (OZ _ _) (.inl rfl) (by omega) hg2 ?_ ?_ (.inr (bB _)) rfl rfl rfl (O0 _ _) fun b M _=> ?_
    ·rw[nD,zsz];simp[R,hll];omega
    ·intro j u z
     have z:(dV l++dV x)[j]?=some u:=by
      rw[D,List.take_of_length_le (by omega),List.drop_of_length_le (by omega),bO]at z
      exact z
     rw[gG (by simpa using(iR.1 z).1)]
     simpa using z
    ·show(w.heap.push _)[b]?=_
     rw[Array.getElem?_push_lt M]
     exact(gN M).symm
  ·by_cases Y:l.length+x.length<=c
   ·have hend:fz2.2=0:=hice2.elim id fun h=>absurd (show(200:Nat)=5 from h.2) (by decide)
    refine Calls.mono (aFg b l.length c k vb x.length vc (dV l) (dV x) w (by omega) (by omega) Y hcm hbv hll R hcs (fun j z=>hsome _ (by omega)) (fun j z=>hfrz _ (by omega)) hvs (sH l) (sH x) 200 200 cur2.size cur.size (by unfold World.shape?;rw[hz2];rfl) (by unfold World.shape?;rw[hz];rfl) (by omega) (v2.frozen (by omega)) (by unfold World.frozen?;rw[hz2];simp[hend])) ?_
    rintro e w' ⟨rfl,rfl⟩
    obtain⟨s1,s2,s3,s4,s5⟩:=pW b ((dV l).drop (k*2)) ((k+x.length)*2) w.drew
    obtain⟨cur',q1,q2,q3,q4⟩:=mO b ((dV l).drop (k*2)) ((k+x.length)*2) (w:=w.drew) hz (by rw[cA];omega)
    obtain⟨t1,t2,t3,t4,t5⟩:=pW b (dV x) (k*2) (w.drew.setCells b ((k+x.length)*2) ((dV l).drop (k*2)))
    obtain⟨cur'',r1,r2,r3,r4⟩:=mO b (dV x) (k*2) q1 (by omega)
    refine fin b c cur'' fz _ W r1 (by rw[r2,q2];exact hice) (by omega) p4 (by omega) ?_ (.inl (by simp)) (t1.trans s1) (t2.trans s2) (t3.trans s3) (by rw[t4,s4];exact bB _) fun b' M hn=>(t5 b' (fun e=>hn (by subst e;simp))).trans (s5 b' (fun e=>hn (by subst e;simp)))
    intro j u z
    rw[D]at z
    rcases X8 (by omega) z with⟨H,I⟩ |⟨t,rfl,H,I⟩ |⟨t,rfl,H,I⟩
    ·rw[r4 j (by omega),q4 j (by omega)];exact fl j u I
    ·rw[r3 t H];exact I
    ·rw[r4 _ (by omega),show k*2+(dV x).length+t=(k+x.length)*2+t by omega,q3 t H];exact I
   ·have hg1:=grownCap_ge w (l.length+x.length) c 200
    have hg2:=grownCap_le_maxLen w (l.length+x.length) c 200 hmx
    refine Calls.mono (aHr b l.length c k vb x.length vc (dV l) (dV x) w (by omega) (by omega) p3 (by omega) hbig hll R hcs hvs (sH l) (sH x)) ?_
    rintro e w' ⟨rfl,rfl⟩
    generalize grownCap w (l.length+x.length) c 200=Gc at *
    generalize hR:((dV l).take (k*2)).toArray++Builtin.zeroCells A6.cells (l.length+x.length-k)++Builtin.zeroCells A6.cells (Gc-(l.length+x.length))=ROW
    have hRs:ROW.size=Gc*2:=by
     rw[<-hR,nD,nD,zsz,zsz]
     simp[hll]
     omega
    have a0:((w.alloc (.cells ROW 200)).drew).heap[w.heap.size]?=some (.cells ROW 200 (0,0)):=OZ w _
    have aO:∀b',b'<w.heap.size->((w.alloc (.cells ROW 200)).drew).heap[b']?=w.heap[b']?:=fun b' M=>by
     show(w.heap.push _)[b']?=_
     rw[Array.getElem?_push_lt M]
     exact(gN M).symm
    obtain⟨s1,s2,s3,s4,s5⟩:=pW w.heap.size (dV x) (k*2) ((w.alloc (.cells ROW 200)).drew)
    obtain⟨cur',q1,q2,q3,q4⟩:=mO w.heap.size (dV x) (k*2) a0 (by omega)
    obtain⟨t1,t2,t3,t4,t5⟩:=pW w.heap.size ((dV l).drop (k*2)) ((k+x.length)*2) (((w.alloc (.cells ROW 200)).drew.setCells w.heap.size (k*2) (dV x)).drew)
    obtain⟨cur'',r1,r2,r3,r4⟩:=mO w.heap.size ((dV l).drop (k*2)) ((k+x.length)*2) (w:=((w.alloc (.cells ROW 200)).drew.setCells w.heap.size (k*2) (dV x)).drew) q1 (by rw[cA];omega)
    refine fin w.heap.size Gc cur'' (0,0) _ W r1 (.inl rfl) (by omega) hg2 (by omega) ?_ (.inr (bB _)) (t1.trans s1) (t2.trans s2) (t3.trans s3) (by rw[t4];exact aX (O0 w _) (Nat.le_of_eq s4.symm)) fun b' M hn=>(t5 b' (by omega)).trans ((s5 b' (by omega)).trans (aO b' M))
    intro j u z
    rw[D]at z
    rcases X8 (by omega) z with⟨H,I⟩ |⟨t,rfl,H,I⟩ |⟨t,rfl,H,I⟩
    ·rw[r4 j (by omega),q4 j (by omega),<-hR,Array.append_assoc,gG (by simp;omega)]
     simp only[iT]
     rw[aU,if_pos H]
     exact I
    ·rw[r4 _ (by omega),q3 t H];exact I
    ·rw[show k*2+(dV x).length+t=(k+x.length)*2+t by omega,r3 t H];exact I
open Go.RowKit Go.Proofs
def aPu (fuel:Nat):wX:=⟨263,[none,none,none],[.own .iLink 99,.I .i64,.own .iLink 99],0,.one (.own .iLink 99),fun v=>iG v.1 v.2.1 v.2.2⟩
theorem aOM {E:World->Prop} (e:Cl G E) (fuel:Nat):DA Tryz.prog G E (aPu fuel):=fun v r z=>X9 v.1 v.2.2 r v.2.1 z
open Go.Proofs
abbrev eI (n:Nat):En:= .sl n (.I .i64)
abbrev eB (n:Nat):En:= .sl n .B
abbrev eS (n:Nat):En:= .sl n .S
abbrev eR (n:Nat) (k:K):En:= .sl n (.row k)
abbrev eO (n:Nat) (k:K) (x:Nat):En:= .sl n (.own k x)
abbrev jI:Sh:= .I .i64
abbrev jS (k:K):Sh:= .st k []
abbrev dB:Nat:=1000000000
abbrev oI:Ro:= .one jI
abbrev oB:Ro:= .one .B
abbrev mx (f:FuncId) (pat:List (Option PV)) (ins:List Sh) (nx:Nat) (out:Ro) (p:Nat->PL ins->Option out.V) (m:Nat):wX:=⟨f,pat,ins,nx,out,p m⟩
abbrev mo (f:FuncId) (ins:List Sh) (out:Ro) (p:Nat->PL ins->Option out.V) (m:Nat):wX:=⟨f,ins.map fun _=>none,ins,0,out,p m⟩
abbrev q2 {a b r:Type} (f:Nat->a->b->Option r) (m:Nat) (v:a×b):Option r:=f m v.1 v.2
abbrev q3 {a b c r:Type} (f:Nat->a->b->c->Option r) (m:Nat) (v:a×b×c):Option r:=f m v.1 v.2.1 v.2.2
abbrev q4 {a b c d r:Type} (f:Nat->a->b->c->d->Option r) (m:Nat) (v:a×b×c×d):Option r:=f m v.1 v.2.1 v.2.2.1 v.2.2.2
abbrev q5 {a b c d e r:Type} (f:Nat->a->b->c->d->e->Option r) (m:Nat) (v:a×b×c×d×e):Option r:=f m v.1 v.2.1 v.2.2.1 v.2.2.2.1 v.2.2.2.2
abbrev q6 {a b c d e g r:Type} (f:Nat->a->b->c->d->e->g->Option r) (m:Nat) (v:a×b×c×d×e×g):Option r:=f m v.1 v.2.1 v.2.2.1 v.2.2.2.1 v.2.2.2.2.1 v.2.2.2.2.2
abbrev Lp (V O:Type):=V->Option (V⊕O)
noncomputable section
def vJ (m:Nat) (e:List Int) (z:Int):Option Int:=szL e z
theorem aKx:CC (mo 153 [.row .int,jI] oI (q2 vJ)):=mq cn tn Tryz.f153
def wJ (m:Nat) (e:List UInt8) (z:Int):Option Int:=szL e z
theorem aKy:CC (mo 154 [.row .u8,jI] oI (q2 wJ)):=mq cn tn Tryz.f154
def ON (m:Nat) (e:LVp) (H:Int):Option Int:=
 bd (vJ m e.Args H) fun z=>
 br (decide (z<0)) (
 some (-1)) <|
 bd (wJ m e.Part z) fun D=>
 br (decide (D<0)) (
 some (-1)) <|
 some D
theorem aOd:CC (mo 204 [jS .lVp,jI] oI (q2 ON)):=mq (cs aKx (cs aKy cn)) tn Tryz.f204
def BZ (m:Nat) (e:List DH) (z:Int):Option Int:=szL e z
theorem aL9:CC (mo 285 [.row .lCell,jI] oI (q2 BZ)):=mq cn tn Tryz.f285
def zU (m:Nat) (z:IW) (D:Int):Option Int:=
 bd (BZ m z.Cells D) fun e=>
 br (decide (e<0)) (
 some (-1)) <|
 some e
theorem aOy:CC (mo 244 [jS .lGrid,jI] oI (q2 zU)):=mq (cs aL9 cn) tn Tryz.f244
def EM (m:Nat) (z:K2) (D:Int):Option Int:=
 bd (BZ m z.Cells D) fun e=>
 br (decide (e<0)) (
 some (-1)) <|
 some e
theorem aOP:CC (mo 286 [jS .lRow,jI] oI (q2 EM)):=mq (cs aL9 cn) tn Tryz.f286
def MB (m:Nat) (e:List K2) (z:Int):Option Int:=szG (EM m) m e z
theorem aOz:CC (mo 245 [.row .lRow,jI] oI (q2 MB)):=mq (cs aOP cn) ⟨[],[],[(5,true,⟨[],[eR 0 .lRow,eI 1,eI 5]⟩,0,⟨[],[eI 1]⟩)]⟩ Tryz.f245
def J5 (m:Nat) (e:aAf) (M:Int):Option Int:=
 bd (zU m e.Main M) fun z=>
 br (decide (z<0)) (
 some (-1)) <|
 bd (zU m e.Alt z) fun D=>
 br (decide (D<0)) (
 some (-1)) <|
 bd (vJ m e.Tabs D) fun H=>
 br (decide (H<0)) (
 some (-1)) <|
 bd (MB m e.Back H) fun I=>
 br (decide (I<0)) (
 some (-1)) <|
 some I
theorem aOe:CC (mo 205 [jS .lScr,jI] oI (q2 J5)):=mq (cs aOy (cs aKx (cs aOz cn))) tn Tryz.f205
def FQ (m:Nat) (e:MR) (H:Int):Option Int:=
 bd (ON m e.P H) fun z=>
 br (decide (z<0)) (
 some (-1)) <|
 bd (J5 m e.S z) fun D=>
 br (decide (D<0)) (
 some (-1)) <|
 some D
theorem aNK:CC (mo 151 [jS .lTerm,jI] oI (q2 FQ)):=mq (cs aOd (cs aOe cn)) tn Tryz.f151
def zX (m:Nat) (e:yR) (z:Int):Option Int:=
 gd (cN .i64 (z-(↑e.Cmd.size:Int))) <|
 br (decide (z-(↑e.Cmd.size:Int)<0)) (
 some (-1)) <|
 gd (cN .i64 (z-(↑e.Cmd.size:Int)-(↑e.Dir.size:Int))) <|
 br (decide (z-(↑e.Cmd.size:Int)-(↑e.Dir.size:Int)<0)) (
 some (-1)) <|
 bd (FQ m e.Term (z-(↑e.Cmd.size:Int)-(↑e.Dir.size:Int))) fun D=>
 br (decide (D<0)) (
 some (-1)) <|
 some D
theorem c85:CC (mo 85 [jS .lPane,jI] oI (q2 zX)):=mq (cs aNK cn) tn Tryz.f85
def H4 (m:Nat) (e:List yR) (z:Int):Option Int:=szG (zX m) m e z
theorem c33:CC (mo 33 [.row .lPane,jI] oI (q2 H4)):=mq (cs c85 cn) ⟨[],[],[(5,true,⟨[],[eR 0 .lPane,eI 1,eI 5]⟩,0,⟨[],[eI 1]⟩)]⟩ Tryz.f33
def B3 (m:Nat) (e:List GE) (z:Int):Option Int:=szL e z
theorem aNL:CC (mo 152 [.row .lNode,jI] oI (q2 B3)):=mq cn tn Tryz.f152
def qX (m:Nat) (e:F9) (z:Int):Option Int:=
 gd (cN .i64 (z-(↑e.Name.size:Int))) <|
 br (decide (z-(↑e.Name.size:Int)<0)) (
 some (-1)) <|
 bd (B3 m e.Tree (z-(↑e.Name.size:Int))) fun D=>
 br (decide (D<0)) (
 some (-1)) <|
 some D
theorem c86:CC (mo 86 [jS .lWin,jI] oI (q2 qX)):=mq (cs aNL cn) tn Tryz.f86
def zZ (m:Nat) (e:List F9) (z:Int):Option Int:=szG (qX m) m e z
theorem c34:CC (mo 34 [.row .lWin,jI] oI (q2 zZ)):=mq (cs c86 cn) ⟨[],[],[(5,true,⟨[],[eR 0 .lWin,eI 1,eI 5]⟩,0,⟨[],[eI 1]⟩)]⟩ Tryz.f34
def nY (m:Nat) (e:uJ) (z:Int):Option Int:=
 gd (cN .i64 (z-(↑e.Name.size:Int))) <|
 br (decide (z-(↑e.Name.size:Int)<0)) (
 some (-1)) <|
 bd (vJ m e.Wins (z-(↑e.Name.size:Int))) fun D=>
 br (decide (D<0)) (
 some (-1)) <|
 some D
theorem c87:CC (mo 87 [jS .lSess,jI] oI (q2 nY)):=mq (cs aKx cn) tn Tryz.f87
def wK (m:Nat) (e:List uJ) (z:Int):Option Int:=szG (nY m) m e z
theorem c35:CC (mo 35 [.row .lSess,jI] oI (q2 wK)):=mq (cs c87 cn) ⟨[],[],[(5,true,⟨[],[eR 0 .lSess,eI 1,eI 5]⟩,0,⟨[],[eI 1]⟩)]⟩ Tryz.f35
def pH (m:Nat) (e:DJ) (I:Int):Option Int:=
 bd (H4 m e.Panes I) fun z=>
 br (decide (z<0)) (
 some (-1)) <|
 bd (zZ m e.Wins z) fun D=>
 br (decide (D<0)) (
 some (-1)) <|
 bd (wK m e.Sess D) fun H=>
 br (decide (H<0)) (
 some (-1)) <|
 some H
theorem c9:CC (mo 9 [jS .lState,jI] oI (q2 pH)):=mq (cs c33 (cs c34 (cs c35 cn))) tn Tryz.f9
def zT (m:Nat) (z:yO) (D:Int):Option Int:=
 bd (wJ m z.Body D) fun e=>
 br (decide (e<0)) (
 some (-1)) <|
 some e
theorem c88:CC (mo 88 [jS .lFile,jI] oI (q2 zT)):=mq (cs aKy cn) tn Tryz.f88
def H0 (m:Nat) (e:List yO) (z:Int):Option Int:=szG (zT m) m e z
theorem c36:CC (mo 36 [.row .lFile,jI] oI (q2 H0)):=mq (cs c88 cn) ⟨[],[],[(5,true,⟨[],[eR 0 .lFile,eI 1,eI 5]⟩,0,⟨[],[eI 1]⟩)]⟩ Tryz.f36
def zW (m:Nat) (e:yQ) (z:Int):Option Int:=
 gd (cN .i64 (z-(↑e.Name.size:Int))) <|
 br (decide (z-(↑e.Name.size:Int)<0)) (
 some (-1)) <|
 some (z-(↑e.Name.size:Int))
theorem c89:CC (mo 89 [jS .lLink,jI] oI (q2 zW)):=mq cn tn Tryz.f89
def H3 (m:Nat) (e:List yQ) (z:Int):Option Int:=szG (zW m) m e z
theorem c37:CC (mo 37 [.row .lLink,jI] oI (q2 H3)):=mq (cs c89 cn) ⟨[],[],[(5,true,⟨[],[eR 0 .lLink,eI 1,eI 5]⟩,0,⟨[],[eI 1]⟩)]⟩ Tryz.f37
def zY (m:Nat) (e:yS) (z:Int):Option Int:=
 gd (cN .i64 (z-(↑e.Name.size:Int))) <|
 br (decide (z-(↑e.Name.size:Int)<0)) (
 some (-1)) <|
 gd (cN .i64 (z-(↑e.Name.size:Int)-(↑e.To.size:Int))) <|
 br (decide (z-(↑e.Name.size:Int)-(↑e.To.size:Int)<0)) (
 some (-1)) <|
 some (z-(↑e.Name.size:Int)-(↑e.To.size:Int))
theorem c90:CC (mo 90 [jS .lTurn,jI] oI (q2 zY)):=mq cn tn Tryz.f90
def H6 (m:Nat) (e:List yS) (z:Int):Option Int:=szG (zY m) m e z
theorem c38:CC (mo 38 [.row .lTurn,jI] oI (q2 H6)):=mq (cs c90 cn) ⟨[],[],[(5,true,⟨[],[eR 0 .lTurn,eI 1,eI 5]⟩,0,⟨[],[eI 1]⟩)]⟩ Tryz.f38
def zR (m:Nat) (e:IV) (I:Int):Option Int:=
 bd (H0 m e.Files I) fun z=>
 br (decide (z<0)) (
 some (-1)) <|
 bd (H3 m e.Kept z) fun D=>
 br (decide (D<0)) (
 some (-1)) <|
 bd (H6 m e.Turns D) fun H=>
 br (decide (H<0)) (
 some (-1)) <|
 some H
theorem c11:CC (mo 11 [jS .lDisk,jI] oI (q2 zR)):=mq (cs c36 (cs c37 (cs c38 cn))) tn Tryz.f11
def B0 (m:Nat) (z:DI) (D:Int):Option Int:=
 bd (zR m z.Disk D) fun e=>
 br (decide (e<0)) (
 some (-1)) <|
 some e
theorem c10:CC (mo 10 [jS .lDepot,jI] oI (q2 B0)):=mq (cs c11 cn) tn Tryz.f10
def H5 (m:Nat) (e:List GF) (z:Int):Option Int:=szL e z
theorem c39:CC (mo 39 [.row .lProc,jI] oI (q2 H5)):=mq cn tn Tryz.f39
def EK (m:Nat) (e:K1) (z:Int):Option Int:=
 gd (cN .i64 (z-(↑e.Cmd.size:Int))) <|
 br (decide (z-(↑e.Cmd.size:Int)<0)) (
 some (-1)) <|
 gd (cN .i64 (z-(↑e.Cmd.size:Int)-(↑e.Dir.size:Int))) <|
 br (decide (z-(↑e.Cmd.size:Int)-(↑e.Dir.size:Int)<0)) (
 some (-1)) <|
 some (z-(↑e.Cmd.size:Int)-(↑e.Dir.size:Int))
theorem c91:CC (mo 91 [jS .lAsk,jI] oI (q2 EK)):=mq cn tn Tryz.f91
def MA (m:Nat) (e:List K1) (z:Int):Option Int:=szG (EK m) m e z
theorem c40:CC (mo 40 [.row .lAsk,jI] oI (q2 MA)):=mq (cs c91 cn) ⟨[],[],[(5,true,⟨[],[eR 0 .lAsk,eI 1,eI 5]⟩,0,⟨[],[eI 1]⟩)]⟩ Tryz.f40
def B4 (m:Nat) (e:DK) (H:Int):Option Int:=
 bd (H5 m e.Live H) fun z=>
 br (decide (z<0)) (
 some (-1)) <|
 bd (MA m e.Asked z) fun D=>
 br (decide (D<0)) (
 some (-1)) <|
 some D
theorem c12:CC (mo 12 [jS .lTable,jI] oI (q2 B4)):=mq (cs c39 (cs c40 cn)) tn Tryz.f12
def OM (m:Nat) (e:LOp) (z:Int):Option Int:=
 gd (cN .i64 (z-(↑e.Name.size:Int))) <|
 br (decide (z-(↑e.Name.size:Int)<0)) (
 some (-1)) <|
 gd (cN .i64 (z-(↑e.Name.size:Int)-(↑e.Text.size:Int))) <|
 br (decide (z-(↑e.Name.size:Int)-(↑e.Text.size:Int)<0)) (
 some (-1)) <|
 gd (cN .i64 (z-(↑e.Name.size:Int)-(↑e.Text.size:Int)-(↑e.Dir.size:Int))) <|
 br (decide (z-(↑e.Name.size:Int)-(↑e.Text.size:Int)-(↑e.Dir.size:Int)<0)) (
 some (-1)) <|
 bd (wJ m e.Data (z-(↑e.Name.size:Int)-(↑e.Text.size:Int)-(↑e.Dir.size:Int))) fun D=>
 br (decide (D<0)) (
 some (-1)) <|
 some D
theorem c92:CC (mo 92 [jS .lOp,jI] oI (q2 OM)):=mq (cs aKy cn) tn Tryz.f92
def zV (m:Nat) (z:yP) (D:Int):Option Int:=
 bd (OM m z.Op D) fun e=>
 br (decide (e<0)) (
 some (-1)) <|
 some e
theorem c41:CC (mo 41 [jS .lHist,jI] oI (q2 zV)):=mq (cs c92 cn) tn Tryz.f41
def H2 (m:Nat) (e:List yP) (z:Int):Option Int:=szG (zV m) m e z
theorem c13:CC (mo 13 [.row .lHist,jI] oI (q2 H2)):=mq (cs c41 cn) ⟨[],[],[(5,true,⟨[],[eR 0 .lHist,eI 1,eI 5]⟩,0,⟨[],[eI 1]⟩)]⟩ Tryz.f13
def J6 (m:Nat) (e:OV) (W:Int):Option Int:=
 bd (pH m e.Base W) fun z=>
 br (decide (z<0)) (
 some (-1)) <|
 bd (pH m e.St z) fun D=>
 br (decide (D<0)) (
 some (-1)) <|
 bd (B0 m e.Dep D) fun H=>
 br (decide (H<0)) (
 some (-1)) <|
 bd (zR m e.Disk H) fun I=>
 br (decide (I<0)) (
 some (-1)) <|
 bd (B4 m e.Tab I) fun M=>
 br (decide (M<0)) (
 some (-1)) <|
 bd (H2 m e.Done M) fun R=>
 br (decide (R<0)) (
 some (-1)) <|
 some R
theorem c4:CC (mo 4 [jS .lSrv,jI] oI (q2 J6)):=mq (cs c9 (cs c10 (cs c11 (cs c12 (cs c13 cn))))) tn Tryz.f4
def aBr (m:Nat):Lp (Int×List iZ×Int×Int) Int:=fun(D,H,I,e)=>
 br (decide (e<I)) (
 bd (α:=Int×List iZ×Int×Int) (
 gd (0<=e/\e<(↑H.length:Int)) <|
 bd H[e.toNat]? fun W=>
 br (!W.Lost) (
 gd (cN .i64 (D+1)) <|
 some (D+1,H,I,e)) <|
 some (D,H,I,e)) fun(Y,M,R,z)=>
 gd (cN .i64 (z+1)) <|
 some (.inl (Y,M,R,z+1))) <|
 some (.inr D)
def EQ (m:Nat) (e:List iZ):Option Int:=
 bd (α:=Int) (
 aL (aBr m) m (0,e,(↑e.length:Int),0)) fun z=>
 some z
theorem c16:CC (mo 16 [.row .iHist] oI EQ):=mq cn ⟨[],[(7,false,⟨[],[eI 3,eR 6 .iHist,eI 7,eI 8]⟩)],[(3,false,⟨[],[eI 3,eR 6 .iHist,eI 7,eI 8]⟩,0,⟨[],[eI 3]⟩)]⟩ Tryz.f16
def ET (m:Nat):Option jB:=
 some (jB.mk 32 (oN.mk 0 0 false false false))
theorem aNM:CC (mx 155 [] [] 0 (.one (jS .iCell)) (fun m v=>ET m)):=mq cn tn Tryz.f155
def oS (m:Nat):Lp (fY×fY×Int×Int×Int) (fY×fY):=fun(M,e,z,D,I)=>
 gd (cN .i64 (z*D)) <|
 br (decide (I<z*D)) (
 bd (ET m) fun R=>
 gd (cR .iCell (e.Cells++ [R]).length) <|
 gd (cN .i64 (I+1)) <|
 some (.inl (M,fY.mk e.W e.H (e.Cells++ [R]),z,D,I+1))) <|
 some (.inr (M,e))
def CA (m:Nat) (e z:Int):Option (fY×Bool):=
 bd (α:=fY×Int×Int×Bool) (
 br (decide (e<1)) (
 some (fY.mk 0 0 [],e,z,true)) <|
 br (decide (120<e)) (
 some (fY.mk 0 0 [],e,z,true)) <|
 br (decide (z<1)) (
 some (fY.mk 0 0 [],e,z,true)) <|
 br (decide (120<z)) (
 some (fY.mk 0 0 [],e,z,true)) <|
 gd (cN .i64 (e*z)) <|
 some (fY.mk 0 0 [],e,z,decide (4000<e*z))) fun(I,D,H,M)=>
 br M (
 some (fY.mk 0 0 [],false)) <|
 bd (α:=fY×fY) (
 aL (oS m) m (I,fY.mk D H [],D,H,0)) fun(W,R)=>
 some (R,true)
theorem c93:CC (mo 93 [jI,jI] (.tup [.st .iGrid [(2,99)],.B]) (q2 CA)):=mq (cs aNM cn) ⟨[(1,⟨[(4,.ptr 500 0)],[.sto 500 .iGrid [(2,50000001)],eI 0,eI 1,eB 27]⟩)],[],[(5,false,⟨[(4,.ptr 500 0),(6,.ptr 700 0)],[.sto 500 .iGrid [(2,50000001)],.sto 700 .iGrid [(2,50000002)],eI 0,eI 1,eI 7]⟩,0,⟨[(4,.ptr 500 0),(6,.ptr 700 0)],[.sto 500 .iGrid [(2,50000001)],.sto 700 .iGrid [(2,50000002)]]⟩)]⟩ Tryz.f93
def pC (m:Nat):Lp (Int×List Int×Int×Int) (Unit⊕Bool):=fun(D,z,H,e)=>
 br (decide (e<H)) (
 gd (0<=e/\e<(↑z.length:Int)) <|
 bd z[e.toNat]? fun I=>
 br (I==D) (
 some (.inr (.inr true))) <|
 gd (cN .i64 (e+1)) <|
 some (.inl (D,z,H,e+1))) <|
 some (.inr (.inl ()))
def dP (m:Nat) (e:List Int) (z:Int):Option Bool:=
 jn (V:=Unit) (
 aL (pC m) m (z,e,(↑e.length:Int),0)) fun _=>
 some false
theorem c97:CC (mo 97 [.row .int,jI] oB (q2 dP)):=mq cn ⟨[],[],[(2,true,⟨[],[eI 1,eR 7 .int,eI 8,eI 9]⟩,0,⟨[],[]⟩)]⟩ Tryz.f97
def rE (m:Nat):Lp (List bV×Int×Int) (Unit⊕Int):=fun(D,H,z)=>
 br (decide (z<(↑D.length:Int))) (
 bd (α:=List bV×Int×Int) (
 gd (0<=z/\z<(↑D.length:Int)) <|
 bd D[z.toNat]? fun M=>
 br (M.Pane==0) (
 gd (cN .i64 (H+1)) <|
 some (D,H+1,z)) <|
 gd (cN .i64 (H-1)) <|
 some (D,H-1,z)) fun(R,I,e)=>
 br (I==0) (
 gd (cN .i64 (e+1)) <|
 some (.inr (.inr (e+1)))) <|
 gd (cN .i64 (e+1)) <|
 some (.inl (R,I,e+1))) <|
 some (.inr (.inl ()))
def sQ (m:Nat) (e:List bV) (z:Int):Option Int:=
 jn (V:=Unit) (
 aL (rE m) m (e,1,z)) fun _=>
 some (-1)
theorem aLW:CC (mo 168 [.row .iNode,jI] oI (q2 sQ)):=mq cn ⟨[],[(8,false,⟨[],[eR 0 .iNode,eI 5,eI 6]⟩)],[(3,true,⟨[],[eR 0 .iNode,eI 5,eI 6]⟩,0,⟨[],[]⟩)]⟩ Tryz.f168
def rC (m:Nat):Lp (List Int×List bV×Int×Int) (Unit⊕Bool):=fun(v6,v7,v8,Y)=>
 br (decide (Y<v8)) (
 jn (V:=List Int×List bV×Int×Int) (
 gd (0<=Y/\Y<(↑v7.length:Int)) <|
 bd v7[Y.toNat]? fun e=>
 bd (α:=bV×List Int×Bool×List bV×Int×Int) (
 br (decide (1<=e.Pane)) (
 br (decide (e.Pane<=1000000)) (
 br (!e.Down) (
 some (e,v6,e.First==0,v7,v8,Y)) <|
 some (e,v6,false,v7,v8,Y)) <|
 some (e,v6,false,v7,v8,Y)) <|
 some (e,v6,false,v7,v8,Y)) fun(I,x12,x13,x14,x15,x16)=>
 bd (α:=bV×List Int×Bool×Bool×List bV×Int×Int) (
 br (I.Pane==0) (
 br (decide (1<=I.First)) (
 some (I,x12,x13,decide (I.First<=120),x14,x15,x16)) <|
 some (I,x12,x13,false,x14,x15,x16)) <|
 some (I,x12,x13,false,x14,x15,x16)) fun(D,H,z,x20,M,R,W)=>
 bd (α:=bV×List Int×Bool×List bV×Int×Int×Bool) (
 br (!z) (
 br (!x20) (
 some (D,H,z,M,R,W,true)) <|
 br z (
 bd (dP m H D.Pane) fun x24=>
 some (D,H,z,M,R,W,x24)) <|
 some (D,H,z,M,R,W,false)) <|
 br z (
 bd (dP m H D.Pane) fun x25=>
 some (D,H,z,M,R,W,x25)) <|
 some (D,H,z,M,R,W,false)) fun(x26,x27,x28,x29,x30,x31,x32)=>
 br x32 (
 some (.inr (.inr (.inr false)))) <|
 br x28 (
 gd (cR .int (x27++ [x26.Pane]).length) <|
 some (.inl (x27++ [x26.Pane],x29,x30,x31))) <|
 some (.inl (x27,x29,x30,x31))) fun(v33,v34,v35,v36)=>
 gd (cN .i64 (v36+1)) <|
 some (.inl (v33,v34,v35,v36+1))) <|
 some (.inr (.inl ()))
def AV (m:Nat) (e:List bV):Option Bool:=
 bd (α:=List bV×Bool) (
 br (decide (31<(↑e.length:Int))) (
 some (e,true)) <|
 bd (sQ m e 0) fun D=>
 some (e,D !=(↑e.length:Int))) fun(z,H)=>
 br H (
 some false) <|
 jn (V:=Unit) (
 aL (rC m) m ([],z,(↑z.length:Int),0)) fun _=>
 some true
theorem aLS:CC (mo 109 [.row .iNode] oB AV):=mq (cs aLW (cs c97 cn)) ⟨[(1,⟨[],[eR 0 .iNode,eB 17]⟩),(7,⟨[(5,.ptr 600 0)],[.sto 600 .iNode [],eO 3 .int 1900,eB 6,eR 19 .iNode,eI 20,eI 21]⟩),(8,⟨[(5,.ptr 600 0)],[.sto 600 .iNode [],eO 3 .int 1900,eB 6,eB 7,eR 19 .iNode,eI 20,eI 21]⟩),(9,⟨[(5,.ptr 600 0)],[.sto 600 .iNode [],eO 3 .int 1900,eB 6,eR 19 .iNode,eI 20,eI 21,eB 70]⟩)],[(13,true,⟨[],[eO 3 .int 1900,eR 19 .iNode,eI 20,eI 21]⟩)],[(5,true,⟨[],[eO 3 .int 1900,eR 19 .iNode,eI 20,eI 21]⟩,0,⟨[],[]⟩)]⟩ Tryz.f109
def uX (m:Nat):Lp (List Int×List bV×Int×Int) (List Int):=fun(D,H,I,e)=>
 br (decide (e<I)) (
 bd (α:=List Int×List bV×Int×Int) (
 gd (0<=e/\e<(↑H.length:Int)) <|
 bd H[e.toNat]? fun M=>
 br (decide (0<M.Pane)) (
 gd (cR .int (D++ [M.Pane]).length) <|
 some (D++ [M.Pane],H,I,e)) <|
 some (D,H,I,e)) fun(R,W,Y,z)=>
 gd (cN .i64 (z+1)) <|
 some (.inl (R,W,Y,z+1))) <|
 some (.inr D)
def nZ (m:Nat) (e:List bV):Option (List Int):=
 bd (AV m e) fun z=>
 br (!z) (
 some []) <|
 bd (α:=List Int) (
 aL (uX m) m ([],e,(↑e.length:Int),0)) fun D=>
 some D
theorem c51:CC (mo 51 [.row .iNode] (.one (.own .int 99)) nZ):=mq (cs aLS cn) ⟨[],[(9,false,⟨[],[eO 3 .int 700,eR 11 .iNode,eI 12,eI 13]⟩)],[(5,false,⟨[],[eO 3 .int 700,eR 11 .iNode,eI 12,eI 13]⟩,0,⟨[],[eO 3 .int 700]⟩)]⟩ Tryz.f51
def u6 (m:Nat):Lp (ByteArray×Int) (ByteArray⊕Bool):=fun(z,e)=>
 br (decide (e<(↑z.size:Int))) (
 bd (α:=ByteArray×Int×Bool) (
 gd (0<=e) <|
 bd z[e.toNat]? fun Y=>
 br (decide ((↑Y.toNat:Int)<97)) (
 gd (0<=e) <|
 bd z[e.toNat]? fun x8=>
 br (decide ((↑x8.toNat:Int)<48)) (
 some (z,e,true)) <|
 gd (0<=e) <|
 bd z[e.toNat]? fun x9=>
 some (z,e,decide (57<(↑x9.toNat:Int)))) <|
 gd (0<=e) <|
 bd z[e.toNat]? fun H=>
 br (decide (122<(↑H.toNat:Int))) (
 gd (0<=e) <|
 bd z[e.toNat]? fun I=>
 br (decide ((↑I.toNat:Int)<48)) (
 some (z,e,true)) <|
 gd (0<=e) <|
 bd z[e.toNat]? fun M=>
 some (z,e,decide (57<(↑M.toNat:Int)))) <|
 some (z,e,false)) fun(R,D,W)=>
 br W (
 some (.inr (.inr false))) <|
 gd (cN .i64 (D+1)) <|
 some (.inl (R,D+1))) <|
 some (.inr (.inl z))
def pT (m:Nat) (z:ByteArray):Option Bool:=
 jn (V:=ByteArray) (
 aL (u6 m) m (z,0)) fun e=>
 bd (α:=Bool) (
 br (decide (1<=(↑e.size:Int))) (
 some (decide ((↑e.size:Int)<=12))) <|
 some false) fun D=>
 some D
theorem aKv:CC (mo 100 [.S] oB pT):=mq cn ⟨[(4,⟨[],[eS 0,eI 3,eB 31]⟩),(6,⟨[],[eB 2]⟩)],[],[(2,true,⟨[],[eS 0,eI 3]⟩,0,⟨[],[eS 0]⟩)]⟩ Tryz.f100
def xU (m:Nat) (z e:Int):Option Int:=
 gd (cN .i64 (e-2)) <|
 br (decide (e-2<z)) (
 gd (cN .i64 (e-2)) <|
 some (e-2)) <|
 some z
theorem aOA:CC (mo 246 [jI,jI] oI (q2 xU)):=mq cn tn Tryz.f246
def iK (m:Nat) (slf:List bV×Int×bS->Option (List bS×Bool)):List bV×Int×bS->Option (List bS×Bool):=fun(a1,a2,e)=>
 gd (0<=a2/\a2<(↑a1.length:Int)) <|
 bd a1[a2.toNat]? fun x4=>
 br (decide (0<x4.Pane)) (
 some ([bS.mk x4.Pane e.X e.Y e.W e.H],true)) <|
 jn (V:=bS×bS×List bV×Int) (
 br x4.Down (
 br (decide (e.H<3)) (
 some (.inr ([],false))) <|
 bd (xU m x4.First e.H) fun D=>
 gd (cN .i64 (e.Y+D)) <|
 gd (cN .i64 (e.Y+D+1)) <|
 gd (cN .i64 (e.H-D)) <|
 gd (cN .i64 (e.H-D-1)) <|
 some (.inl (bS.mk e.Pane e.X e.Y e.W D,bS.mk e.Pane e.X (e.Y+D+1) e.W (e.H-D-1),a1,a2))) <|
 br (decide (e.W<3)) (
 some (.inr ([],false))) <|
 bd (xU m x4.First e.W) fun I=>
 gd (cN .i64 (e.X+I)) <|
 gd (cN .i64 (e.X+I+1)) <|
 gd (cN .i64 (e.W-I)) <|
 gd (cN .i64 (e.W-I-1)) <|
 some (.inl (bS.mk e.Pane e.X e.Y I e.H,bS.mk e.Pane (e.X+I+1) e.Y (e.W-I-1) e.H,a1,a2))) fun(v7,v8,v9,z)=>
 gd (cN .i64 (z+1)) <|
 bd (slf (v9,z+1,v7)) fun(M,x12)=>
 gd (cN .i64 (z+1)) <|
 bd (sQ m v9 (z+1)) fun x13=>
 bd (slf (v9,x13,v8)) fun(R,x15)=>
 bd (α:=List bS×Bool) (
 gd (cR .iRect (M++R).length) <|
 br x12 (
 some (M++R,x15)) <|
 some (M++R,false)) fun(x16,x17)=>
 some (x16,x17)
def aPr (m:Nat):wX:=⟨206,[none,none,none],[.row .iNode,.I .i64,.st .iRect []],0,(.tup [.own .iRect 99,.B]),lU (iK m) m⟩
theorem aOf {E:World->Prop} (e:Cl G E) (m:Nat):DA Tryz.prog G E (aPr m):=DA.rec (fun slf h=>DA.mk (o:=⟨206,[none,none,none],[.row .iNode,.I .i64,.st .iRect []],0,(.tup [.own .iRect 99,.B]),iK m slf⟩) (csc h (csc (aOA e m) (csc (aLW e m) csn))) aAM mixed e.cl ⟨[(20,⟨[],[eO 6 .iRect 83000000,eB 7]⟩)],[(18,true,⟨[(9,.ptr 1000 0),(10,.ptr 1100 0)],[.sto 1000 .iRect [],.sto 1100 .iRect [],eR 0 .iNode,eI 1]⟩)],[]⟩ m (fn:=Tryz.f206) (by kernel_rfl) rfl (by kernel_rfl) (fun _=>by kernel_rfl) (fun _ _=>by kernel_rfl) (fun _=>by kernel_rfl)) m
def AP (m:Nat) (D:List bV) (e z:Int):Option (List bS×Bool):=
 bd (α:=List bV×Int×Int×Bool) (
 bd (AV m D) fun I=>
 br (!I) (
 some (D,e,z,true)) <|
 br (decide (e<1)) (
 some (D,e,z,true)) <|
 br (decide (120<e)) (
 some (D,e,z,true)) <|
 br (decide (z<1)) (
 some (D,e,z,true)) <|
 some (D,e,z,decide (120<z))) fun(M,R,W,Y)=>
 br Y (
 some ([],false)) <|
 bd (lU (iK m) m (M,0,bS.mk 0 0 0 R W)) fun(x9,H)=>
 br (!H) (
 some ([],false)) <|
 some (x9,true)
theorem aLV:CC (mo 156 [.row .iNode,jI,jI] (.tup [.own .iRect 99,.B]) (q3 AP)):=mq (cs aLS (cs aOf cn)) ⟨[(1,⟨[],[eR 0 .iNode,eI 1,eI 2,eB 28]⟩)],[],[]⟩ Tryz.f156
def uZ (m:Nat):Lp (Int×List dL×Int×Int) (Unit⊕Int):=fun(D,z,H,e)=>
 br (decide (e<H)) (
 gd (0<=e/\e<(↑z.length:Int)) <|
 bd z[e.toNat]? fun I=>
 br (I.Id==D) (
 some (.inr (.inr e))) <|
 gd (cN .i64 (e+1)) <|
 some (.inl (D,z,H,e+1))) <|
 some (.inr (.inl ()))
def vN (m:Nat) (e:bA) (z:Int):Option Int:=
 jn (V:=Unit) (
 aL (uZ m) m (z,e.Panes,(↑e.Panes.length:Int),0)) fun _=>
 some (-1)
theorem aNN:CC (mo 157 [jS .iState,jI] oI (q2 vN)):=mq cn ⟨[],[],[(2,true,⟨[],[eI 1,eR 8 .iPane,eI 9,eI 10]⟩,0,⟨[],[]⟩)]⟩ Tryz.f157
def oV (m:Nat):Lp (bA×List Int×Int×Int) (bA×List Int⊕Bool):=fun(D,z,H,e)=>
 br (decide (e<H)) (
 gd (0<=e/\e<(↑z.length:Int)) <|
 bd (z[0+e.toNat]?) fun I=>
 bd (α:=bA×List Int×Int×Int×Bool) (
 gd (0<=e/\e<=(↑z.length:Int)) <|
 bd (dP m (nQ false z (0+0) (e.toNat-0)) I) fun R=>
 br R (
 some (D,z,H,e,true)) <|
 bd (vN m D I) fun W=>
 some (D,z,H,e,decide (W<0))) fun(Y,x41,x42,M,x44)=>
 br x44 (
 some (.inr (.inr false))) <|
 gd (cN .i64 (M+1)) <|
 some (.inl (Y,x41,x42,M+1))) <|
 some (.inr (.inl (D,z)))
def tC (m:Nat):Lp (bA×List Int×List lF×Int×Int) (bA×List Int⊕Bool):=fun(M,R,D,I,z)=>
 br (decide (z<I)) (
 gd (0<=z/\z<(↑D.length:Int)) <|
 bd D[z.toNat]? fun e=>
 bd (AP m e.Tree M.W M.H) fun(x14,x15)=>
 bd (α:=bA×lF×List Int×List lF×Int×Int×Bool) (
 br (!x15) (
 some (M,e,R,D,I,z,true)) <|
 br (decide (e.Id<1)) (
 some (M,e,R,D,I,z,true)) <|
 br (decide (M.Next<=e.Id)) (
 some (M,e,R,D,I,z,true)) <|
 br (decide (0<z)) (
 gd (cN .i64 (z-1)) <|
 gd (0<=z-1/\z-1<(↑M.Wins.length:Int)) <|
 bd (M.Wins[(z-1).toNat]?) fun x16=>
 br (decide (e.Id<=x16.Id)) (
 some (M,e,R,D,I,z,true)) <|
 bd (vN m M e.Id) fun x17=>
 br (decide (0<=x17)) (
 some (M,e,R,D,I,z,true)) <|
 bd (pT m e.Name) fun x18=>
 br (!x18) (
 some (M,e,R,D,I,z,true)) <|
 bd (nZ m e.Tree) fun x19=>
 bd (dP m x19 e.Active) fun x20=>
 some (M,e,R,D,I,z,!x20)) <|
 bd (vN m M e.Id) fun x21=>
 br (decide (0<=x21)) (
 some (M,e,R,D,I,z,true)) <|
 bd (pT m e.Name) fun x22=>
 br (!x22) (
 some (M,e,R,D,I,z,true)) <|
 bd (nZ m e.Tree) fun x23=>
 bd (dP m x23 e.Active) fun x24=>
 some (M,e,R,D,I,z,!x24)) fun(x25,x26,Y,x28,x29,x30,x31)=>
 br x31 (
 some (.inr (.inr false))) <|
 bd (nZ m x26.Tree) fun x32=>
 gd (cR .int (Y++x32).length) <|
 gd (cN .i64 (x30+1)) <|
 some (.inl (x25,Y++x32,x28,x29,x30+1))) <|
 some (.inr (.inl (M,R)))
def CJ (m:Nat) (e:bA):Option Bool:=
 jn (V:=bA×List Int) (
 aL (tC m) m (e,[],e.Wins,(↑e.Wins.length:Int),0)) fun(D,z)=>
 jn (V:=bA×List Int) (
 aL (oV m) m (D,z,(↑z.length:Int),0)) fun(H,I)=>
 some ((↑I.length:Int)==(↑H.Panes.length:Int))
theorem c94:CC (mo 94 [jS .iState] oB CJ):=mq (cs aLV (cs aNN (cs aKv (cs c51 (cs c97 cn))))) ⟨[(6,⟨[(1,.ptr 200 0),(5,.ptr 600 0)],[.sto 200 .iState [],.sto 600 .iWin [],eO 3 .int 1100,eR 12 .iWin,eI 13,eI 14,eB 80]⟩),(13,⟨[(1,.ptr 200 0),(87,.ref 1100)],[.sto 200 .iState [],eO 3 .int 1100,eI 88,eI 89,eB 104]⟩)],[],[(3,true,⟨[(1,.ptr 200 0)],[.sto 200 .iState [],eO 3 .int 1100,eR 12 .iWin,eI 13,eI 14]⟩,0,⟨[(1,.ptr 200 0)],[.sto 200 .iState [],eO 3 .int 1100]⟩),(11,true,⟨[(1,.ptr 200 0),(87,.ref 1100)],[.sto 200 .iState [],eO 3 .int 1100,eI 88,eI 89]⟩,2,⟨[(1,.ptr 200 0)],[.sto 200 .iState [],eO 3 .int 1100]⟩)]⟩ Tryz.f94
def u5 (m:Nat):Lp (ByteArray×List kM×Int×Int) (Unit⊕Int):=fun(D,z,H,e)=>
 br (decide (e<H)) (
 gd (0<=e/\e<(↑z.length:Int)) <|
 bd z[e.toNat]? fun I=>
 br (decide (I.Name=D)) (
 some (.inr (.inr e))) <|
 gd (cN .i64 (e+1)) <|
 some (.inl (D,z,H,e+1))) <|
 some (.inr (.inl ()))
def FT (m:Nat) (e:bA) (z:ByteArray):Option Int:=
 jn (V:=Unit) (
 aL (u5 m) m (z,e.Sess,(↑e.Sess.length:Int),0)) fun _=>
 some (-1)
theorem aNO:CC (mo 158 [jS .iState,.S] oI (q2 FT)):=mq cn ⟨[],[],[(2,true,⟨[],[eS 1,eR 8 .iSess,eI 9,eI 10]⟩,0,⟨[],[]⟩)]⟩ Tryz.f158
def xR (m:Nat):Lp (Int×List lF×Int×Int) (Unit⊕Int):=fun(D,z,H,e)=>
 br (decide (e<H)) (
 gd (0<=e/\e<(↑z.length:Int)) <|
 bd z[e.toNat]? fun I=>
 br (I.Id==D) (
 some (.inr (.inr e))) <|
 gd (cN .i64 (e+1)) <|
 some (.inl (D,z,H,e+1))) <|
 some (.inr (.inl ()))
def KE (m:Nat) (e:bA) (z:Int):Option Int:=
 jn (V:=Unit) (
 aL (xR m) m (z,e.Wins,(↑e.Wins.length:Int),0)) fun _=>
 some (-1)
theorem aNP:CC (mo 159 [jS .iState,jI] oI (q2 KE)):=mq cn ⟨[],[],[(2,true,⟨[],[eI 1,eR 8 .iWin,eI 9,eI 10]⟩,0,⟨[],[]⟩)]⟩ Tryz.f159
def oU (m:Nat):Lp (bA×List Int×Int×Int) (bA×List Int⊕Bool):=fun(D,z,H,e)=>
 br (decide (e<H)) (
 gd (0<=e/\e<(↑z.length:Int)) <|
 bd (z[0+e.toNat]?) fun I=>
 bd (α:=bA×List Int×Int×Int×Bool) (
 gd (0<=e/\e<=(↑z.length:Int)) <|
 bd (dP m (nQ false z (0+0) (e.toNat-0)) I) fun R=>
 br R (
 some (D,z,H,e,true)) <|
 bd (KE m D I) fun W=>
 some (D,z,H,e,decide (W<0))) fun(Y,x32,x33,M,x35)=>
 br x35 (
 some (.inr (.inr false))) <|
 gd (cN .i64 (M+1)) <|
 some (.inl (Y,x32,x33,M+1))) <|
 some (.inr (.inl (D,z)))
def s9 (m:Nat):Lp (bA×List Int×List kM×Int×Int) (bA×List Int⊕Bool):=fun(I,Y,D,H,e)=>
 br (decide (e<H)) (
 gd (0<=e/\e<(↑D.length:Int)) <|
 bd D[e.toNat]? fun z=>
 bd (α:=bA×kM×List Int×List kM×Int×Int×Bool) (
 bd (pT m z.Name) fun x14=>
 br (!x14) (
 some (I,z,Y,D,H,e,true)) <|
 bd (FT m I z.Name) fun x15=>
 br (x15 !=e) (
 some (I,z,Y,D,H,e,true)) <|
 bd (dP m z.Wins z.Active) fun x16=>
 some (I,z,Y,D,H,e,!x16)) fun(x17,M,R,x20,x21,W,x23)=>
 br x23 (
 some (.inr (.inr false))) <|
 gd (cR .int (R++M.Wins).length) <|
 gd (cN .i64 (W+1)) <|
 some (.inl (x17,R++M.Wins,x20,x21,W+1))) <|
 some (.inr (.inl (I,Y)))
def CI (m:Nat) (e:bA):Option Bool:=
 jn (V:=bA×List Int) (
 aL (s9 m) m (e,[],e.Sess,(↑e.Sess.length:Int),0)) fun(D,z)=>
 jn (V:=bA×List Int) (
 aL (oU m) m (D,z,(↑z.length:Int),0)) fun(H,I)=>
 some ((↑I.length:Int)==(↑H.Wins.length:Int))
theorem c95:CC (mo 95 [jS .iState] oB CI):=mq (cs aKv (cs aNO (cs c97 (cs aNP cn)))) ⟨[(5,⟨[(1,.ptr 200 0),(5,.ptr 600 0)],[.sto 200 .iState [],.sto 600 .iSess [],eO 3 .int 900,eR 10 .iSess,eI 11,eI 12,eB 36]⟩),(12,⟨[(1,.ptr 200 0),(42,.ref 900)],[.sto 200 .iState [],eO 3 .int 900,eI 43,eI 44,eB 59]⟩)],[],[(3,true,⟨[(1,.ptr 200 0)],[.sto 200 .iState [],eO 3 .int 900,eR 10 .iSess,eI 11,eI 12]⟩,0,⟨[(1,.ptr 200 0)],[.sto 200 .iState [],eO 3 .int 900]⟩),(10,true,⟨[(1,.ptr 200 0),(42,.ref 900)],[.sto 200 .iState [],eO 3 .int 900,eI 43,eI 44]⟩,2,⟨[(1,.ptr 200 0)],[.sto 200 .iState [],eO 3 .int 900]⟩)]⟩ Tryz.f95
def EU (m:Nat) (e:Int):Option Bool:=
 bd (α:=Bool) (
 br (e==2) (
 some true) <|
 some (e==3)) fun z=>
 some z
theorem aOQ:CC (mo 287 [jI] oB EU):=mq cn ⟨[(1,⟨[],[eB 2]⟩)],[],[]⟩ Tryz.f287
def ES (m:Nat) (e:Int):Option Bool:=
 bd (α:=Bool) (
 br (decide (32<=e)) (
 br (decide (e<=126)) (
 some true) <|
 br (decide (160<=e)) (
 br (decide (e<=65535)) (
 br (decide (e<55296)) (
 some true) <|
 some (decide (57343<e))) <|
 some false) <|
 some false) <|
 br (decide (160<=e)) (
 br (decide (e<=65535)) (
 br (decide (e<55296)) (
 some true) <|
 some (decide (57343<e))) <|
 some false) <|
 some false) fun z=>
 some z
theorem aMi:CC (mo 339 [jI] oB ES):=mq cn ⟨[(1,⟨[],[eB 2]⟩)],[],[]⟩ Tryz.f339
def u4 (m:Nat) (e:Int):Option (List UInt8):=
 bd (ES m e) fun z=>
 br (!z) (
 some []) <|
 br (decide (e<128)) (
 some ([UInt8.ofNat (IntKind.u8.wrap e).toNat])) <|
 br (decide (e<2048)) (
 gd ((64:Int)≠(0:Int)) <|
 gd (cN .i64 (e.tdiv 64)) <|
 gd (cN .i64 (192+e.tdiv 64)) <|
 gd ((64:Int)≠(0:Int)) <|
 gd (cN .i64 (128+e.tmod 64)) <|
 some ([UInt8.ofNat (IntKind.u8.wrap (192+e.tdiv 64)).toNat,UInt8.ofNat (IntKind.u8.wrap (128+e.tmod 64)).toNat])) <|
 gd ((4096:Int)≠(0:Int)) <|
 gd (cN .i64 (e.tdiv 4096)) <|
 gd (cN .i64 (224+e.tdiv 4096)) <|
 gd ((64:Int)≠(0:Int)) <|
 gd (cN .i64 (e.tdiv 64)) <|
 gd ((64:Int)≠(0:Int)) <|
 gd (cN .i64 (128+(e.tdiv 64).tmod 64)) <|
 gd ((64:Int)≠(0:Int)) <|
 gd (cN .i64 (128+e.tmod 64)) <|
 some ([UInt8.ofNat (IntKind.u8.wrap (224+e.tdiv 4096)).toNat,UInt8.ofNat (IntKind.u8.wrap (128+(e.tdiv 64).tmod 64)).toNat,UInt8.ofNat (IntKind.u8.wrap (128+e.tmod 64)).toNat])
theorem aPa:CC (mo 338 [jI] (.one (.own .u8 99)) u4):=mq (cs aMi cn) tn Tryz.f338
def gF (m:Nat):Lp (List UInt8×Int×Int×Int×Int) (List UInt8×Int×Int×Int):=fun(H,z,I,D,e)=>
 br (decide (e<I)) (
 gd (cN .i64 (D*64)) <|
 gd (cN .i64 (z+e)) <|
 gd (0<=z+e/\z+e<(↑H.length:Int)) <|
 bd (H[(z+e).toNat]?) fun M=>
 gd (cN .i64 (D*64+(↑M.toNat:Int))) <|
 gd (cN .i64 (D*64+(↑M.toNat:Int)-128)) <|
 gd (cN .i64 (e+1)) <|
 some (.inl (H,z,I,D*64+(↑M.toNat:Int)-128,e+1))) <|
 some (.inr (H,z,I,D))
def dW (m:Nat):Lp (List UInt8×Int×Int) (Unit⊕Int×Int):=fun(v7,v8,v9)=>
 bd (α:=List UInt8×Int×Int×Bool) (
 br (decide (v9<=3)) (
 gd (cN .i64 ((↑v7.length:Int)-v8)) <|
 some (v7,v8,v9,decide (v9<=(↑v7.length:Int)-v8))) <|
 some (v7,v8,v9,false)) fun(M,D,H,x13)=>
 br x13 (
 gd (0<=D/\D<(↑M.length:Int)) <|
 bd M[D.toNat]? fun Y=>
 gd (0<=H/\H<(↑4:Int)) <|
 bd ([0,0,192,224][0+H.toNat]?) fun x15=>
 gd (cN .i64 ((↑Y.toNat:Int)-x15)) <|
 bd (α:=List UInt8×Int×Int×Int) (
 aL (gF m) m (M,D,H,(↑Y.toNat:Int)-x15,1)) fun(I,e,z,R)=>
 bd (u4 m R) fun x21=>
 bd (α:=List UInt8×Int×Int×Int×Bool) (
 br ((↑x21.length:Int)==z) (
 gd (cN .i64 (e+z)) <|
 gd (0<=e+z/\e+z<=(↑I.length:Int)) <|
 gd (0<=e/\e<=(↑(e+z).toNat:Int)) <|
 some (I,e,z,R,decide (ByteArray.mk x21.toArray=ByteArray.mk (List.drop e.toNat (List.take (e+z).toNat I)).toArray))) <|
 some (I,e,z,R,false)) fun(x22,x23,W,x25,x26)=>
 br x26 (
 some (.inr (.inr (x25,W)))) <|
 gd (cN .i64 (W+1)) <|
 some (.inl (x22,x23,W+1))) <|
 some (.inr (.inl ()))
def t7 (m:Nat) (z:List UInt8) (e:Int):Option (Int×Int):=
 bd (α:=List UInt8×Int×Bool) (
 br (decide (e<0)) (
 some (z,e,true)) <|
 some (z,e,decide ((↑z.length:Int)<=e))) fun(D,H,I)=>
 br I (
 some (0,0)) <|
 jn (V:=Unit) (
 aL (dW m) m (D,H,1)) fun _=>
 some (0,0)
theorem aO4:CC (mo 321 [.row .u8,jI] (.tup [jI,jI]) (q2 t7)):=mq (cs aPa cn) ⟨[(1,⟨[],[eR 0 .u8,eI 1,eB 17]⟩),(4,⟨[],[eR 0 .u8,eI 1,eI 6,eB 27]⟩),(12,⟨[],[eR 0 .u8,eI 1,eI 6,eI 7,eB 73]⟩)],[],[(8,false,⟨[],[eR 0 .u8,eI 1,eI 6,eI 7,eI 8]⟩,2,⟨[],[eR 0 .u8,eI 1,eI 6,eI 7]⟩),(4,true,⟨[],[eR 0 .u8,eI 1,eI 6]⟩,0,⟨[],[]⟩)]⟩ Tryz.f321
def mG (m:Nat):Lp (List UInt8×Int) (Unit⊕Bool):=fun(e,z)=>
 br (decide (z<192)) (
 jn (V:=List UInt8×Int) (
 gd (cR .u8 ([]++e).length) <|
 gd (cR .u8 ([]++e++ [UInt8.ofNat (IntKind.u8.wrap z).toNat]).length) <|
 bd (t7 m ([]++e++ [UInt8.ofNat (IntKind.u8.wrap z).toNat]) 0) fun(R,M)=>
 br (M==(↑([]++e++ [UInt8.ofNat (IntKind.u8.wrap z).toNat]).length:Int)) (
 some (.inr (.inr (.inr true)))) <|
 br ((↑e.length:Int)==1) (
 gd (cR .u8 ([]++([]++e++ [UInt8.ofNat (IntKind.u8.wrap z).toNat])).length) <|
 gd (cR .u8 ([]++([]++e++ [UInt8.ofNat (IntKind.u8.wrap z).toNat])++ [UInt8.ofNat (Int.toNat 129)]).length) <|
 bd (t7 m ([]++([]++e++ [UInt8.ofNat (IntKind.u8.wrap z).toNat])++ [UInt8.ofNat (Int.toNat 129)]) 0) fun(W,H)=>
 br (H==3) (
 some (.inr (.inr (.inr true)))) <|
 some (.inl (e,z))) <|
 some (.inl (e,z))) fun(I,D)=>
 gd (cN .i64 (D+1)) <|
 some (.inl (I,D+1))) <|
 some (.inr (.inl ()))
def kV (m:Nat) (e:List UInt8):Option Bool:=
 bd (α:=List UInt8×Bool) (
 br (decide ((↑e.length:Int)<1)) (
 some (e,true)) <|
 some (e,decide (2<(↑e.length:Int)))) fun(z,D)=>
 br D (
 some false) <|
 jn (V:=Unit) (
 aL (mG m) m (z,128)) fun _=>
 some false
theorem aOR:CC (mo 288 [.row .u8] oB kV):=mq (cs aO4 cn) ⟨[(1,⟨[],[eR 0 .u8,eB 17]⟩)],[(5,true,⟨[],[eR 0 .u8,eI 3]⟩)],[(4,true,⟨[],[eR 0 .u8,eI 3]⟩,0,⟨[],[]⟩)]⟩ Tryz.f288
def wO (m:Nat):Lp (OU×List Int×Int×Int) (OU⊕Bool):=fun(M,z,D,e)=>
 br (decide (e<D)) (
 gd (0<=e/\e<(↑z.length:Int)) <|
 bd z[e.toNat]? fun H=>
 bd (α:=OU×List Int×Int×Int×Bool) (
 br (decide (H<0)) (
 some (M,z,D,e,true)) <|
 some (M,z,D,e,decide (9999<H))) fun(R,W,Y,I,x18)=>
 br x18 (
 some (.inr (.inr false))) <|
 gd (cN .i64 (I+1)) <|
 some (.inl (R,W,Y,I+1))) <|
 some (.inr (.inl M))
def OR (m:Nat) (e:OU):Option Bool:=
 bd (α:=OU×Bool) (
 br (decide (e.State<0)) (
 some (e,true)) <|
 br (decide (3<e.State)) (
 some (e,true)) <|
 br (decide (8<(↑e.Args.length:Int))) (
 some (e,true)) <|
 bd (EU m e.State) fun H=>
 br (!H) (
 br e.Mark (
 some (e,true)) <|
 some (e,decide (0<(↑e.Args.length:Int)))) <|
 some (e,false)) fun(z,I)=>
 br I (
 some false) <|
 jn (V:=OU) (
 aL (wO m) m (z,z.Args,(↑z.Args.length:Int),0)) fun D=>
 bd (α:=Bool) (
 br ((↑D.Part.length:Int)==0) (
 some true) <|
 br (D.State==0) (
 bd (kV m D.Part) fun M=>
 some M) <|
 some false) fun R=>
 some R
theorem aOB:CC (mo 247 [jS .iVp] oB OR):=mq (cs aOQ (cs aOR cn)) ⟨[(1,⟨[(1,.ptr 200 0)],[.sto 200 .iVp [],eB 34]⟩),(6,⟨[(1,.ptr 200 0)],[.sto 200 .iVp [],eR 36 .int,eI 37,eI 38,eB 47]⟩),(9,⟨[],[eB 2]⟩)],[],[(4,true,⟨[(1,.ptr 200 0)],[.sto 200 .iVp [],eR 36 .int,eI 37,eI 38]⟩,0,⟨[(1,.ptr 200 0)],[.sto 200 .iVp []]⟩)]⟩ Tryz.f247
def pS (m:Nat) (e:oN):Option Bool:=
 bd (α:=Bool) (
 br (decide (0<=e.Fg)) (
 br (decide (e.Fg<=8)) (
 br (decide (0<=e.Bg)) (
 some (decide (e.Bg<=8))) <|
 some false) <|
 some false) <|
 some false) fun z=>
 some z
theorem aMa:CC (mo 290 [jS .iAttr] oB pS):=mq cn ⟨[(1,⟨[],[eB 2]⟩)],[],[]⟩ Tryz.f290
def AM (m:Nat) (e:jB):Option Bool:=
 bd (α:=Bool) (
 bd (ES m e.R) fun z=>
 br z (
 bd (pS m e.A) fun D=>
 some D) <|
 some false) fun H=>
 some H
theorem aMf:CC (mo 322 [jS .iCell] oB AM):=mq (cs aMi (cs aMa cn)) ⟨[(1,⟨[],[eB 2]⟩)],[],[]⟩ Tryz.f322
def rA (m:Nat):Lp (List jB×Int×Int) (Unit⊕Bool):=fun(z,D,e)=>
 br (decide (e<D)) (
 gd (0<=e/\e<(↑z.length:Int)) <|
 bd z[e.toNat]? fun H=>
 bd (AM m H) fun I=>
 br (!I) (
 some (.inr (.inr false))) <|
 gd (cN .i64 (e+1)) <|
 some (.inl (z,D,e+1))) <|
 some (.inr (.inl ()))
def AN (m:Nat) (e:fY):Option Bool:=
 bd (α:=fY×Bool) (
 br (decide (e.W<1)) (
 some (e,true)) <|
 br (decide (120<e.W)) (
 some (e,true)) <|
 br (decide (e.H<1)) (
 some (e,true)) <|
 br (decide (120<e.H)) (
 some (e,true)) <|
 gd (cN .i64 (e.W*e.H)) <|
 br (decide (4000<e.W*e.H)) (
 some (e,true)) <|
 gd (cN .i64 (e.W*e.H)) <|
 some (e,(↑e.Cells.length:Int) !=e.W*e.H)) fun(z,D)=>
 br D (
 some false) <|
 jn (V:=Unit) (
 aL (rA m) m (z.Cells,(↑z.Cells.length:Int),0)) fun _=>
 some true
theorem aOS:CC (mo 289 [jS .iGrid] oB AN):=mq (cs aMf cn) ⟨[(1,⟨[(1,.ptr 200 0)],[.sto 200 .iGrid [],eB 41]⟩)],[],[(4,true,⟨[],[eR 43 .iCell,eI 44,eI 45]⟩,0,⟨[],[]⟩)]⟩ Tryz.f289
def vB (m:Nat):Lp (pX×List jB×Int×Int) (pX⊕Bool):=fun(H,z,I,e)=>
 br (decide (e<I)) (
 gd (0<=e/\e<(↑z.length:Int)) <|
 bd z[e.toNat]? fun M=>
 bd (AM m M) fun D=>
 br (!D) (
 some (.inr (.inr false))) <|
 gd (cN .i64 (e+1)) <|
 some (.inl (H,z,I,e+1))) <|
 some (.inr (.inl H))
def FX (m:Nat) (e:pX):Option Bool:=
 jn (V:=pX) (
 aL (vB m) m (e,e.Cells,(↑e.Cells.length:Int),0)) fun z=>
 bd (α:=Bool) (
 br (decide (1<=(↑z.Cells.length:Int))) (
 some (decide ((↑z.Cells.length:Int)<=120))) <|
 some false) fun D=>
 some D
theorem aOT:CC (mo 291 [jS .iRow] oB FX):=mq (cs aMf cn) ⟨[(7,⟨[],[eB 2]⟩)],[],[(2,true,⟨[(1,.ptr 200 0)],[.sto 200 .iRow [],eR 6 .iCell,eI 7,eI 8]⟩,0,⟨[(1,.ptr 200 0)],[.sto 200 .iRow []]⟩)]⟩ Tryz.f291
def uA (m:Nat):Lp (List pX×Int×Int) (Unit⊕Bool):=fun(z,D,e)=>
 br (decide (e<D)) (
 gd (0<=e/\e<(↑z.length:Int)) <|
 bd z[e.toNat]? fun H=>
 bd (FX m H) fun I=>
 br (!I) (
 some (.inr (.inr false))) <|
 gd (cN .i64 (e+1)) <|
 some (.inl (z,D,e+1))) <|
 some (.inr (.inl ()))
def t8 (m:Nat):Lp (nG×List Int×Int×Int) (nG⊕Bool):=fun(z,D,H,e)=>
 br (decide (e<H)) (
 gd (0<=e/\e<(↑D.length:Int)) <|
 bd D[e.toNat]? fun I=>
 bd (α:=nG×List Int×Int×Int×Bool) (
 br (decide (I<0)) (
 some (z,D,H,e,true)) <|
 br (decide (z.W<=I)) (
 some (z,D,H,e,true)) <|
 br (decide (0<e)) (
 gd (cN .i64 (e-1)) <|
 gd (0<=e-1/\e-1<(↑z.Tabs.length:Int)) <|
 bd (z.Tabs[(e-1).toNat]?) fun R=>
 some (z,D,H,e,decide (I<=R))) <|
 some (z,D,H,e,false)) fun(Y,x24,x25,M,x27)=>
 br x27 (
 some (.inr (.inr false))) <|
 gd (cN .i64 (M+1)) <|
 some (.inl (Y,x24,x25,M+1))) <|
 some (.inr (.inl z))
def KB (m:Nat) (D:nG):Option Bool:=
 bd (α:=nG×Bool) (
 bd (AN m D.Main) fun x2=>
 br (!x2) (
 some (D,true)) <|
 bd (AN m D.Alt) fun x3=>
 br (!x3) (
 some (D,true)) <|
 br (D.Main.W !=D.W) (
 some (D,true)) <|
 br (D.Main.H !=D.H) (
 some (D,true)) <|
 br (D.Alt.W !=D.W) (
 some (D,true)) <|
 some (D,D.Alt.H !=D.H)) fun(z,x5)=>
 br x5 (
 some false) <|
 bd (α:=nG×Bool) (
 br (decide (z.X<0)) (
 some (z,true)) <|
 br (decide (z.W<=z.X)) (
 some (z,true)) <|
 br (decide (z.Y<0)) (
 some (z,true)) <|
 br (decide (z.H<=z.Y)) (
 some (z,true)) <|
 br z.Wrap (
 gd (cN .i64 (z.W-1)) <|
 br (z.X !=z.W-1) (
 some (z,true)) <|
 br (decide (z.SaveX<0)) (
 some (z,true)) <|
 br (decide (z.W<=z.SaveX)) (
 some (z,true)) <|
 br (decide (z.SaveY<0)) (
 some (z,true)) <|
 br (decide (z.H<=z.SaveY)) (
 some (z,true)) <|
 bd (pS m z.A) fun x6=>
 br (!x6) (
 some (z,true)) <|
 bd (pS m z.SaveA) fun x7=>
 some (z,!x7)) <|
 br (decide (z.SaveX<0)) (
 some (z,true)) <|
 br (decide (z.W<=z.SaveX)) (
 some (z,true)) <|
 br (decide (z.SaveY<0)) (
 some (z,true)) <|
 br (decide (z.H<=z.SaveY)) (
 some (z,true)) <|
 bd (pS m z.A) fun x8=>
 br (!x8) (
 some (z,true)) <|
 bd (pS m z.SaveA) fun x9=>
 some (z,!x9)) fun(e,R)=>
 br R (
 some false) <|
 bd (α:=nG×Bool) (
 br (decide (e.Top<0)) (
 some (e,true)) <|
 br (decide (e.H<=e.Bot)) (
 some (e,true)) <|
 br (decide (e.Bot<e.Top)) (
 some (e,true)) <|
 br (e.Top==e.Bot) (
 br (e.H !=1) (
 some (e,true)) <|
 br (decide (e.Limit<0)) (
 some (e,true)) <|
 br (decide (100<e.Limit)) (
 some (e,true)) <|
 some (e,decide (e.Limit<(↑e.Back.length:Int)))) <|
 br (decide (e.Limit<0)) (
 some (e,true)) <|
 br (decide (100<e.Limit)) (
 some (e,true)) <|
 some (e,decide (e.Limit<(↑e.Back.length:Int)))) fun(I,x13)=>
 br x13 (
 some false) <|
 jn (V:=nG) (
 aL (t8 m) m (I,I.Tabs,(↑I.Tabs.length:Int),0)) fun M=>
 jn (V:=Unit) (
 aL (uA m) m (M.Back,(↑M.Back.length:Int),0)) fun _=>
 some true
theorem aOC:CC (mo 248 [jS .iScr] oB KB):=mq (cs aOS (cs aMa (cs aOT cn))) ⟨[(1,⟨[(1,.ptr 200 0)],[.sto 200 .iScr [],eB 48]⟩),(3,⟨[(1,.ptr 200 0)],[.sto 200 .iScr [],eB 118]⟩),(5,⟨[(1,.ptr 200 0)],[.sto 200 .iScr [],eB 165]⟩),(10,⟨[(1,.ptr 200 0)],[.sto 200 .iScr [],eR 167 .int,eI 168,eI 169,eB 195]⟩)],[],[(8,true,⟨[(1,.ptr 200 0)],[.sto 200 .iScr [],eR 167 .int,eI 168,eI 169]⟩,0,⟨[(1,.ptr 200 0)],[.sto 200 .iScr []]⟩),(14,true,⟨[],[eR 198 .iRow,eI 199,eI 200]⟩,2,⟨[],[]⟩)]⟩ Tryz.f248
def AU (m:Nat) (e:uI):Option Bool:=
 bd (α:=Bool) (
 bd (OR m e.P) fun z=>
 br z (
 bd (KB m e.S) fun D=>
 some D) <|
 some false) fun H=>
 some H
theorem aOg:CC (mo 207 [jS .iTerm] oB AU):=mq (cs aOB (cs aOC cn)) ⟨[(1,⟨[],[eB 2]⟩)],[],[]⟩ Tryz.f207
def AO (m:Nat) (z:dL):Option Bool:=
 bd (α:=dL×Bool) (
 br (decide (z.Id<1)) (
 some (z,true)) <|
 br (decide (1000000<z.Id)) (
 some (z,true)) <|
 br (decide (60<(↑z.Cmd.size:Int))) (
 some (z,true)) <|
 br (decide (60<(↑z.Dir.size:Int))) (
 some (z,true)) <|
 bd (AU m z.Term) fun D=>
 some (z,!D)) fun(e,H)=>
 br H (
 some false) <|
 br (e.Life==1) (
 bd (α:=Bool) (
 br (decide (1<=e.Pid)) (
 br (decide (e.Pid<=1000000)) (
 some (e.Code==0)) <|
 some false) <|
 some false) fun I=>
 some I) <|
 br (e.Life==2) (
 bd (α:=Bool) (
 br (e.Pid==0) (
 br (decide (0<=e.Code)) (
 some (decide (e.Code<=255))) <|
 some false) <|
 some false) fun M=>
 some M) <|
 br (e.Life==3) (
 bd (α:=Bool) (
 br (e.Pid==0) (
 some (e.Code==0)) <|
 some false) fun R=>
 some R) <|
 some false
theorem aNQ:CC (mo 160 [jS .iPane] oB AO):=mq (cs aOg cn) ⟨[(1,⟨[(1,.ptr 200 0)],[.sto 200 .iPane [],eB 28]⟩),(5,⟨[],[eB 2]⟩),(7,⟨[],[eB 2]⟩),(9,⟨[],[eB 2]⟩)],[],[]⟩ Tryz.f160
def xS (m:Nat):Lp (Int×List lF×Int×Int) (Unit⊕Int):=fun(H,z,I,e)=>
 br (decide (e<I)) (
 gd (0<=e/\e<(↑z.length:Int)) <|
 bd z[e.toNat]? fun M=>
 bd (nZ m M.Tree) fun R=>
 bd (dP m R H) fun D=>
 br D (
 some (.inr (.inr e))) <|
 gd (cN .i64 (e+1)) <|
 some (.inl (H,z,I,e+1))) <|
 some (.inr (.inl ()))
def KF (m:Nat) (e:bA) (z:Int):Option Int:=
 jn (V:=Unit) (
 aL (xS m) m (z,e.Wins,(↑e.Wins.length:Int),0)) fun _=>
 some (-1)
theorem aOh:CC (mo 208 [jS .iState,jI] oI (q2 KF)):=mq (cs c51 (cs c97 cn)) ⟨[],[],[(2,true,⟨[],[eI 1,eR 8 .iWin,eI 9,eI 10]⟩,0,⟨[],[]⟩)]⟩ Tryz.f208
def mR (m:Nat):Lp (bS×Int×List bS×Int×Int) (bS⊕bS×Bool):=fun(M,D,z,H,e)=>
 br (decide (e<H)) (
 gd (0<=e/\e<(↑z.length:Int)) <|
 bd (z[0+e.toNat]?) fun I=>
 br (I.Pane==D) (
 some (.inr (.inr (I,true)))) <|
 gd (cN .i64 (e+1)) <|
 some (.inl (M,D,z,H,e+1))) <|
 some (.inr (.inl M))
def CF (m:Nat) (z:List bV) (D H I:Int):Option (bS×Bool):=
 bd (AP m z D H) fun(e,M)=>
 jn (V:=bS) (
 aL (mR m) m (bS.mk 0 0 0 0 0,I,e,(↑e.length:Int),0)) fun R=>
 some (bS.mk 0 0 0 0 0,false)
theorem aOi:CC (mo 209 [.row .iNode,jI,jI,jI] (.tup [jS .iRect,.B]) (q4 CF)):=mq (cs aLV cn) ⟨[],[],[(3,true,⟨[(8,.ptr 900 0)],[.sto 900 .iRect [],eI 3,eO 21 .iRect 19000000,eI 22,eI 23]⟩,0,⟨[(8,.ptr 900 0)],[.sto 900 .iRect []]⟩)]⟩ Tryz.f209
def OQ (m:Nat) (e:bA) (z:Int):Option (Int×Int):=
 bd (KF m e z) fun D=>
 br (decide (D<0)) (
 some (0,0)) <|
 gd (0<=D/\D<(↑e.Wins.length:Int)) <|
 bd e.Wins[D.toNat]? fun I=>
 bd (α:=bA×lF×Int×Bool) (
 br I.Zoom (
 some (e,I,z,I.Active==z)) <|
 some (e,I,z,false)) fun(M,Y,x7,x8)=>
 br x8 (
 some (M.W,M.H)) <|
 bd (CF m Y.Tree M.W M.H x7) fun(R,x10)=>
 some (R.W,R.H)
theorem aNR:CC (mo 161 [jS .iState,jI] (.tup [jI,jI]) (q2 OQ)):=mq (cs aOh (cs aOi cn)) ⟨[(5,⟨[(2,.ptr 300 0),(7,.ptr 800 0)],[.sto 300 .iState [],.sto 800 .iWin [],eI 1,eB 27]⟩)],[],[]⟩ Tryz.f161
def rF (m:Nat):Lp (bA×List Int×List dL×Int×Int) (Unit⊕Bool):=fun(M,v4,v5,v6,z)=>
 br (decide (z<v6)) (
 jn (V:=bA×List Int×List dL×Int×Int) (
 gd (0<=z/\z<(↑v5.length:Int)) <|
 bd v5[z.toNat]? fun R=>
 bd (α:=bA×dL×List Int×List dL×Int×Int×Bool) (
 bd (AO m R) fun x9=>
 br (!x9) (
 some (M,R,v4,v5,v6,z,true)) <|
 br (decide (M.Next<=R.Id)) (
 some (M,R,v4,v5,v6,z,true)) <|
 br (decide (0<z)) (
 gd (cN .i64 (z-1)) <|
 gd (0<=z-1/\z-1<(↑M.Panes.length:Int)) <|
 bd (M.Panes[(z-1).toNat]?) fun x10=>
 some (M,R,v4,v5,v6,z,decide (R.Id<=x10.Id))) <|
 some (M,R,v4,v5,v6,z,false)) fun(D,e,Y,x14,x15,x16,x17)=>
 br x17 (
 some (.inr (.inr (.inr false)))) <|
 bd (OQ m D e.Id) fun(x18,x19)=>
 bd (α:=bA×dL×List Int×List dL×Int×Int×Bool) (
 br (e.Term.S.W !=x18) (
 some (D,e,Y,x14,x15,x16,true)) <|
 br (e.Term.S.H !=x19) (
 some (D,e,Y,x14,x15,x16,true)) <|
 some (D,e,Y,x14,x15,x16,e.Term.S.Limit !=D.Limit)) fun(x20,I,x22,x23,x24,x25,x26)=>
 br x26 (
 some (.inr (.inr (.inr false)))) <|
 bd (α:=bA×dL×List Int×List dL×Int×Int×Bool) (
 br (I.Life==1) (
 bd (dP m x22 I.Pid) fun x27=>
 some (x20,I,x22,x23,x24,x25,x27)) <|
 some (x20,I,x22,x23,x24,x25,false)) fun(x28,x29,x30,x31,x32,x33,x34)=>
 br x34 (
 some (.inr (.inr (.inr false)))) <|
 br (x29.Life==1) (
 gd (cR .int (x30++ [x29.Pid]).length) <|
 some (.inl (x28,x30++ [x29.Pid],x31,x32,x33))) <|
 some (.inl (x28,x30,x31,x32,x33))) fun(v35,v36,v37,v38,v39)=>
 gd (cN .i64 (v39+1)) <|
 some (.inl (v35,v36,v37,v38,v39+1))) <|
 some (.inr (.inl ()))
def xV (m:Nat) (e:bA):Option Bool:=
 jn (V:=Unit) (
 aL (rF m) m (e,[],e.Panes,(↑e.Panes.length:Int),0)) fun _=>
 some true
theorem c96:CC (mo 96 [jS .iState] oB xV):=mq (cs aNQ (cs aNR (cs c97 cn))) ⟨[(5,⟨[(1,.ptr 200 0),(5,.ptr 600 0)],[.sto 200 .iState [],.sto 600 .iPane [],eO 3 .int 900,eR 10 .iPane,eI 11,eI 12,eB 42]⟩),(8,⟨[(1,.ptr 200 0),(5,.ptr 600 0)],[.sto 200 .iState [],.sto 600 .iPane [],eO 3 .int 900,eR 10 .iPane,eI 11,eI 12,eB 72]⟩),(10,⟨[(1,.ptr 200 0),(5,.ptr 600 0)],[.sto 200 .iState [],.sto 600 .iPane [],eO 3 .int 900,eR 10 .iPane,eI 11,eI 12,eB 81]⟩)],[(14,true,⟨[(1,.ptr 200 0)],[.sto 200 .iState [],eO 3 .int 900,eR 10 .iPane,eI 11,eI 12]⟩)],[(3,true,⟨[(1,.ptr 200 0)],[.sto 200 .iState [],eO 3 .int 900,eR 10 .iPane,eI 11,eI 12]⟩,0,⟨[],[]⟩)]⟩ Tryz.f96
def sO (m:Nat) (e:bA):Option Bool:=
 bd (CA m e.W e.H) fun(x2,D)=>
 bd (α:=bA×Bool) (
 br (!D) (
 some (e,true)) <|
 br (decide (e.Limit<0)) (
 some (e,true)) <|
 br (decide (100<e.Limit)) (
 some (e,true)) <|
 br (decide (e.Next<1)) (
 some (e,true)) <|
 br (decide (1000000<e.Next)) (
 some (e,true)) <|
 br (decide (24<(↑e.Panes.length:Int))) (
 some (e,true)) <|
 br (decide (12<(↑e.Wins.length:Int))) (
 some (e,true)) <|
 some (e,decide (8<(↑e.Sess.length:Int)))) fun(z,I)=>
 br I (
 some false) <|
 bd (α:=Bool) (
 bd (CJ m z) fun M=>
 br M (
 bd (CI m z) fun R=>
 br R (
 bd (xV m z) fun Y=>
 some Y) <|
 some false) <|
 some false) fun x9=>
 some x9
theorem c42:CC (mo 42 [jS .iState] oB sO):=mq (cs c93 (cs c94 (cs c95 (cs c96 cn)))) ⟨[(2,⟨[(1,.ptr 200 0)],[.sto 200 .iState [],eB 52]⟩),(4,⟨[],[eB 2]⟩)],[],[]⟩ Tryz.f42
def oT (m:Nat):Lp (fL×List Int×List jL×Int×Int) (fL⊕Bool):=fun(D,H,I,M,z)=>
 br (decide (z<M)) (
 gd (0<=z/\z<(↑I.length:Int)) <|
 bd I[z.toNat]? fun e=>
 bd (α:=fL×jL×List Int×List jL×Int×Int×Bool) (
 br (decide (e.Pid<1)) (
 some (D,e,H,I,M,z,true)) <|
 br (decide (D.Next<=e.Pid)) (
 some (D,e,H,I,M,z,true)) <|
 br (decide (0<z)) (
 gd (cN .i64 (z-1)) <|
 gd (0<=z-1/\z-1<(↑D.Live.length:Int)) <|
 bd (D.Live[(z-1).toNat]?) fun x11=>
 br (decide (e.Pid<=x11.Pid)) (
 some (D,e,H,I,M,z,true)) <|
 br (decide (e.Pane<1)) (
 some (D,e,H,I,M,z,true)) <|
 br (decide (1000000<e.Pane)) (
 some (D,e,H,I,M,z,true)) <|
 bd (dP m H e.Pane) fun x12=>
 some (D,e,H,I,M,z,x12)) <|
 br (decide (e.Pane<1)) (
 some (D,e,H,I,M,z,true)) <|
 br (decide (1000000<e.Pane)) (
 some (D,e,H,I,M,z,true)) <|
 bd (dP m H e.Pane) fun x13=>
 some (D,e,H,I,M,z,x13)) fun(x14,R,W,x17,x18,Y,x20)=>
 br x20 (
 some (.inr (.inr false))) <|
 gd (cR .int (W++ [R.Pane]).length) <|
 gd (cN .i64 (Y+1)) <|
 some (.inl (x14,W++ [R.Pane],x17,x18,Y+1))) <|
 some (.inr (.inl D))
def wN (m:Nat) (e:fL):Option Bool:=
 jn (V:=fL) (
 aL (oT m) m (e,[],e.Live,(↑e.Live.length:Int),0)) fun z=>
 bd (α:=Bool) (
 br (decide (1<=z.Next)) (
 some (decide (z.Next<=1000000))) <|
 some false) fun D=>
 some D
theorem c43:CC (mo 43 [jS .iTable] oB wN):=mq (cs c97 cn) ⟨[(5,⟨[(1,.ptr 200 0),(5,.ptr 600 0)],[.sto 200 .iTable [],.sto 600 .iProc [],eO 3 .int 700,eR 8 .iProc,eI 9,eI 10,eB 56]⟩),(9,⟨[],[eB 2]⟩)],[],[(3,true,⟨[(1,.ptr 200 0)],[.sto 200 .iTable [],eO 3 .int 700,eR 8 .iProc,eI 9,eI 10]⟩,0,⟨[(1,.ptr 200 0)],[.sto 200 .iTable []]⟩)]⟩ Tryz.f43
def II (m:Nat) (e:oK):Option Bool:=
 bd (α:=Bool) (
 br (e.Kind==0) (
 br (e.A==0) (
 br (e.B==0) (
 br (e.C==0) (
 br (decide (e.Name=ByteArray.mk #[])) (
 br (decide (e.Text=ByteArray.mk #[])) (
 br (decide (e.Dir=ByteArray.mk #[])) (
 some ((↑e.Data.length:Int)==0)) <|
 some false) <|
 some false) <|
 some false) <|
 some false) <|
 some false) <|
 some false) <|
 some false) fun z=>
 some z
theorem c44:CC (mo 44 [jS .iOp] oB II):=mq cn ⟨[(1,⟨[],[eB 2]⟩)],[],[]⟩ Tryz.f44
def FY (m:Nat) (z:Int):Option (List Bool):=
 bd (α:=Int×Bool) (
 br (z==1) (
 some (z,z==1)) <|
 some (z,z==2)) fun(e,H)=>
 br H (
 some ([false,false,false,true,true,false])) <|
 br (e==3) (
 some ([true,true,false,false,true,false])) <|
 br (e==5) (
 some ([true,false,false,false,false,true])) <|
 bd (α:=Int×Bool) (
 br (e==6) (
 some (e,e==6)) <|
 br (e==9) (
 some (e,e==9)) <|
 br (e==12) (
 some (e,e==12)) <|
 some (e,e==13)) fun(D,I)=>
 br I (
 some ([true,true,false,false,false,false])) <|
 br (D==10) (
 some ([true,true,true,false,false,false])) <|
 br (D==11) (
 some ([true,false,false,true,false,false])) <|
 some ([true,false,false,false,false,false])
theorem c98:CC (mo 98 [jI] (.one (.own .bool 99)) FY):=mq cn ⟨[],[(4,false,⟨[],[eI 3,eB 4]⟩),(13,false,⟨[],[eI 3,eB 14]⟩)],[]⟩ Tryz.f98
def nL (m:Nat) (z:Bool) (e D H:Int):Option Bool:=
 br (!z) (
 some (e==0)) <|
 bd (α:=Bool) (
 br (decide (D<=e)) (
 some (decide (e<=H))) <|
 some false) fun I=>
 some I
theorem c99:CC (mo 99 [.B,jI,jI,jI] oB (q4 nL)):=mq cn ⟨[(3,⟨[],[eB 8]⟩)],[],[]⟩ Tryz.f99
def xP (m:Nat) (a1:oK):Option Bool:=
 bd (α:=oK×Bool) (
 br (decide (a1.Kind<1)) (
 some (a1,true)) <|
 some (a1,decide (14<a1.Kind))) fun(M,x3)=>
 br x3 (
 some false) <|
 bd (FY m M.Kind) fun W=>
 bd (α:=oK×List Bool×Int×Int×Int) (
 br (M.Kind==12) (
 some (M,W,120,1,120)) <|
 br (M.Kind==3) (
 some (M,W,1000000,0,1)) <|
 br (M.Kind==6) (
 some (M,W,1000000,0,255)) <|
 br (M.Kind==10) (
 some (M,W,1000000,68,85)) <|
 some (M,W,1000000,1,1000000)) fun(R,H,x7,x8,x9)=>
 bd (α:=oK×List Bool×Bool) (
 gd ((0:Int)<=(0:Int)/\(0:Int)<(↑H.length:Int)) <|
 bd (H[0+Int.toNat 0]?) fun x10=>
 bd (nL m x10 R.A 1 x7) fun x11=>
 br (!x11) (
 some (R,H,true)) <|
 gd ((0:Int)<=(1:Int)/\(1:Int)<(↑H.length:Int)) <|
 bd (H[0+Int.toNat 1]?) fun x12=>
 bd (nL m x12 R.B x8 x9) fun x13=>
 br (!x13) (
 some (R,H,true)) <|
 gd ((0:Int)<=(2:Int)/\(2:Int)<(↑H.length:Int)) <|
 bd (H[0+Int.toNat 2]?) fun x14=>
 bd (nL m x14 R.C 1 120) fun x15=>
 br (!x15) (
 some (R,H,true)) <|
 gd ((0:Int)<=(5:Int)/\(5:Int)<(↑H.length:Int)) <|
 bd (H[0+Int.toNat 5]?) fun x16=>
 bd (nL m x16 (↑R.Data.length:Int) 1 2000) fun x17=>
 some (R,H,!x17)) fun(D,I,x20)=>
 br x20 (
 some false) <|
 bd (α:=oK×List Bool×Bool) (
 br (D.Kind==10) (
 br (D.B !=76) (
 br (D.B !=82) (
 br (D.B !=85) (
 some (D,I,D.B !=68)) <|
 some (D,I,false)) <|
 some (D,I,false)) <|
 some (D,I,false)) <|
 some (D,I,false)) fun(e,z,x23)=>
 br x23 (
 some false) <|
 bd (α:=oK×Bool) (
 gd ((0:Int)<=(3:Int)/\(3:Int)<(↑z.length:Int)) <|
 bd (z[0+Int.toNat 3]?) fun x24=>
 br x24 (
 bd (pT m e.Name) fun x25=>
 br (!x25) (
 some (e,true)) <|
 gd ((0:Int)<=(3:Int)/\(3:Int)<(↑z.length:Int)) <|
 bd (z[0+Int.toNat 3]?) fun x26=>
 br (!x26) (
 br (!decide (e.Name=ByteArray.mk #[])) (
 some (e,true)) <|
 gd ((0:Int)<=(4:Int)/\(4:Int)<(↑z.length:Int)) <|
 bd (z[0+Int.toNat 4]?) fun x27=>
 br (!x27) (
 br (!decide (e.Text=ByteArray.mk #[])) (
 some (e,true)) <|
 some (e,!decide (e.Dir=ByteArray.mk #[]))) <|
 some (e,false)) <|
 gd ((0:Int)<=(4:Int)/\(4:Int)<(↑z.length:Int)) <|
 bd (z[0+Int.toNat 4]?) fun x28=>
 br (!x28) (
 br (!decide (e.Text=ByteArray.mk #[])) (
 some (e,true)) <|
 some (e,!decide (e.Dir=ByteArray.mk #[]))) <|
 some (e,false)) <|
 gd ((0:Int)<=(3:Int)/\(3:Int)<(↑z.length:Int)) <|
 bd (z[0+Int.toNat 3]?) fun x29=>
 br (!x29) (
 br (!decide (e.Name=ByteArray.mk #[])) (
 some (e,true)) <|
 gd ((0:Int)<=(4:Int)/\(4:Int)<(↑z.length:Int)) <|
 bd (z[0+Int.toNat 4]?) fun x30=>
 br (!x30) (
 br (!decide (e.Text=ByteArray.mk #[])) (
 some (e,true)) <|
 some (e,!decide (e.Dir=ByteArray.mk #[]))) <|
 some (e,false)) <|
 gd ((0:Int)<=(4:Int)/\(4:Int)<(↑z.length:Int)) <|
 bd (z[0+Int.toNat 4]?) fun x31=>
 br (!x31) (
 br (!decide (e.Text=ByteArray.mk #[])) (
 some (e,true)) <|
 some (e,!decide (e.Dir=ByteArray.mk #[]))) <|
 some (e,false)) fun(Y,x33)=>
 br x33 (
 some false) <|
 bd (α:=Bool) (
 br (decide ((↑Y.Text.size:Int)<=60)) (
 some (decide ((↑Y.Dir.size:Int)<=60))) <|
 some false) fun x34=>
 some x34
theorem c45:CC (mo 45 [jS .iOp] oB xP):=mq (cs c98 (cs c99 (cs aKv cn))) ⟨[(1,⟨[(1,.ptr 200 0)],[.sto 200 .iOp [],eB 14]⟩),(20,⟨[(1,.ptr 200 0)],[.sto 200 .iOp [],eO 3 .bool 18000000,eB 65]⟩),(22,⟨[(1,.ptr 200 0)],[.sto 200 .iOp [],eO 3 .bool 18000000,eB 88]⟩),(24,⟨[(1,.ptr 200 0)],[.sto 200 .iOp [],eB 124]⟩),(26,⟨[],[eB 2]⟩)],[(20,false,⟨[(1,.ptr 200 0)],[.sto 200 .iOp [],eO 3 .bool 18000000,eI 4,eI 5,eI 6]⟩)],[]⟩ Tryz.f45
def U8 (m:Nat):Lp (Int×List gB×Int×Int) Int:=fun(z,D,H,e)=>
 br (decide (e<H)) (
 gd (0<=e/\e<(↑D.length:Int)) <|
 bd D[e.toNat]? fun I=>
 gd (cN .i64 (z+(↑I.Body.length:Int))) <|
 gd (cN .i64 (e+1)) <|
 some (.inl (z+(↑I.Body.length:Int),D,H,e+1))) <|
 some (.inr z)
def IG (m:Nat) (e:cO):Option Int:=
 bd (α:=Int) (
 aL (U8 m) m (0,e.Files,(↑e.Files.length:Int),0)) fun z=>
 some z
theorem aNb:CC (mo 103 [jS .iDisk] oI IG):=mq cn ⟨[],[],[(3,false,⟨[],[eI 3,eR 7 .iFile,eI 8,eI 9]⟩,0,⟨[],[eI 3]⟩)]⟩ Tryz.f103
def uY (m:Nat):Lp (ByteArray×Int) (ByteArray⊕Bool):=fun(z,e)=>
 br (decide (e<(↑z.size:Int))) (
 bd (α:=ByteArray×Int×Bool) (
 gd (0<=e) <|
 bd z[e.toNat]? fun x7=>
 br (decide ((↑x7.toNat:Int)<97)) (
 gd (0<=e) <|
 bd z[e.toNat]? fun x8=>
 br (decide ((↑x8.toNat:Int)<48)) (
 gd (0<=e) <|
 bd z[e.toNat]? fun x9=>
 some (z,e,(↑x9.toNat:Int) !=46)) <|
 gd (0<=e) <|
 bd z[e.toNat]? fun H=>
 br (decide (57<(↑H.toNat:Int))) (
 gd (0<=e) <|
 bd z[e.toNat]? fun I=>
 some (z,e,(↑I.toNat:Int) !=46)) <|
 some (z,e,false)) <|
 gd (0<=e) <|
 bd z[e.toNat]? fun M=>
 br (decide (122<(↑M.toNat:Int))) (
 gd (0<=e) <|
 bd z[e.toNat]? fun R=>
 br (decide ((↑R.toNat:Int)<48)) (
 gd (0<=e) <|
 bd z[e.toNat]? fun W=>
 some (z,e,(↑W.toNat:Int) !=46)) <|
 gd (0<=e) <|
 bd z[e.toNat]? fun Y=>
 br (decide (57<(↑Y.toNat:Int))) (
 gd (0<=e) <|
 bd z[e.toNat]? fun x16=>
 some (z,e,(↑x16.toNat:Int) !=46)) <|
 some (z,e,false)) <|
 some (z,e,false)) fun(x17,D,x19)=>
 br x19 (
 some (.inr (.inr false))) <|
 gd (cN .i64 (D+1)) <|
 some (.inl (x17,D+1))) <|
 some (.inr (.inl z))
def vM (m:Nat) (z:ByteArray):Option Bool:=
 jn (V:=ByteArray) (
 aL (uY m) m (z,0)) fun e=>
 bd (α:=Bool) (
 br (decide (1<=(↑e.size:Int))) (
 some (decide ((↑e.size:Int)<=16))) <|
 some false) fun D=>
 some D
theorem aLQ:CC (mo 104 [.S] oB vM):=mq cn ⟨[(4,⟨[],[eS 0,eI 3,eB 37]⟩),(6,⟨[],[eB 2]⟩)],[],[(2,true,⟨[],[eS 0,eI 3]⟩,0,⟨[],[eS 0]⟩)]⟩ Tryz.f104
def u9 (m:Nat):Lp (List Int×List eA×Int×Int) (List Int):=fun(z,D,H,e)=>
 br (decide (e<H)) (
 bd (α:=List Int×List eA×Int×Int) (
 gd (0<=e/\e<(↑D.length:Int)) <|
 bd D[e.toNat]? fun I=>
 br (I.Kind==1) (
 gd (cR .int (z++ [I.Id]).length) <|
 some (z++ [I.Id],D,H,e)) <|
 some (z,D,H,e)) fun(R,W,Y,M)=>
 gd (cN .i64 (M+1)) <|
 some (.inl (R,W,Y,M+1))) <|
 some (.inr z)
def u7 (m:Nat):Lp (cO×List Int×List aT×Int×Int) (cO×List Int):=fun(M,H,I,z,e)=>
 br (decide (e<z)) (
 gd (0<=e/\e<(↑I.length:Int)) <|
 bd I[e.toNat]? fun D=>
 gd (cR .int (H++ [D.Id]).length) <|
 gd (cN .i64 (e+1)) <|
 some (.inl (M,H++ [D.Id],I,z,e+1))) <|
 some (.inr (M,H))
def FW (m:Nat) (e:cO):Option (List Int):=
 bd (α:=cO×List Int) (
 aL (u7 m) m (e,[],e.Kept,(↑e.Kept.length:Int),0)) fun(z,D)=>
 bd (α:=List Int) (
 aL (u9 m) m (D,z.Turns,(↑z.Turns.length:Int),0)) fun H=>
 some H
theorem aNc:CC (mo 105 [jS .iDisk] (.one (.own .int 99)) FW):=mq cn ⟨[],[(12,false,⟨[],[eO 3 .int 900,eR 23 .iTurn,eI 24,eI 25]⟩)],[(3,false,⟨[(1,.ptr 200 0)],[.sto 200 .iDisk [],eO 3 .int 900,eR 10 .iLink,eI 11,eI 12]⟩,0,⟨[(1,.ptr 200 0)],[.sto 200 .iDisk [],eO 3 .int 900]⟩),(8,false,⟨[],[eO 3 .int 900,eR 23 .iTurn,eI 24,eI 25]⟩,2,⟨[],[eO 3 .int 900]⟩)]⟩ Tryz.f105
def s0 (m:Nat):Lp (ByteArray×List aT×Int×Int) (Unit⊕Int):=fun(D,z,H,e)=>
 br (decide (e<H)) (
 gd (0<=e/\e<(↑z.length:Int)) <|
 bd z[e.toNat]? fun I=>
 br (decide (I.Name=D)) (
 some (.inr (.inr I.Id))) <|
 gd (cN .i64 (e+1)) <|
 some (.inl (D,z,H,e+1))) <|
 some (.inr (.inl ()))
def sP (m:Nat) (e:List aT) (z:ByteArray):Option Int:=
 jn (V:=Unit) (
 aL (s0 m) m (z,e,(↑e.length:Int),0)) fun _=>
 some 0
theorem aKz:CC (mo 162 [.row .iLink,.S] oI (q2 sP)):=mq cn ⟨[],[],[(2,true,⟨[],[eS 1,eR 7 .iLink,eI 8,eI 9]⟩,0,⟨[],[]⟩)]⟩ Tryz.f162
def vA (m:Nat) (D:List aT) (e:eA):Option Bool:=
 bd (sP m D e.Name) fun z=>
 bd (vM m e.Name) fun H=>
 br (!H) (
 some false) <|
 br (e.Kind==1) (
 bd (α:=Bool) (
 br (decide (e.To=ByteArray.mk #[])) (
 br (decide (0<e.Id)) (
 some (!decide (0<z))) <|
 some false) <|
 some false) fun I=>
 some I) <|
 br (e.Kind==4) (
 bd (α:=Bool) (
 bd (vM m e.To) fun M=>
 br M (
 br (!decide (e.To=e.Name)) (
 br (e.Id==0) (
 some (decide (0<z))) <|
 some false) <|
 some false) <|
 some false) fun R=>
 some R) <|
 br (e.Kind==5) (
 bd (α:=Bool) (
 br (decide (e.To=ByteArray.mk #[])) (
 br (e.Id==0) (
 some (decide (0<z))) <|
 some false) <|
 some false) fun W=>
 some W) <|
 some false
theorem aNd:CC (mo 106 [.row .iLink,jS .iTurn] oB (q2 vA)):=mq (cs aKz (cs aLQ cn)) ⟨[(6,⟨[],[eB 4]⟩),(8,⟨[],[eB 4]⟩),(10,⟨[],[eB 4]⟩)],[],[]⟩ Tryz.f106
def s8 (m:Nat):Lp (ByteArray×Int×List aT×Bool×List aT×Int×Int) (ByteArray×Int×List aT×Bool):=fun(z,W,Y,D,H,v15,e)=>
 br (decide (e<v15)) (
 gd (0<=e/\e<(↑H.length:Int)) <|
 bd H[e.toNat]? fun I=>
 bd (α:=aT×ByteArray×Int×List aT×Bool×List aT×Int×Int) (
 bd (α:=aT×ByteArray×Int×List aT×Bool×List aT×Int×Int×Bool) (
 br (!D) (
 some (I,z,W,Y,D,H,v15,e,!(Op.bytesLess I.Name.toList z.toList||decide (I.Name=z)))) <|
 some (I,z,W,Y,D,H,v15,e,false)) fun(x18,M,R,x21,x22,x23,x24,x25,x26)=>
 br x26 (
 gd (cR .iLink (x21++ [aT.mk M R]).length) <|
 some (x18,M,R,x21++ [aT.mk M R],true,x23,x24,x25)) <|
 some (x18,M,R,x21,x22,x23,x24,x25)) fun(x27,x28,x29,x30,x31,x32,x33,x34)=>
 gd (cR .iLink (x30++ [x27]).length) <|
 gd (cN .i64 (x34+1)) <|
 some (.inl (x28,x29,x30++ [x27],x31,x32,x33,x34+1))) <|
 some (.inr (z,W,Y,D))
def wR (m:Nat) (z:List aT) (I:ByteArray) (M:Int):Option (List aT):=
 bd (α:=ByteArray×Int×List aT×Bool) (
 aL (s8 m) m (I,M,[],false,z,(↑z.length:Int),0)) fun(D,H,e,R)=>
 bd (α:=List aT) (
 br (!R) (
 gd (cR .iLink (e++ [aT.mk D H]).length) <|
 some (e++ [aT.mk D H])) <|
 some e) fun W=>
 some W
theorem aNV:CC (mo 166 [.row .iLink,.S,jI] (.one (.own .iLink 99)) (q3 wR)):=mq cn ⟨[(6,⟨[(10,.ptr 1100 0)],[.sto 1100 .iLink [],eS 1,eI 2,eO 7 .iLink 1200,eB 8,eR 12 .iLink,eI 13,eI 14,eB 25]⟩)],[(9,false,⟨[(10,.ptr 1100 0)],[.sto 1100 .iLink [],eS 1,eI 2,eO 7 .iLink 1200,eB 8,eR 12 .iLink,eI 13,eI 14]⟩),(13,false,⟨[],[eO 7 .iLink 1200]⟩)],[(4,false,⟨[],[eS 1,eI 2,eO 7 .iLink 1200,eB 8,eR 12 .iLink,eI 13,eI 14]⟩,0,⟨[],[eS 1,eI 2,eO 7 .iLink 1200,eB 8]⟩)]⟩ Tryz.f166
def s7 (m:Nat):Lp (ByteArray×List aT×List aT×Int×Int) (List aT):=fun(M,H,I,R,z)=>
 br (decide (z<R)) (
 bd (α:=ByteArray×List aT×List aT×Int×Int) (
 gd (0<=z/\z<(↑I.length:Int)) <|
 bd I[z.toNat]? fun e=>
 br (!decide (e.Name=M)) (
 gd (cR .iLink (H++ [e]).length) <|
 some (M,H++ [e],I,R,z)) <|
 some (M,H,I,R,z)) fun(W,Y,x13,x14,D)=>
 gd (cN .i64 (D+1)) <|
 some (.inl (W,Y,x13,x14,D+1))) <|
 some (.inr H)
def wP (m:Nat) (e:List aT) (z:ByteArray):Option (List aT):=
 bd (α:=List aT) (
 aL (s7 m) m (z,[],e,(↑e.length:Int),0)) fun D=>
 some D
theorem aNW:CC (mo 167 [.row .iLink,.S] (.one (.own .iLink 99)) (q2 wP)):=mq cn ⟨[],[(7,false,⟨[],[eS 1,eO 5 .iLink 900,eR 9 .iLink,eI 10,eI 11]⟩)],[(3,false,⟨[],[eS 1,eO 5 .iLink 900,eR 9 .iLink,eI 10,eI 11]⟩,0,⟨[],[eO 5 .iLink 900]⟩)]⟩ Tryz.f167
def wQ (m:Nat) (z:List aT) (e:eA):Option (List aT):=
 br (e.Kind==1) (
 bd (wR m z e.Name e.Id) fun H=>
 some H) <|
 bd (sP m z e.Name) fun I=>
 bd (wP m z e.Name) fun D=>
 bd (α:=List aT) (
 br (e.Kind==4) (
 bd (wP m D e.To) fun M=>
 bd (wR m M e.To I) fun R=>
 some R) <|
 some D) fun W=>
 some W
theorem aLR:CC (mo 107 [.row .iLink,jS .iTurn] (.one (.own .iLink 99)) (q2 wQ)):=mq (cs aNV (cs aKz (cs aNW cn))) ⟨[],[(7,false,⟨[],[eO 0 .iLink 34000000]⟩)],[]⟩ Tryz.f107
def qZ (m:Nat):Lp (List aT×List eA×Int×Int) (Unit⊕Bool):=fun(D,z,H,e)=>
 br (decide (e<H)) (
 gd (0<=e/\e<(↑z.length:Int)) <|
 bd z[e.toNat]? fun I=>
 bd (vA m D I) fun M=>
 br (!M) (
 some (.inr (.inr false))) <|
 bd (wQ m D I) fun R=>
 gd (cN .i64 (e+1)) <|
 some (.inl (R,z,H,e+1))) <|
 some (.inr (.inl ()))
def uW (m:Nat):Lp (cO×List Int×List Int×Int×Int) (cO⊕Bool):=fun(D,H,z,I,e)=>
 br (decide (e<I)) (
 gd (0<=e/\e<(↑z.length:Int)) <|
 bd (z[0+e.toNat]?) fun M=>
 bd (α:=cO×List Int×List Int×Int×Int×Bool) (
 gd (0<=e/\e<=(↑z.length:Int)) <|
 bd (dP m (nQ false z (0+0) (e.toNat-0)) M) fun W=>
 br W (
 some (D,H,z,I,e,true)) <|
 bd (dP m H M) fun Y=>
 some (D,H,z,I,e,!Y)) fun(x51,x52,x53,x54,R,x56)=>
 br x56 (
 some (.inr (.inr false))) <|
 gd (cN .i64 (R+1)) <|
 some (.inl (x51,x52,x53,x54,R+1))) <|
 some (.inr (.inl D))
def uV (m:Nat):Lp (cO×List Int×List aT×Int×Int) (cO×List Int⊕Bool):=fun(z,H,D,I,e)=>
 br (decide (e<I)) (
 gd (0<=e/\e<(↑D.length:Int)) <|
 bd D[e.toNat]? fun M=>
 bd (α:=cO×List Int×List aT×Int×Int×Bool) (
 bd (vM m M.Name) fun W=>
 br (!W) (
 some (z,H,D,I,e,true)) <|
 br (decide (0<e)) (
 gd (cN .i64 (e-1)) <|
 gd (0<=e-1/\e-1<(↑z.Kept.length:Int)) <|
 bd (z.Kept[(e-1).toNat]?) fun Y=>
 some (z,H,D,I,e,!Op.bytesLess Y.Name.toList M.Name.toList)) <|
 some (z,H,D,I,e,false)) fun(x37,x38,x39,x40,R,x42)=>
 br x42 (
 some (.inr (.inr false))) <|
 gd (cN .i64 (R+1)) <|
 some (.inl (x37,x38,x39,x40,R+1))) <|
 some (.inr (.inl (z,H)))
def qY (m:Nat):Lp (cO×List Int×List gB×Int×Int) (cO×List Int⊕Bool):=fun(D,I,H,M,e)=>
 br (decide (e<M)) (
 gd (0<=e/\e<(↑H.length:Int)) <|
 bd H[e.toNat]? fun z=>
 bd (α:=cO×gB×List Int×List gB×Int×Int×Bool) (
 br (decide (z.Id<1)) (
 some (D,z,I,H,M,e,true)) <|
 br (decide (D.Next<=z.Id)) (
 some (D,z,I,H,M,e,true)) <|
 br (decide (0<e)) (
 gd (cN .i64 (e-1)) <|
 gd (0<=e-1/\e-1<(↑D.Files.length:Int)) <|
 bd (D.Files[(e-1).toNat]?) fun x21=>
 br (decide (z.Id<=x21.Id)) (
 some (D,z,I,H,M,e,true)) <|
 br (decide (z.Safe<0)) (
 some (D,z,I,H,M,e,true)) <|
 some (D,z,I,H,M,e,decide ((↑z.Body.length:Int)<z.Safe))) <|
 br (decide (z.Safe<0)) (
 some (D,z,I,H,M,e,true)) <|
 some (D,z,I,H,M,e,decide ((↑z.Body.length:Int)<z.Safe))) fun(x22,R,W,x25,x26,Y,x28)=>
 br x28 (
 some (.inr (.inr false))) <|
 gd (cR .int (W++ [R.Id]).length) <|
 gd (cN .i64 (Y+1)) <|
 some (.inl (x22,W++ [R.Id],x25,x26,Y+1))) <|
 some (.inr (.inl (D,I)))
def vL (m:Nat) (e:cO):Option Bool:=
 bd (α:=cO×Bool) (
 br (decide (e.Room<0)) (
 some (e,true)) <|
 br (decide (400000<e.Room)) (
 some (e,true)) <|
 br (decide (e.Fuse< -1)) (
 some (e,true)) <|
 br (decide (1000<e.Fuse)) (
 some (e,true)) <|
 br (decide (e.Next<1)) (
 some (e,true)) <|
 br (decide (1000000<e.Next)) (
 some (e,true)) <|
 br (decide (10<(↑e.Files.length:Int))) (
 some (e,true)) <|
 br (decide (10<(↑e.Kept.length:Int))) (
 some (e,true)) <|
 br (decide (30<(↑e.Turns.length:Int))) (
 some (e,true)) <|
 bd (IG m e) fun W=>
 some (e,decide (e.Room<W))) fun(I,Y)=>
 br Y (
 some false) <|
 jn (V:=cO×List Int) (
 aL (qY m) m (I,[],I.Files,(↑I.Files.length:Int),0)) fun(M,v7)=>
 jn (V:=cO×List Int) (
 aL (uV m) m (M,v7,M.Kept,(↑M.Kept.length:Int),0)) fun(R,H)=>
 bd (FW m R) fun z=>
 br ((↑z.length:Int) !=(↑H.length:Int)) (
 some false) <|
 jn (V:=cO) (
 aL (uW m) m (R,H,z,(↑z.length:Int),0)) fun D=>
 jn (V:=Unit) (
 aL (qZ m) m (D.Kept,D.Turns,(↑D.Turns.length:Int),0)) fun _=>
 some true
theorem c49:CC (mo 49 [jS .iDisk] oB vL):=mq (cs aNb (cs aLQ (cs aNc (cs c97 (cs aNd (cs aLR cn)))))) ⟨[(1,⟨[(1,.ptr 200 0)],[.sto 200 .iDisk [],eB 66]⟩),(7,⟨[(1,.ptr 200 0),(5,.ptr 600 0)],[.sto 200 .iDisk [],.sto 600 .iFile [],eO 3 .int 6800,eR 69 .iFile,eI 70,eI 71,eB 114]⟩),(14,⟨[(1,.ptr 200 0)],[.sto 200 .iDisk [],eO 3 .int 6800,eR 122 .iLink,eI 123,eI 124,eB 148]⟩),(23,⟨[(1,.ptr 200 0),(157,.ref 152000000)],[.sto 200 .iDisk [],eO 3 .int 6800,eO 8 .int 152000000,eI 158,eI 159,eB 174]⟩)],[],[(5,true,⟨[(1,.ptr 200 0)],[.sto 200 .iDisk [],eO 3 .int 6800,eR 69 .iFile,eI 70,eI 71]⟩,0,⟨[(1,.ptr 200 0)],[.sto 200 .iDisk [],eO 3 .int 6800]⟩),(12,true,⟨[(1,.ptr 200 0)],[.sto 200 .iDisk [],eO 3 .int 6800,eR 122 .iLink,eI 123,eI 124]⟩,2,⟨[(1,.ptr 200 0)],[.sto 200 .iDisk [],eO 3 .int 6800]⟩),(21,true,⟨[(1,.ptr 200 0),(157,.ref 152000000)],[.sto 200 .iDisk [],eO 3 .int 6800,eO 8 .int 152000000,eI 158,eI 159]⟩,4,⟨[(1,.ptr 200 0)],[.sto 200 .iDisk []]⟩),(28,true,⟨[],[eR 11 .iLink,eR 179 .iTurn,eI 180,eI 181]⟩,6,⟨[],[]⟩)]⟩ Tryz.f49
def rD (m:Nat):Lp (cO×Int×List aT×Int) (List aT):=fun(z,H,I,e)=>
 br (decide (e<H)) (
 gd (0<=e/\e<(↑z.Turns.length:Int)) <|
 bd z.Turns[e.toNat]? fun M=>
 bd (wQ m I M) fun D=>
 gd (cN .i64 (e+1)) <|
 some (.inl (z,H,D,e+1))) <|
 some (.inr I)
def FV (m:Nat) (e:cO) (z:Int):Option (List aT):=
 gd (cR .iLink ([]++e.Kept).length) <|
 bd (α:=List aT) (
 aL (rD m) m (e,z,[]++e.Kept,0)) fun D=>
 some D
theorem aOj:CC (mo 210 [jS .iDisk,jI] (.one (.own .iLink 99)) (q2 FV)):=mq (cs aLR cn) ⟨[],[],[(3,false,⟨[(2,.ptr 300 0)],[.sto 300 .iDisk [],eI 1,eO 5 .iLink 800,eI 6]⟩,0,⟨[],[eO 5 .iLink 800]⟩)]⟩ Tryz.f210
def IF (m:Nat) (e:cO):Option (List aT):=
 bd (vL m e) fun z=>
 br (!z) (
 some []) <|
 bd (FV m e (↑e.Turns.length:Int)) fun D=>
 some D
theorem aNS:CC (mo 163 [jS .iDisk] (.one (.own .iLink 99)) IF):=mq (cs c49 (cs aOj cn)) tn Tryz.f163
def xT (m:Nat):Lp (Int×List gB×Int×Int) (Unit⊕Int):=fun(D,z,H,e)=>
 br (decide (e<H)) (
 gd (0<=e/\e<(↑z.length:Int)) <|
 bd z[e.toNat]? fun I=>
 br (I.Id==D) (
 some (.inr (.inr e))) <|
 gd (cN .i64 (e+1)) <|
 some (.inl (D,z,H,e+1))) <|
 some (.inr (.inl ()))
def KG (m:Nat) (e:cO) (z:Int):Option Int:=
 jn (V:=Unit) (
 aL (xT m) m (z,e.Files,(↑e.Files.length:Int),0)) fun _=>
 some (-1)
theorem aNT:CC (mo 164 [jS .iDisk,jI] oI (q2 KG)):=mq cn ⟨[],[],[(2,true,⟨[],[eI 1,eR 8 .iFile,eI 9,eI 10]⟩,0,⟨[],[]⟩)]⟩ Tryz.f164
def xO (m:Nat) (e:cO) (I:ByteArray):Option (List UInt8×Bool):=
 bd (IF m e) fun M=>
 bd (sP m M I) fun D=>
 br (D==0) (
 some ([],false)) <|
 bd (KG m e D) fun z=>
 gd (0<=z/\z<(↑e.Files.length:Int)) <|
 bd e.Files[z.toNat]? fun H=>
 gd (cR .u8 ([]++H.Body).length) <|
 some ([]++H.Body,true)
theorem aM9:CC (mo 101 [jS .iDisk,.S] (.tup [.own .u8 99,.B]) (q2 xO)):=mq (cs aNS (cs aKz (cs aNT cn))) tn Tryz.f101
def FU (m:Nat) (e:Int):Option Bool:=
 bd (α:=Bool) (
 br (decide (0<=e)) (
 some (decide (e<=4294967295))) <|
 some false) fun z=>
 some z
theorem aNe:CC (mo 108 [jI] oB FU):=mq cn ⟨[(1,⟨[],[eB 2]⟩)],[],[]⟩ Tryz.f108
def fK (m:Nat) (slf:Int->Option ByteArray):Int->Option ByteArray:=fun e=>
 bd (FU m e) fun D=>
 br (!D) (
 some (ByteArray.mk #[])) <|
 br (decide (e<10)) (
 gd (cN .i64 (48+e)) <|
 some (ByteArray.mk #[UInt8.ofNat (IntKind.u8.wrap (48+e)).toNat])) <|
 gd ((10:Int)≠(0:Int)) <|
 gd (cN .i64 (e.tdiv 10)) <|
 bd (slf (e.tdiv 10)) fun z=>
 gd ((10:Int)≠(0:Int)) <|
 gd (cN .i64 (48+e.tmod 10)) <|
 gd (z.size+(ByteArray.mk #[UInt8.ofNat (IntKind.u8.wrap (48+e.tmod 10)).toNat]).size<=9223372036854775807) <|
 some (z++ByteArray.mk #[UInt8.ofNat (IntKind.u8.wrap (48+e.tmod 10)).toNat])
def o50 (m:Nat):wX:=⟨50,[none],[.I .i64],0,(.one .S),lU (fK m) m⟩
theorem c50 {E:World->Prop} (e:Cl G E) (m:Nat):DA Tryz.prog G E (o50 m):=DA.rec (fun slf h=>DA.mk (o:=⟨50,[none],[.I .i64],0,(.one .S),fK m slf⟩) (csc h (csc (aNe e m) csn)) aAM mixed e.cl tn m (fn:=Tryz.f50) (by kernel_rfl) rfl (by kernel_rfl) (fun _=>by kernel_rfl) (fun _ _=>by kernel_rfl) (fun _=>by kernel_rfl)) m
def IH (m:Nat) (z:ByteArray) (e:Int):Option ByteArray:=
 bd (α:=ByteArray×Int×Bool) (
 br (decide (e<1)) (
 some (z,e,true)) <|
 some (z,e,decide (1000000000<e))) fun(D,I,M)=>
 br M (
 some (ByteArray.mk #[])) <|
 bd (lU (fK m) m I) fun H=>
 gd (D.size+H.size<=9223372036854775807) <|
 some (D++H)
theorem aNU:CC (mo 165 [.S,jI] (.one .S) (q2 IH)):=mq (cs c50 cn) ⟨[(1,⟨[],[eS 0,eI 1,eB 10]⟩)],[],[]⟩ Tryz.f165
def CD (m:Nat) (e:Int):Option ByteArray:=
 bd (IH m (ByteArray.mk #[108,111,103,46]) e) fun z=>
 some z
theorem aNa:CC (mo 102 [jI] (.one .S) CD):=mq (cs aNU cn) tn Tryz.f102
def B8 (m:Nat) (e:j6):Option Bool:=
 bd (α:=j6×Bool) (
 bd (vL m e.Disk) fun I=>
 br (!I) (
 some (e,true)) <|
 br (decide (e.Gen<1)) (
 some (e,true)) <|
 br (decide (1000000000<e.Gen)) (
 some (e,true)) <|
 br (decide (e.Seq<1)) (
 some (e,true)) <|
 br (decide (1000000001<e.Seq)) (
 some (e,true)) <|
 some (e,decide (e.Size<0))) fun(z,M)=>
 br M (
 some false) <|
 bd (α:=j6×Bool) (
 br (z.Disk.Fuse==0) (
 some (z,true)) <|
 some (z,z.Stuck)) fun(D,R)=>
 br R (
 some true) <|
 bd (CD m D.Gen) fun W=>
 bd (xO m D.Disk W) fun(Y,x9)=>
 bd (α:=Bool) (
 br x9 (
 some ((↑Y.length:Int)==D.Size)) <|
 some false) fun H=>
 some H
theorem c46:CC (mo 46 [jS .iDepot] oB B8):=mq (cs c49 (cs aNa (cs aM9 cn))) ⟨[(1,⟨[(1,.ptr 200 0)],[.sto 200 .iDepot [],eB 33]⟩),(3,⟨[(1,.ptr 200 0)],[.sto 200 .iDepot [],eB 41]⟩),(6,⟨[],[eB 2]⟩)],[],[]⟩ Tryz.f46
def rG (m:Nat) (e:cO):Option Bool:=
 bd (α:=Bool) (
 br (e.Room==0) (
 br (e.Fuse==0) (
 br (e.Next==0) (
 br ((↑e.Files.length:Int)==0) (
 br ((↑e.Kept.length:Int)==0) (
 some ((↑e.Turns.length:Int)==0)) <|
 some false) <|
 some false) <|
 some false) <|
 some false) <|
 some false) fun z=>
 some z
theorem c47:CC (mo 47 [jS .iDisk] oB rG):=mq cn ⟨[(1,⟨[],[eB 2]⟩)],[],[]⟩ Tryz.f47
def tD (m:Nat) (e:bA):Option Bool:=
 bd (α:=Bool) (
 br (e.W==0) (
 br (e.H==0) (
 br (e.Limit==0) (
 br (e.Next==0) (
 br ((↑e.Panes.length:Int)==0) (
 br ((↑e.Wins.length:Int)==0) (
 some ((↑e.Sess.length:Int)==0)) <|
 some false) <|
 some false) <|
 some false) <|
 some false) <|
 some false) <|
 some false) fun z=>
 some z
theorem c48:CC (mo 48 [jS .iState] oB tD):=mq cn ⟨[(1,⟨[],[eB 2]⟩)],[],[]⟩ Tryz.f48
def uB (m:Nat):Lp (lE×List iZ×Int×Int) (lE⊕Bool):=fun(D,z,H,e)=>
 br (decide (e<H)) (
 gd (0<=e/\e<(↑z.length:Int)) <|
 bd z[e.toNat]? fun I=>
 bd (α:=lE×List iZ×Int×Int×Bool) (
 br I.Lost (
 bd (II m I.Op) fun R=>
 br (!R) (
 some (D,z,H,e,true)) <|
 br (!I.Lost) (
 bd (xP m I.Op) fun W=>
 some (D,z,H,e,!W)) <|
 some (D,z,H,e,false)) <|
 br (!I.Lost) (
 bd (xP m I.Op) fun Y=>
 some (D,z,H,e,!Y)) <|
 some (D,z,H,e,false)) fun(x26,x27,x28,M,x30)=>
 br x30 (
 some (.inr (.inr false))) <|
 gd (cN .i64 (M+1)) <|
 some (.inl (x26,x27,x28,M+1))) <|
 some (.inr (.inl D))
def KC (m:Nat) (e:lE):Option Bool:=
 bd (α:=lE×Bool) (
 bd (sO m e.Base) fun x2=>
 br (!x2) (
 some (e,true)) <|
 br (decide (0<(↑e.Base.Panes.length:Int))) (
 some (e,true)) <|
 br (decide (e.Top<0)) (
 some (e,true)) <|
 br (decide (400000<e.Top)) (
 some (e,true)) <|
 bd (wN m e.Tab) fun x3=>
 br (!x3) (
 some (e,true)) <|
 br (decide (e.Sure<0)) (
 some (e,true)) <|
 bd (EQ m e.Done) fun x4=>
 some (e,decide (x4<e.Sure))) fun(H,x6)=>
 br x6 (
 some false) <|
 jn (V:=lE) (
 aL (uB m) m (H,H.Done,(↑H.Done.length:Int),0)) fun z=>
 br z.Up (
 bd (α:=Bool) (
 bd (sO m z.St) fun x9=>
 br x9 (
 bd (B8 m z.Dep) fun I=>
 br I (
 bd (rG m z.Disk) fun M=>
 br M (
 bd (EQ m z.Done) fun D=>
 gd (cN .i64 (D+1)) <|
 some (z.Dep.Seq==D+1)) <|
 some false) <|
 some false) <|
 some false) fun R=>
 some R) <|
 bd (α:=Bool) (
 bd (tD m z.St) fun W=>
 br W (
 bd (rG m z.Dep.Disk) fun Y=>
 br Y (
 br (z.Dep.Gen==0) (
 br (z.Dep.Seq==0) (
 br (z.Dep.Size==0) (
 br (!z.Dep.Stuck) (
 bd (vL m z.Disk) fun x16=>
 br x16 (
 some ((↑z.Tab.Live.length:Int)==0)) <|
 some false) <|
 some false) <|
 some false) <|
 some false) <|
 some false) <|
 some false) <|
 some false) fun x17=>
 some x17
theorem c14:CC (mo 14 [jS .iSrv] oB KC):=mq (cs c42 (cs c43 (cs c16 (cs c44 (cs c45 (cs c46 (cs c47 (cs c48 (cs c49 cn))))))))) ⟨[(1,⟨[(1,.ptr 200 0)],[.sto 200 .iSrv [],eB 44]⟩),(6,⟨[(1,.ptr 200 0)],[.sto 200 .iSrv [],eR 46 .iHist,eI 47,eI 48,eB 70]⟩),(10,⟨[],[eB 2]⟩),(11,⟨[],[eB 2]⟩)],[],[(4,true,⟨[(1,.ptr 200 0)],[.sto 200 .iSrv [],eR 46 .iHist,eI 47,eI 48]⟩,0,⟨[(1,.ptr 200 0)],[.sto 200 .iSrv []]⟩)]⟩ Tryz.f14
def tE (m:Nat):Lp (ByteArray×List Int×Int×Int) ByteArray:=fun(z,D,H,e)=>
 br (decide (e<H)) (
 gd (0<=e/\e<(↑D.length:Int)) <|
 bd D[e.toNat]? fun M=>
 gd (z.size+(ByteArray.mk #[32]).size<=9223372036854775807) <|
 bd (lU (fK m) m M) fun I=>
 gd ((z++ByteArray.mk #[32]).size+I.size<=9223372036854775807) <|
 gd (cN .i64 (e+1)) <|
 some (.inl (z++ByteArray.mk #[32]++I,D,H,e+1))) <|
 some (.inr z)
def l8 (m:Nat) (e:List Int):Option ByteArray:=
 bd (α:=ByteArray) (
 aL (tE m) m (ByteArray.mk #[],e,(↑e.length:Int),0)) fun z=>
 some z
theorem c15:CC (mo 15 [.row .int] (.one .S) l8):=mq (cs c50 cn) ⟨[],[],[(3,false,⟨[],[eS 3,eR 6 .int,eI 7,eI 8]⟩,0,⟨[],[eS 3]⟩)]⟩ Tryz.f15
def nO (m:Nat):Lp (ByteArray×List dL×Int×Int) ByteArray:=fun(e,I,M,H)=>
 br (decide (H<M)) (
 gd (0<=H/\H<(↑I.length:Int)) <|
 bd I[H.toNat]? fun D=>
 gd (e.size+(ByteArray.mk #[112,97,110,101,32]).size<=9223372036854775807) <|
 bd (lU (fK m) m D.Id) fun z=>
 gd ((e++ByteArray.mk #[112,97,110,101,32]).size+z.size<=9223372036854775807) <|
 bd (α:=dL×ByteArray×List dL×Int×Int) (
 br (D.Life==1) (
 gd ((e++ByteArray.mk #[112,97,110,101,32]++z).size+(ByteArray.mk #[32,108,105,118,101,32]).size<=9223372036854775807) <|
 bd (lU (fK m) m D.Pid) fun x37=>
 gd ((e++ByteArray.mk #[112,97,110,101,32]++z++ByteArray.mk #[32,108,105,118,101,32]).size+x37.size<=9223372036854775807) <|
 some (D,e++ByteArray.mk #[112,97,110,101,32]++z++ByteArray.mk #[32,108,105,118,101,32]++x37,I,M,H)) <|
 br (D.Life==2) (
 gd ((e++ByteArray.mk #[112,97,110,101,32]++z).size+(ByteArray.mk #[32,100,111,110,101,32]).size<=9223372036854775807) <|
 bd (lU (fK m) m D.Code) fun x38=>
 gd ((e++ByteArray.mk #[112,97,110,101,32]++z++ByteArray.mk #[32,100,111,110,101,32]).size+x38.size<=9223372036854775807) <|
 some (D,e++ByteArray.mk #[112,97,110,101,32]++z++ByteArray.mk #[32,100,111,110,101,32]++x38,I,M,H)) <|
 gd ((e++ByteArray.mk #[112,97,110,101,32]++z).size+(ByteArray.mk #[32,119,97,105,116]).size<=9223372036854775807) <|
 some (D,e++ByteArray.mk #[112,97,110,101,32]++z++ByteArray.mk #[32,119,97,105,116],I,M,H)) fun(R,W,x41,x42,x43)=>
 bd (l8 m [R.Term.S.X,R.Term.S.Y,(↑R.Term.S.Back.length:Int)]) fun x44=>
 gd (W.size+x44.size<=9223372036854775807) <|
 gd ((W++x44).size+(ByteArray.mk #[10]).size<=9223372036854775807) <|
 gd (cN .i64 (x43+1)) <|
 some (.inl (W++x44++ByteArray.mk #[10],x41,x42,x43+1))) <|
 some (.inr e)
def nN (m:Nat):Lp (bA×ByteArray×List lF×Int×Int) (bA×ByteArray):=fun(R,z,I,W,H)=>
 br (decide (H<W)) (
 gd (0<=H/\H<(↑I.length:Int)) <|
 bd I[H.toNat]? fun e=>
 gd (z.size+(ByteArray.mk #[119,105,110,100,111,119,32]).size<=9223372036854775807) <|
 bd (lU (fK m) m e.Id) fun D=>
 gd ((z++ByteArray.mk #[119,105,110,100,111,119,32]).size+D.size<=9223372036854775807) <|
 gd ((z++ByteArray.mk #[119,105,110,100,111,119,32]++D).size+(ByteArray.mk #[32]).size<=9223372036854775807) <|
 gd ((z++ByteArray.mk #[119,105,110,100,111,119,32]++D++ByteArray.mk #[32]).size+e.Name.size<=9223372036854775807) <|
 bd (nZ m e.Tree) fun Y=>
 gd (cR .int ([e.Active]++Y).length) <|
 bd (l8 m ([e.Active]++Y)) fun M=>
 gd ((z++ByteArray.mk #[119,105,110,100,111,119,32]++D++ByteArray.mk #[32]++e.Name).size+M.size<=9223372036854775807) <|
 bd (α:=bA×ByteArray×List lF×Int×Int) (
 br e.Zoom (
 gd ((z++ByteArray.mk #[119,105,110,100,111,119,32]++D++ByteArray.mk #[32]++e.Name++M).size+(ByteArray.mk #[32,122,111,111,109]).size<=9223372036854775807) <|
 some (R,z++ByteArray.mk #[119,105,110,100,111,119,32]++D++ByteArray.mk #[32]++e.Name++M++ByteArray.mk #[32,122,111,111,109],I,W,H)) <|
 some (R,z++ByteArray.mk #[119,105,110,100,111,119,32]++D++ByteArray.mk #[32]++e.Name++M,I,W,H)) fun(x26,x27,x28,x29,x30)=>
 gd (x27.size+(ByteArray.mk #[10]).size<=9223372036854775807) <|
 gd (cN .i64 (x30+1)) <|
 some (.inl (x26,x27++ByteArray.mk #[10],x28,x29,x30+1))) <|
 some (.inr (R,z))
def nM (m:Nat):Lp (bA×ByteArray×List kM×Int×Int) (bA×ByteArray):=fun(M,z,H,R,D)=>
 br (decide (D<R)) (
 gd (0<=D/\D<(↑H.length:Int)) <|
 bd H[D.toNat]? fun e=>
 gd (z.size+(ByteArray.mk #[115,101,115,115,105,111,110,32]).size<=9223372036854775807) <|
 gd ((z++ByteArray.mk #[115,101,115,115,105,111,110,32]).size+e.Name.size<=9223372036854775807) <|
 gd (cR .int ([e.Active]++e.Wins).length) <|
 bd (l8 m ([e.Active]++e.Wins)) fun I=>
 gd ((z++ByteArray.mk #[115,101,115,115,105,111,110,32]++e.Name).size+I.size<=9223372036854775807) <|
 gd ((z++ByteArray.mk #[115,101,115,115,105,111,110,32]++e.Name++I).size+(ByteArray.mk #[10]).size<=9223372036854775807) <|
 gd (cN .i64 (D+1)) <|
 some (.inl (M,z++ByteArray.mk #[115,101,115,115,105,111,110,32]++e.Name++I++ByteArray.mk #[10],H,R,D+1))) <|
 some (.inr (M,z))
def xW (m:Nat) (e:bA):Option ByteArray:=
 bd (α:=bA×ByteArray) (
 aL (nM m) m (e,ByteArray.mk #[],e.Sess,(↑e.Sess.length:Int),0)) fun(z,H)=>
 bd (α:=bA×ByteArray) (
 aL (nN m) m (z,H,z.Wins,(↑z.Wins.length:Int),0)) fun(D,I)=>
 bd (α:=ByteArray) (
 aL (nO m) m (I,D.Panes,(↑D.Panes.length:Int),0)) fun M=>
 some M
theorem c17:CC (mo 17 [jS .iState] (.one .S) xW):=mq (cs c15 (cs c50 (cs c51 cn))) ⟨[],[(13,false,⟨[(1,.ptr 200 0)],[.sto 200 .iState [],eS 3,eR 33 .iWin,eI 34,eI 35]⟩),(25,false,⟨[(9,.ptr 1000 0)],[.sto 1000 .iPane [],eS 3,eR 66 .iPane,eI 67,eI 68]⟩)],[(3,false,⟨[(1,.ptr 200 0)],[.sto 200 .iState [],eS 3,eR 11 .iSess,eI 12,eI 13]⟩,0,⟨[(1,.ptr 200 0)],[.sto 200 .iState [],eS 3]⟩),(8,false,⟨[(1,.ptr 200 0)],[.sto 200 .iState [],eS 3,eR 33 .iWin,eI 34,eI 35]⟩,2,⟨[(1,.ptr 200 0)],[.sto 200 .iState [],eS 3]⟩),(16,false,⟨[],[eS 3,eR 66 .iPane,eI 67,eI 68]⟩,4,⟨[],[eS 3]⟩)]⟩ Tryz.f17
def rB (m:Nat):Lp (lE×ByteArray×List A9×Int×Int) (lE×ByteArray):=fun(R,z,I,Y,e)=>
 br (decide (e<Y)) (
 gd (0<=e/\e<(↑I.length:Int)) <|
 bd I[e.toNat]? fun D=>
 gd (z.size+(ByteArray.mk #[97,115,107]).size<=9223372036854775807) <|
 bd (l8 m [D.Pane,D.Pid,D.W,D.H]) fun M=>
 gd ((z++ByteArray.mk #[97,115,107]).size+M.size<=9223372036854775807) <|
 gd ((z++ByteArray.mk #[97,115,107]++M).size+(ByteArray.mk #[10]).size<=9223372036854775807) <|
 gd (cN .i64 (e+1)) <|
 some (.inl (R,z++ByteArray.mk #[97,115,107]++M++ByteArray.mk #[10],I,Y,e+1))) <|
 some (.inr (R,z))
def AQ (m:Nat) (D:lE):Option ByteArray:=
 bd (KC m D) fun Y=>
 br (!Y) (
 some (ByteArray.mk #[])) <|
 bd (α:=lE×ByteArray) (
 br D.Up (
 some (D,ByteArray.mk #[117,112])) <|
 some (D,ByteArray.mk #[100,111,119,110])) fun(e,H)=>
 bd (EQ m e.Done) fun x5=>
 bd (l8 m [x5,e.Sure]) fun I=>
 gd (H.size+I.size<=9223372036854775807) <|
 gd ((H++I).size+(ByteArray.mk #[10]).size<=9223372036854775807) <|
 bd (α:=lE×ByteArray) (
 aL (rB m) m (e,H++I++ByteArray.mk #[10],e.Tab.Asked,(↑e.Tab.Asked.length:Int),0)) fun(W,M)=>
 bd (α:=ByteArray) (
 br W.Up (
 bd (xW m W.St) fun z=>
 gd (M.size+z.size<=9223372036854775807) <|
 some (M++z)) <|
 some M) fun R=>
 some R
theorem c5:CC (mo 5 [jS .iSrv] (.one .S) AQ):=mq (cs c14 (cs c16 (cs c15 (cs c17 cn)))) ⟨[],[(6,false,⟨[(1,.ptr 200 0)],[.sto 200 .iSrv [],eS 3]⟩),(14,false,⟨[],[eS 3]⟩)],[(8,false,⟨[(1,.ptr 200 0)],[.sto 200 .iSrv [],eS 3,eR 23 .iAsk,eI 24,eI 25]⟩,0,⟨[(1,.ptr 200 0)],[.sto 200 .iSrv [],eS 3]⟩)]⟩ Tryz.f5
def AC (m:Nat) (e:List Int):Option (List Int):=toG .int (fun x=>some x) m e
theorem aKA:CC (mo 171 [.row .int] (.one (.own .int 99)) AC):=mq cn ⟨[],[],[(3,false,⟨[],[eR 0 .int,eO 3 .int 800,eI 4]⟩,0,⟨[],[eO 3 .int 800]⟩)]⟩ Tryz.f171
def wL (m:Nat) (e:List UInt8):Option (List UInt8):=toG .u8 (fun x=>some (UInt8.ofNat (↑x.toNat:Int).toNat)) m e
theorem aKB:CC (mo 172 [.row .u8] (.one (.own .u8 99)) wL):=mq cn ⟨[],[],[(3,false,⟨[],[eR 0 .u8,eO 3 .u8 800,eI 4]⟩,0,⟨[],[eO 3 .u8 800]⟩)]⟩ Tryz.f172
def OP (m:Nat) (e:LVp):Option OU:=
 bd (AC m e.Args) fun z=>
 bd (wL m e.Part) fun D=>
 some (OU.mk e.State e.Mark z D)
theorem aOk:CC (mo 211 [jS .lVp] (.one (.st .iVp [(2,99),(3,99)])) OP):=mq (cs aKA (cs aKB cn)) tn Tryz.f211
def vK (m:Nat) (e:MQ):Option oN:=
 some (oN.mk e.Fg e.Bg e.Bold e.Under e.Turn)
theorem aL6:CC (mo 250 [jS .lAttr] (.one (jS .iAttr)) vK):=mq cn tn Tryz.f250
def z6 (m:Nat) (e:DH):Option jB:=
 bd (vK m e.A) fun z=>
 some (jB.mk e.R z)
theorem aO5:CC (mo 323 [jS .lCell] (.one (jS .iCell)) z6):=mq (cs aL6 cn) tn Tryz.f323
def B5 (m:Nat) (e:List DH):Option (List jB):=toG .iCell (z6 m) m e
theorem aMb:CC (mo 292 [.row .lCell] (.one (.own .iCell 99)) B5):=mq (cs aO5 cn) ⟨[],[],[(3,false,⟨[],[eR 0 .lCell,eO 3 .iCell 800,eI 4]⟩,0,⟨[],[eO 3 .iCell 800]⟩)]⟩ Tryz.f292
def AA (m:Nat) (e:IW):Option fY:=
 bd (B5 m e.Cells) fun z=>
 some (fY.mk e.W e.H z)
theorem aOD:CC (mo 249 [jS .lGrid] (.one (.st .iGrid [(2,99)])) AA):=mq (cs aMb cn) tn Tryz.f249
def EO (m:Nat) (e:K2):Option pX:=
 bd (B5 m e.Cells) fun z=>
 some (pX.mk z)
theorem aOU:CC (mo 293 [jS .lRow] (.one (.st .iRow [(0,99)])) EO):=mq (cs aMb cn) tn Tryz.f293
def MD (m:Nat) (e:List K2):Option (List pX):=toG .iRow (EO m) m e
theorem aOE:CC (mo 251 [.row .lRow] (.one (.own .iRow dB)) MD):=mq (cs aOU cn) ⟨[],[],[(3,false,⟨[],[eR 0 .lRow,eO 3 .iRow 1000000800,eI 4]⟩,0,⟨[],[eO 3 .iRow 1000000800]⟩)]⟩ Tryz.f251
def J7 (m:Nat) (e:aAf):Option nG:=
 bd (AA m e.Main) fun z=>
 bd (AA m e.Alt) fun D=>
 bd (vK m e.A) fun I=>
 bd (vK m e.SaveA) fun M=>
 bd (AC m e.Tabs) fun R=>
 bd (MD m e.Back) fun x7=>
 some (nG.mk e.W e.H z D e.OnAlt e.X e.Y e.Wrap I e.Top e.Bot e.NoWrap e.Hide e.SaveX e.SaveY M R e.Limit x7)
theorem aOl:CC (mo 212 [jS .lScr] (.one (.st .iScr [(4,99),(7,99),(28,99),(30,dB)])) J7):=mq (cs aOD (cs aL6 (cs aKA (cs aOE cn)))) tn Tryz.f212
def FR (m:Nat) (e:MR):Option uI:=
 bd (OP m e.P) fun z=>
 bd (J7 m e.S) fun D=>
 some (uI.mk z D)
theorem aNX:CC (mo 169 [jS .lTerm] (.one (.st .iTerm [(2,99),(3,99),(8,99),(11,99),(32,99),(34,dB)])) FR):=mq (cs aOk (cs aOl cn)) tn Tryz.f169
def AF (m:Nat) (e:yR):Option dL:=
 bd (FR m e.Term) fun z=>
 some (dL.mk e.Id e.Cmd e.Dir e.Life e.Code e.Pid z)
theorem aNf:CC (mo 110 [jS .lPane] (.one (.st .iPane [(8,99),(9,99),(14,99),(17,99),(38,99),(40,dB)])) AF):=mq (cs aNX cn) tn Tryz.f110
def IB (m:Nat) (e:List yR):Option (List dL):=toG .iPane (AF m) m e
theorem c52:CC (mo 52 [.row .lPane] (.one (.own .iPane dB)) IB):=mq (cs aNf cn) ⟨[],[],[(3,false,⟨[],[eR 0 .lPane,eO 3 .iPane 1000000800,eI 4]⟩,0,⟨[],[eO 3 .iPane 1000000800]⟩)]⟩ Tryz.f52
def AE (m:Nat) (e:GE):Option bV:=
 some (bV.mk e.Pane e.Down e.First)
theorem aOm:CC (mo 213 [jS .lNode] (.one (jS .iNode)) AE):=mq cn tn Tryz.f213
def IA (m:Nat) (e:List GE):Option (List bV):=toG .iNode (AE m) m e
theorem aNY:CC (mo 170 [.row .lNode] (.one (.own .iNode 99)) IA):=mq (cs aOm cn) ⟨[],[],[(3,false,⟨[],[eR 0 .lNode,eO 3 .iNode 800,eI 4]⟩,0,⟨[],[eO 3 .iNode 800]⟩)]⟩ Tryz.f170
def EP (m:Nat) (e:F9):Option lF:=
 bd (IA m e.Tree) fun z=>
 some (lF.mk e.Id e.Name z e.Active e.Zoom)
theorem aNg:CC (mo 111 [jS .lWin] (.one (.st .iWin [(2,99)])) EP):=mq (cs aNY cn) tn Tryz.f111
def ME (m:Nat) (e:List F9):Option (List lF):=toG .iWin (EP m) m e
theorem c53:CC (mo 53 [.row .lWin] (.one (.own .iWin dB)) ME):=mq (cs aNg cn) ⟨[],[],[(3,false,⟨[],[eR 0 .lWin,eO 3 .iWin 1000000800,eI 4]⟩,0,⟨[],[eO 3 .iWin 1000000800]⟩)]⟩ Tryz.f53
def AJ (m:Nat) (e:uJ):Option kM:=
 bd (AC m e.Wins) fun z=>
 some (kM.mk e.Name z e.Active)
theorem aNh:CC (mo 112 [jS .lSess] (.one (.st .iSess [(1,99)])) AJ):=mq (cs aKA cn) tn Tryz.f112
def ID (m:Nat) (e:List uJ):Option (List kM):=toG .iSess (AJ m) m e
theorem c54:CC (mo 54 [.row .lSess] (.one (.own .iSess dB)) ID):=mq (cs aNh cn) ⟨[],[],[(3,false,⟨[],[eR 0 .lSess,eO 3 .iSess 1000000800,eI 4]⟩,0,⟨[],[eO 3 .iSess 1000000800]⟩)]⟩ Tryz.f54
def wM (m:Nat) (e:DJ):Option bA:=
 bd (IB m e.Panes) fun z=>
 bd (ME m e.Wins) fun D=>
 bd (ID m e.Sess) fun I=>
 some (bA.mk e.W e.H e.Limit e.Next z D I)
theorem c18:CC (mo 18 [jS .lState] (.one (.st .iState [(4,dB),(5,dB),(6,dB)])) wM):=mq (cs c52 (cs c53 (cs c54 cn))) tn Tryz.f18
def z8 (m:Nat) (e:yO):Option gB:=
 bd (wL m e.Body) fun z=>
 some (gB.mk e.Id z e.Safe)
theorem aNi:CC (mo 113 [jS .lFile] (.one (.st .iFile [(1,99)])) z8):=mq (cs aKB cn) tn Tryz.f113
def H7 (m:Nat) (e:List yO):Option (List gB):=toG .iFile (z8 m) m e
theorem c55:CC (mo 55 [.row .lFile] (.one (.own .iFile dB)) H7):=mq (cs aNi cn) ⟨[],[],[(3,false,⟨[],[eR 0 .lFile,eO 3 .iFile 1000000800,eI 4]⟩,0,⟨[],[eO 3 .iFile 1000000800]⟩)]⟩ Tryz.f55
def AD (m:Nat) (e:yQ):Option aT:=
 some (aT.mk e.Name e.Id)
theorem aNj:CC (mo 114 [jS .lLink] (.one (jS .iLink)) AD):=mq cn tn Tryz.f114
def H9 (m:Nat) (e:List yQ):Option (List aT):=toG .iLink (AD m) m e
theorem c56:CC (mo 56 [.row .lLink] (.one (.own .iLink 99)) H9):=mq (cs aNj cn) ⟨[],[],[(3,false,⟨[],[eR 0 .lLink,eO 3 .iLink 800,eI 4]⟩,0,⟨[],[eO 3 .iLink 800]⟩)]⟩ Tryz.f56
def AL (m:Nat) (e:yS):Option eA:=
 some (eA.mk e.Kind e.Name e.To e.Id)
theorem aNk:CC (mo 115 [jS .lTurn] (.one (jS .iTurn)) AL):=mq cn tn Tryz.f115
def IE (m:Nat) (e:List yS):Option (List eA):=toG .iTurn (AL m) m e
theorem c57:CC (mo 57 [.row .lTurn] (.one (.own .iTurn 99)) IE):=mq (cs aNk cn) ⟨[],[],[(3,false,⟨[],[eR 0 .lTurn,eO 3 .iTurn 800,eI 4]⟩,0,⟨[],[eO 3 .iTurn 800]⟩)]⟩ Tryz.f57
def z7 (m:Nat) (e:IV):Option cO:=
 bd (H7 m e.Files) fun z=>
 bd (H9 m e.Kept) fun D=>
 bd (IE m e.Turns) fun H=>
 some (cO.mk e.Room e.Fuse e.Next z D H)
theorem c20:CC (mo 20 [jS .lDisk] (.one (.st .iDisk [(3,dB),(4,99),(5,99)])) z7):=mq (cs c55 (cs c56 (cs c57 cn))) tn Tryz.f20
def B6 (m:Nat) (e:DI):Option j6:=
 bd (z7 m e.Disk) fun z=>
 some (j6.mk z e.Gen e.Seq e.Size e.Stuck)
theorem c19:CC (mo 19 [jS .lDepot] (.one (.st .iDepot [(3,dB),(4,99),(5,99)])) B6):=mq (cs c20 cn) tn Tryz.f19
def AG (m:Nat) (e:GF):Option jL:=
 some (jL.mk e.Pid e.Pane)
theorem aNl:CC (mo 116 [jS .lProc] (.one (jS .iProc)) AG):=mq cn tn Tryz.f116
def IC (m:Nat) (e:List GF):Option (List jL):=toG .iProc (AG m) m e
theorem c58:CC (mo 58 [.row .lProc] (.one (.own .iProc 99)) IC):=mq (cs aNl cn) ⟨[],[],[(3,false,⟨[],[eR 0 .lProc,eO 3 .iProc 800,eI 4]⟩,0,⟨[],[eO 3 .iProc 800]⟩)]⟩ Tryz.f58
def EN (m:Nat) (e:K1):Option A9:=
 some (A9.mk e.Pane e.Cmd e.Dir e.W e.H e.Pid)
theorem aNm:CC (mo 117 [jS .lAsk] (.one (jS .iAsk)) EN):=mq cn tn Tryz.f117
def MC (m:Nat) (e:List K1):Option (List A9):=toG .iAsk (EN m) m e
theorem c59:CC (mo 59 [.row .lAsk] (.one (.own .iAsk 99)) MC):=mq (cs aNm cn) ⟨[],[],[(3,false,⟨[],[eR 0 .lAsk,eO 3 .iAsk 800,eI 4]⟩,0,⟨[],[eO 3 .iAsk 800]⟩)]⟩ Tryz.f59
def B7 (m:Nat) (e:DK):Option fL:=
 bd (IC m e.Live) fun z=>
 bd (MC m e.Asked) fun D=>
 some (fL.mk e.Next z D)
theorem c21:CC (mo 21 [jS .lTable] (.one (.st .iTable [(1,99),(2,99)])) B7):=mq (cs c58 (cs c59 cn)) tn Tryz.f21
def OO (m:Nat) (e:LOp):Option oK:=
 bd (wL m e.Data) fun z=>
 some (oK.mk e.Kind e.A e.B e.C e.Name e.Text e.Dir z)
theorem aNn:CC (mo 118 [jS .lOp] (.one (.st .iOp [(7,99)])) OO):=mq (cs aKB cn) tn Tryz.f118
def AB (m:Nat) (e:yP):Option iZ:=
 bd (OO m e.Op) fun z=>
 some (iZ.mk e.Lost z)
theorem c60:CC (mo 60 [jS .lHist] (.one (.st .iHist [(8,99)])) AB):=mq (cs aNn cn) tn Tryz.f60
def H8 (m:Nat) (e:List yP):Option (List iZ):=toG .iHist (AB m) m e
theorem c22:CC (mo 22 [.row .lHist] (.one (.own .iHist dB)) H8):=mq (cs c60 cn) ⟨[],[],[(3,false,⟨[],[eR 0 .lHist,eO 3 .iHist 1000000800,eI 4]⟩,0,⟨[],[eO 3 .iHist 1000000800]⟩)]⟩ Tryz.f22
def AK (m:Nat) (e:OV):Option lE:=
 bd (wM m e.Base) fun z=>
 bd (wM m e.St) fun D=>
 bd (B6 m e.Dep) fun H=>
 bd (z7 m e.Disk) fun I=>
 bd (B7 m e.Tab) fun M=>
 bd (H8 m e.Done) fun R=>
 some (lE.mk z e.Top e.Up D H I M e.Sure R)
theorem c6:CC (mo 6 [jS .lSrv] (.one (.st .iSrv [(4,dB),(5,dB),(6,dB),(13,dB),(14,dB),(15,dB),(19,dB),(20,99),(21,99),(29,dB),(30,99),(31,99),(33,99),(34,99),(36,dB)])) AK):=mq (cs c18 (cs c19 (cs c20 (cs c21 (cs c22 cn))))) tn Tryz.f6
def xJ (m:Nat):Lp (Int×List iZ×Int×Int) Int:=fun(D,H,I,e)=>
 br (decide (e<I)) (
 bd (α:=Int×List iZ×Int×Int) (
 gd (0<=e/\e<(↑H.length:Int)) <|
 bd H[e.toNat]? fun W=>
 br (!W.Lost) (
 gd (cN .i64 (D+1)) <|
 some (D+1,H,I,e)) <|
 some (D,H,I,e)) fun(Y,M,R,z)=>
 gd (cN .i64 (z+1)) <|
 some (.inl (Y,M,R,z+1))) <|
 some (.inr D)
def y6 (m:Nat) (e:List iZ):Option Int:=
 bd (α:=Int) (
 aL (xJ m) m (0,e,(↑e.length:Int),0)) fun z=>
 some z
theorem c26:CC (mo 26 [.row .iHist] oI y6):=mq cn ⟨[],[(7,false,⟨[],[eI 3,eR 6 .iHist,eI 7,eI 8]⟩)],[(3,false,⟨[],[eI 3,eR 6 .iHist,eI 7,eI 8]⟩,0,⟨[],[eI 3]⟩)]⟩ Tryz.f26
def cC (m:Nat) (e z D:Int):Option Bool:=
 bd (α:=Bool) (
 br (decide (z<=e)) (
 some (decide (e<=D))) <|
 some false) fun H=>
 some H
theorem OA:CC (mo 62 [jI,jI,jI] oB (q3 cC)):=mq cn ⟨[(1,⟨[],[eB 6]⟩)],[],[]⟩ Tryz.f62
def zB (m:Nat) (e z:Int):Option Bool:=
 bd (α:=Bool) (
 bd (cC m e 1 120) fun D=>
 br D (
 bd (cC m z 1 120) fun H=>
 br H (
 gd (cN .i64 (e*z)) <|
 some (decide (e*z<=4000))) <|
 some false) <|
 some false) fun I=>
 some I
theorem aLT:CC (mo 119 [jI,jI] oB (q2 zB)):=mq (cs OA cn) ⟨[(1,⟨[],[eB 4]⟩)],[],[]⟩ Tryz.f119
def kK (m:Nat) (e:Int):Option Bool:=
 bd (cC m e 1 1000000) fun z=>
 some z
theorem aGS:CC (mo 120 [jI] oB kK):=mq (cs OA cn) tn Tryz.f120
def tZ (m:Nat) (e:ByteArray):Option Bool:=
 some (decide ((↑e.size:Int)<=60))
theorem aLZ:CC (mo 185 [.S] oB tZ):=mq cn tn Tryz.f185
def xN (m:Nat):Lp (Int×List UInt8×Int×Int) (Int⊕Int×Bool):=fun(z,D,I,e)=>
 br (decide (e<I)) (
 gd (0<=e/\e<(↑D.length:Int)) <|
 bd D[e.toNat]? fun H=>
 gd ((64:Int)≠(0:Int)) <|
 br (IntKind.u8.wrap ((↑H.toNat:Int).tdiv 64) !=(2:Int)) (
 some (.inr (.inr (0,false)))) <|
 gd (cN .i64 (64*z)) <|
 gd ((64:Int)≠(0:Int)) <|
 gd (cN .i64 (64*z+(↑H.toNat:Int).tmod 64)) <|
 gd (cN .i64 (e+1)) <|
 some (.inl (64*z+(↑H.toNat:Int).tmod 64,D,I,e+1))) <|
 some (.inr (.inl z))
def JY (m:Nat) (e:List UInt8):Option (Int×Bool):=
 jn (V:=Int) (
 aL (xN m) m (0,e,(↑e.length:Int),0)) fun z=>
 some (z,true)
theorem aO6:CC (mo 324 [.row .u8] (.tup [jI,.B]) JY):=mq cn ⟨[],[],[(3,true,⟨[],[eI 4,eR 7 .u8,eI 8,eI 9]⟩,0,⟨[],[eI 4]⟩)]⟩ Tryz.f324
def EB (m:Nat) (e:Int):Option Bool:=
 bd (α:=Bool) (
 bd (cC m e 32 126) fun z=>
 br z (
 some true) <|
 bd (cC m e 160 65535) fun D=>
 br D (
 bd (cC m e 55296 57343) fun H=>
 some (!H)) <|
 some false) fun I=>
 some I
theorem aMg:CC (mo 325 [jI] oB EB):=mq (cs OA cn) ⟨[(1,⟨[],[eB 2]⟩)],[],[]⟩ Tryz.f325
def kT (m:Nat) (e:List UInt8):Option Bool:=
 br ((↑e.length:Int)==1) (
 gd ((0:Int)<=(0:Int)/\(0:Int)<(↑e.length:Int)) <|
 bd (e[Int.toNat 0]?) fun H=>
 bd (cC m (↑H.toNat:Int) 194 239) fun I=>
 some I) <|
 br ((↑e.length:Int)==2) (
 gd ((0:Int)<=(1:Int)/\(1:Int)<=(↑e.length:Int)) <|
 bd (JY m (List.drop (Int.toNat 1) e)) fun(D,M)=>
 gd ((0:Int)<=(0:Int)/\(0:Int)<(↑e.length:Int)) <|
 bd (e[Int.toNat 0]?) fun z=>
 gd (cN .i64 ((↑z.toNat:Int)-224)) <|
 gd (cN .i64 (((↑z.toNat:Int)-224)*4096)) <|
 gd (cN .i64 (D*64)) <|
 gd (cN .i64 (((↑z.toNat:Int)-224)*4096+D*64)) <|
 bd (α:=Bool) (
 br M (
 gd ((0:Int)<=(0:Int)/\(0:Int)<(↑e.length:Int)) <|
 bd (e[Int.toNat 0]?) fun R=>
 br (decide (224<=(↑R.toNat:Int))) (
 br (decide (2048<=((↑z.toNat:Int)-224)*4096+D*64)) (
 bd (EB m (((↑z.toNat:Int)-224)*4096+D*64)) fun W=>
 some W) <|
 some false) <|
 some false) <|
 some false) fun Y=>
 some Y) <|
 some false
theorem aOV:CC (mo 294 [.row .u8] oB kT):=mq (cs OA (cs aO6 (cs aMg cn))) ⟨[(7,⟨[],[eB 2]⟩)],[],[]⟩ Tryz.f294
def BT (m:Nat) (e:Int):Option Bool:=
 bd (cC m e 0 9999) fun z=>
 some (!z)
theorem aO7:CC (mo 327 [jI] oB BT):=mq (cs OA cn) tn Tryz.f327
def eG (m:Nat):Lp (List Int×Int×Int) (Unit⊕Int):=fun(z,D,e)=>
 br (decide (e<D)) (
 gd (0<=e/\e<(↑z.length:Int)) <|
 bd z[e.toNat]? fun H=>
 bd (BT m H) fun I=>
 br I (
 some (.inr (.inr e))) <|
 gd (cN .i64 (e+1)) <|
 some (.inl (z,D,e+1))) <|
 some (.inr (.inl ()))
def fD (m:Nat) (e:List Int):Option Int:=
 jn (V:=Unit) (
 aL (eG m) m (e,(↑e.length:Int),0)) fun _=>
 some (-1)
theorem aGO:CC (mx 340 [none,some (.fn 327 [])] [.row .int] 0 oI fD):=mq (cs aO7 cn) ⟨[],[],[(2,true,⟨[(1,.fn 327 [])],[eR 0 .int,eI 7,eI 8]⟩,0,⟨[],[]⟩)]⟩ Tryz.f340
def gE (m:Nat) (e:List Int):Option Bool:=
 bd (fD m e) fun z=>
 some (decide (0<=z))
theorem aGM:CC (mx 326 [none,some (.fn 327 [])] [.row .int] 0 oB gE):=mq (cs aGO cn) tn Tryz.f326
def BR (m:Nat) (e:List Int):Option Bool:=
 bd (α:=Bool) (
 br (decide ((↑e.length:Int)<=8)) (
 bd (gE m e) fun z=>
 some (!z)) <|
 some false) fun D=>
 some D
theorem aOW:CC (mo 295 [.row .int] oB BR):=mq (cs aGM cn) ⟨[(1,⟨[],[eB 2]⟩)],[],[]⟩ Tryz.f295
def OJ (m:Nat) (e:OU):Option Bool:=
 br (e.State==0) (
 bd (α:=Bool) (
 br (!e.Mark) (
 br ((↑e.Args.length:Int)==0) (
 br ((↑e.Part.length:Int)==0) (
 some true) <|
 bd (kT m e.Part) fun D=>
 some D) <|
 some false) <|
 some false) fun H=>
 some H) <|
 br (e.State==1) (
 bd (α:=Bool) (
 br (!e.Mark) (
 br ((↑e.Args.length:Int)==0) (
 some ((↑e.Part.length:Int)==0)) <|
 some false) <|
 some false) fun I=>
 some I) <|
 bd (α:=OU×Bool) (
 br (e.State==2) (
 some (e,e.State==2)) <|
 some (e,e.State==3)) fun(z,M)=>
 br M (
 bd (α:=Bool) (
 bd (BR m z.Args) fun R=>
 br R (
 some ((↑z.Part.length:Int)==0)) <|
 some false) fun W=>
 some W) <|
 some false
theorem aOF:CC (mo 252 [jS .iVp] oB OJ):=mq (cs aOV (cs aOW cn)) ⟨[(3,⟨[],[eB 2]⟩),(5,⟨[],[eB 2]⟩),(8,⟨[],[eB 2]⟩)],[(8,false,⟨[(1,.ptr 200 0)],[.sto 200 .iVp [],eB 44]⟩)],[]⟩ Tryz.f252
def pO (m:Nat) (e:oN):Option Bool:=
 bd (α:=Bool) (
 bd (cC m e.Fg 0 8) fun z=>
 br z (
 bd (cC m e.Bg 0 8) fun D=>
 some D) <|
 some false) fun H=>
 some H
theorem aMc:CC (mo 298 [jS .iAttr] oB pO):=mq (cs OA cn) ⟨[(1,⟨[],[eB 2]⟩)],[],[]⟩ Tryz.f298
def FJ (m:Nat) (e:jB):Option Bool:=
 bd (α:=Bool) (
 bd (EB m e.R) fun z=>
 br z (
 bd (pO m e.A) fun D=>
 some D) <|
 some false) fun H=>
 some H
theorem aPc:CC (mo 343 [jS .iCell] oB FJ):=mq (cs aMg (cs aMc cn)) ⟨[(1,⟨[],[eB 2]⟩)],[],[]⟩ Tryz.f343
def yL (m:Nat) (e:jB):Option Bool:=
 bd (FJ m e) fun z=>
 some (!z)
theorem aPb:CC (mo 342 [jS .iCell] oB yL):=mq (cs aPc cn) tn Tryz.f342
def dU (m:Nat):Lp (List jB×Int×Int) (Unit⊕Int):=fun(z,D,e)=>
 br (decide (e<D)) (
 gd (0<=e/\e<(↑z.length:Int)) <|
 bd z[e.toNat]? fun H=>
 bd (yL m H) fun I=>
 br I (
 some (.inr (.inr e))) <|
 gd (cN .i64 (e+1)) <|
 some (.inl (z,D,e+1))) <|
 some (.inr (.inl ()))
def eD (m:Nat) (e:List jB):Option Int:=
 jn (V:=Unit) (
 aL (dU m) m (e,(↑e.length:Int),0)) fun _=>
 some (-1)
theorem aGR:CC (mx 346 [none,some (.fn 342 [])] [.row .iCell] 0 oI eD):=mq (cs aPb cn) ⟨[],[],[(2,true,⟨[(1,.fn 342 [])],[eR 0 .iCell,eI 7,eI 8]⟩,0,⟨[],[]⟩)]⟩ Tryz.f346
def fN (m:Nat) (e:List jB):Option Bool:=
 bd (eD m e) fun z=>
 some (decide (0<=z))
theorem aGP:CC (mx 341 [none,some (.fn 342 [])] [.row .iCell] 0 oB fN):=mq (cs aGR cn) tn Tryz.f341
def tX (m:Nat) (e:List jB):Option Bool:=
 bd (fN m e) fun z=>
 some (!z)
theorem aMh:CC (mo 328 [.row .iCell] oB tX):=mq (cs aGP cn) tn Tryz.f328
def y5 (m:Nat) (e:fY):Option Bool:=
 bd (α:=Bool) (
 bd (zB m e.W e.H) fun z=>
 br z (
 gd (cN .i64 (e.W*e.H)) <|
 br ((↑e.Cells.length:Int)==e.W*e.H) (
 bd (tX m e.Cells) fun D=>
 some D) <|
 some false) <|
 some false) fun I=>
 some I
theorem aOX:CC (mo 296 [jS .iGrid] oB y5):=mq (cs aLT (cs aMh cn)) ⟨[(1,⟨[],[eB 2]⟩)],[],[]⟩ Tryz.f296
def tT (m:Nat) (e:fY) (z D:Int):Option Bool:=
 bd (α:=Bool) (
 gd (cN .i64 (e.W-1)) <|
 bd (cC m z 0 (e.W-1)) fun I=>
 br I (
 gd (cN .i64 (e.H-1)) <|
 bd (cC m D 0 (e.H-1)) fun M=>
 some M) <|
 some false) fun R=>
 some R
theorem aOY:CC (mo 297 [jS .iGrid,jI,jI] oB (q3 tT)):=mq (cs OA cn) ⟨[(1,⟨[],[eB 6]⟩)],[],[]⟩ Tryz.f297
def nB (m:Nat):Lp (List Int×Int×Int×List Int×Int×Int) (Unit⊕Bool):=fun(z,M,R,D,W,e)=>
 br (decide (e<W)) (
 gd (0<=e/\e<(↑D.length:Int)) <|
 bd D[e.toNat]? fun H=>
 bd (α:=List Int×Int×Int×List Int×Int×Int×Bool) (
 bd (cC m H M R) fun Y=>
 br (!Y) (
 some (z,M,R,D,W,e,true)) <|
 br (decide (0<e)) (
 gd (cN .i64 (e-1)) <|
 gd (0<=e-1/\e-1<(↑z.length:Int)) <|
 bd (z[(e-1).toNat]?) fun x13=>
 some (z,M,R,D,W,e,decide (H<=x13))) <|
 some (z,M,R,D,W,e,false)) fun(x14,x15,x16,x17,x18,I,x20)=>
 br x20 (
 some (.inr (.inr false))) <|
 gd (cN .i64 (I+1)) <|
 some (.inl (x14,x15,x16,x17,x18,I+1))) <|
 some (.inr (.inl ()))
def qS (m:Nat) (e:List Int) (z D:Int):Option Bool:=
 jn (V:=Unit) (
 aL (nB m) m (e,z,D,e,(↑e.length:Int),0)) fun _=>
 some true
theorem aOZ:CC (mo 299 [.row .int,jI,jI] oB (q3 qS)):=mq (cs OA cn) ⟨[(4,⟨[],[eR 0 .int,eI 1,eI 2,eR 9 .int,eI 10,eI 11,eB 33]⟩)],[],[(2,true,⟨[],[eR 0 .int,eI 1,eI 2,eR 9 .int,eI 10,eI 11]⟩,0,⟨[],[]⟩)]⟩ Tryz.f299
def xK (m:Nat) (e:pX):Option Bool:=
 bd (α:=Bool) (
 bd (cC m (↑e.Cells.length:Int) 1 120) fun z=>
 br (!z) (
 some true) <|
 bd (tX m e.Cells) fun D=>
 some (!D)) fun H=>
 some H
theorem aO8:CC (mo 330 [jS .iRow] oB xK):=mq (cs OA (cs aMh cn)) ⟨[(1,⟨[],[eB 2]⟩)],[],[]⟩ Tryz.f330
def eF (m:Nat):Lp (List pX×Int×Int) (Unit⊕Int):=fun(z,D,e)=>
 br (decide (e<D)) (
 gd (0<=e/\e<(↑z.length:Int)) <|
 bd z[e.toNat]? fun H=>
 bd (xK m H) fun I=>
 br I (
 some (.inr (.inr e))) <|
 gd (cN .i64 (e+1)) <|
 some (.inl (z,D,e+1))) <|
 some (.inr (.inl ()))
def fC (m:Nat) (e:List pX):Option Int:=
 jn (V:=Unit) (
 aL (eF m) m (e,(↑e.length:Int),0)) fun _=>
 some (-1)
theorem aGQ:CC (mx 344 [none,some (.fn 330 [])] [.row .iRow] 0 oI fC):=mq (cs aO8 cn) ⟨[],[],[(2,true,⟨[(1,.fn 330 [])],[eR 0 .iRow,eI 7,eI 8]⟩,0,⟨[],[]⟩)]⟩ Tryz.f344
def gD (m:Nat) (e:List pX):Option Bool:=
 bd (fC m e) fun z=>
 some (decide (0<=z))
theorem aGN:CC (mx 329 [none,some (.fn 330 [])] [.row .iRow] 0 oB gD):=mq (cs aGQ cn) tn Tryz.f329
def FM (m:Nat) (e:List pX) (z:Int):Option Bool:=
 bd (α:=Bool) (
 br (decide ((↑e.length:Int)<=z)) (
 bd (gD m e) fun D=>
 some (!D)) <|
 some false) fun H=>
 some H
theorem aO0:CC (mo 300 [.row .iRow,jI] oB (q2 FM)):=mq (cs aGN cn) ⟨[(1,⟨[],[eB 4]⟩)],[],[]⟩ Tryz.f300
def tW (m:Nat):Lp (nG×List fY×Int×Int) (nG⊕Bool):=fun(z,D,I,e)=>
 br (decide (e<I)) (
 gd (0<=e/\e<(↑D.length:Int)) <|
 bd (D[0+e.toNat]?) fun M=>
 bd (α:=nG×List fY×Int×Int×Bool) (
 bd (y5 m M) fun Y=>
 br (!Y) (
 some (z,D,I,e,true)) <|
 br (M.W !=z.W) (
 some (z,D,I,e,true)) <|
 some (z,D,I,e,M.H !=z.H)) fun(x24,x25,x26,R,x28)=>
 br x28 (
 some (.inr (.inr false))) <|
 gd (cN .i64 (R+1)) <|
 some (.inl (x24,x25,x26,R+1))) <|
 some (.inr (.inl z))
def JO (m:Nat) (I:nG):Option Bool:=
 jn (V:=nG) (
 aL (tW m) m (I,[I.Main,I.Alt],(↑2:Int),0)) fun z=>
 bd (α:=nG×Bool) (
 bd (tT m z.Main z.X z.Y) fun x4=>
 br (!x4) (
 some (z,true)) <|
 bd (tT m z.Main z.SaveX z.SaveY) fun x5=>
 br (!x5) (
 some (z,true)) <|
 br z.Wrap (
 gd (cN .i64 (z.W-1)) <|
 br (z.X !=z.W-1) (
 some (z,true)) <|
 bd (pO m z.A) fun x6=>
 br (!x6) (
 some (z,true)) <|
 bd (pO m z.SaveA) fun x7=>
 some (z,!x7)) <|
 bd (pO m z.A) fun x8=>
 br (!x8) (
 some (z,true)) <|
 bd (pO m z.SaveA) fun x9=>
 some (z,!x9)) fun(e,M)=>
 br M (
 some false) <|
 bd (α:=nG×Bool) (
 br (decide (e.Top<0)) (
 some (e,true)) <|
 br (decide (e.Bot<e.Top)) (
 some (e,true)) <|
 br (decide (e.H<=e.Bot)) (
 some (e,true)) <|
 br (e.Top==e.Bot) (
 some (e,e.H !=1)) <|
 some (e,false)) fun(D,R)=>
 br R (
 some false) <|
 bd (α:=Bool) (
 gd (cN .i64 (D.W-1)) <|
 bd (qS m D.Tabs 0 (D.W-1)) fun x14=>
 br x14 (
 bd (cC m D.Limit 0 100) fun x15=>
 br x15 (
 bd (FM m D.Back D.Limit) fun x16=>
 some x16) <|
 some false) <|
 some false) fun x17=>
 some x17
theorem aOG:CC (mo 253 [jS .iScr] oB JO):=mq (cs aOX (cs aOY (cs aMc (cs aOZ (cs OA (cs aO0 cn)))))) ⟨[(4,⟨[(1,.ptr 200 0)],[.sto 200 .iScr [],eO 9 .iGrid 1000,eI 10,eI 11,eB 31]⟩),(7,⟨[(1,.ptr 200 0)],[.sto 200 .iScr [],eB 74]⟩),(9,⟨[(1,.ptr 200 0)],[.sto 200 .iScr [],eB 103]⟩),(11,⟨[],[eB 2]⟩)],[],[(2,true,⟨[(1,.ptr 200 0)],[.sto 200 .iScr [],eO 9 .iGrid 1000,eI 10,eI 11]⟩,0,⟨[(1,.ptr 200 0)],[.sto 200 .iScr []]⟩)]⟩ Tryz.f253
def y9 (m:Nat) (e:uI):Option Bool:=
 bd (α:=Bool) (
 bd (OJ m e.P) fun z=>
 br z (
 bd (JO m e.S) fun D=>
 some D) <|
 some false) fun H=>
 some H
theorem aOn:CC (mo 214 [jS .iTerm] oB y9):=mq (cs aOF (cs aOG cn)) ⟨[(1,⟨[],[eB 2]⟩)],[],[]⟩ Tryz.f214
def vH (m:Nat) (z:dL):Option Bool:=
 bd (α:=dL×Bool) (
 bd (kK m z.Id) fun M=>
 br (!M) (
 some (z,true)) <|
 bd (tZ m z.Cmd) fun R=>
 br (!R) (
 some (z,true)) <|
 bd (tZ m z.Dir) fun W=>
 br (!W) (
 some (z,true)) <|
 bd (y9 m z.Term) fun Y=>
 some (z,!Y)) fun(e,x7)=>
 br x7 (
 some false) <|
 br (e.Life==1) (
 bd (α:=Bool) (
 bd (kK m e.Pid) fun x8=>
 br x8 (
 some (e.Code==0)) <|
 some false) fun x9=>
 some x9) <|
 br (e.Life==2) (
 bd (α:=Bool) (
 bd (cC m e.Code 0 255) fun D=>
 br D (
 some (e.Pid==0)) <|
 some false) fun H=>
 some H) <|
 br (e.Life==3) (
 bd (α:=Bool) (
 br (e.Code==0) (
 some (e.Pid==0)) <|
 some false) fun I=>
 some I) <|
 some false
theorem aNZ:CC (mo 173 [jS .iPane] oB vH):=mq (cs aGS (cs aLZ (cs aOn (cs OA cn)))) ⟨[(1,⟨[(1,.ptr 200 0)],[.sto 200 .iPane [],eB 24]⟩),(5,⟨[],[eB 2]⟩),(7,⟨[],[eB 2]⟩),(9,⟨[],[eB 2]⟩)],[],[]⟩ Tryz.f173
def HP (m:Nat) (z:lF) (e:Int):Option (Bool×Int):=
 some (z.Id==e,e)
theorem aGw:CC (mx 216 [none,some (.ptr 0 0 0 0)] [jS .iWin,jI] 1 (.tup [.B,jI]) (q2 HP)):=mq cn tn Tryz.f216
def eU (m:Nat):Lp (Int×List lF×Int×Int) (Int⊕Int×Int):=fun(I,D,M,e)=>
 br (decide (e<M)) (
 gd (0<=e/\e<(↑D.length:Int)) <|
 bd D[e.toNat]? fun R=>
 bd (HP m R I) fun(H,z)=>
 br H (
 some (.inr (.inr (e,z)))) <|
 gd (cN .i64 (e+1)) <|
 some (.inl (z,D,M,e+1))) <|
 some (.inr (.inl I))
def hY (m:Nat) (e:List lF) (z:Int):Option (Int×Int):=
 jn (V:=Int) (
 aL (eU m) m (z,e,(↑e.length:Int),0)) fun D=>
 some (-1,D)
theorem aGu:CC (mx 215 [none,some (.fn 216 [.ptr 0 0 0 0])] [.row .iWin,jI] 1 (.tup [jI,jI]) (q2 hY)):=mq (cs aGw cn) ⟨[],[],[(2,true,⟨[(1,.fn 216 [(0,0)])],[.bxl 0 [jI],eR 0 .iWin,eI 7,eI 8]⟩,0,⟨[],[.bxl 0 [jI]]⟩)]⟩ Tryz.f215
def wE (m:Nat) (e:bA) (z:Int):Option Int:=
 bd (hY m e.Wins z) fun(D,H)=>
 some D
theorem aN0:CC (mo 174 [jS .iState,jI] oI (q2 wE)):=mq (cs aGu cn) tn Tryz.f174
def lJ (m:Nat):Lp (bA×Obj×List dL×Int×Int) (bA⊕Bool):=fun(z,W,H,R,e)=>
 br (decide (e<R)) (
 gd (0<=e/\e<(↑H.length:Int)) <|
 bd H[e.toNat]? fun D=>
 bd (α:=bA×dL×Obj×List dL×Int×Int×Bool) (
 bd (vH m D) fun x10=>
 br (!x10) (
 some (z,D,W,H,R,e,true)) <|
 br (decide (z.Next<=D.Id)) (
 some (z,D,W,H,R,e,true)) <|
 br (decide (0<e)) (
 gd (cN .i64 (e-1)) <|
 gd (0<=e-1/\e-1<(↑z.Panes.length:Int)) <|
 bd (z.Panes[(e-1).toNat]?) fun x11=>
 br (decide (D.Id<=x11.Id)) (
 some (z,D,W,H,R,e,true)) <|
 bd (wE m z D.Id) fun x12=>
 br (decide (0<=x12)) (
 some (z,D,W,H,R,e,true)) <|
 some (z,D,W,H,R,e,D.Term.S.Limit !=z.Limit)) <|
 bd (wE m z D.Id) fun x13=>
 br (decide (0<=x13)) (
 some (z,D,W,H,R,e,true)) <|
 some (z,D,W,H,R,e,D.Term.S.Limit !=z.Limit)) fun(x14,I,Y,x17,x18,x19,x20)=>
 br x20 (
 some (.inr (.inr false))) <|
 bd (α:=bA×dL×Obj×List dL×Int×Int×Bool) (
 br (I.Life==1) (
 bd (mpB MK.i Y (Value.int IntKind.i64 I.Pid)) fun x21=>
 some (x14,I,Y,x17,x18,x19,x21)) <|
 some (x14,I,Y,x17,x18,x19,false)) fun(x22,M,x24,x25,x26,x27,x28)=>
 br x28 (
 some (.inr (.inr false))) <|
 bd (α:=bA×Obj×List dL×Int×Int) (
 bd (mpB MK.i x24 (Value.int IntKind.i64 M.Pid)) fun x29=>
 br x29 (
 bd (QT MK.i x24 (Value.int IntKind.i64 M.Pid) (Value.bool true)) fun x30=>
 some (x22,x30,x25,x26,x27)) <|
 bd (QT MK.i x24 (Value.int IntKind.i64 M.Pid) (Value.bool (M.Life==1))) fun x31=>
 some (x22,x31,x25,x26,x27)) fun(x32,x33,x34,x35,x36)=>
 gd (cN .i64 (x36+1)) <|
 some (.inl (x32,x33,x34,x35,x36+1))) <|
 some (.inr (.inl z))
def nW (m:Nat) (e:bA):Option Bool:=
 jn (V:=bA) (
 aL (lJ m) m (e,XY,e.Panes,(↑e.Panes.length:Int),0)) fun z=>
 some (decide ((↑z.Panes.length:Int)<=24))
theorem aNo:CC (mo 121 [jS .iState] oB nW):=mq (cs aNZ (cs aN0 cn)) ⟨[(5,⟨[(1,.ptr 200 0),(3,.ptr 700 0),(5,.ptr 600 0)],[.sto 200 .iState [],.sto 600 .iPane [],.ob 700,eR 8 .iPane,eI 9,eI 10,eB 56]⟩),(7,⟨[(1,.ptr 200 0),(3,.ptr 700 0),(5,.ptr 600 0)],[.sto 200 .iState [],.sto 600 .iPane [],.ob 700,eR 8 .iPane,eI 9,eI 10,eB 65]⟩),(9,⟨[(1,.ptr 200 0),(3,.ptr 700 0)],[.sto 200 .iState [],.ob 700,eR 8 .iPane,eI 9,eI 10]⟩)],[],[(3,true,⟨[(1,.ptr 200 0),(3,.ptr 700 0)],[.sto 200 .iState [],.ob 700,eR 8 .iPane,eI 9,eI 10]⟩,0,⟨[(1,.ptr 200 0)],[.sto 200 .iState []]⟩)]⟩ Tryz.f121
def i6 (m:Nat) (e:bV):Option Bool:=
 some (e.Pane !=0)
theorem aKw:CC (mo 141 [jS .iNode] oB i6):=mq cn tn Tryz.f141
def uT (m:Nat):Lp (List Int×List bV×Int×Int) (List Int):=fun(D,H,I,e)=>
 br (decide (e<I)) (
 bd (α:=List Int×List bV×Int×Int) (
 gd (0<=e/\e<(↑H.length:Int)) <|
 bd H[e.toNat]? fun M=>
 bd (i6 m M) fun x9=>
 br x9 (
 gd (cR .int (D++ [M.Pane]).length) <|
 some (D++ [M.Pane],H,I,e)) <|
 some (D,H,I,e)) fun(R,W,Y,z)=>
 gd (cN .i64 (z+1)) <|
 some (.inl (R,W,Y,z+1))) <|
 some (.inr D)
def nX (m:Nat) (e:List bV):Option (List Int):=
 bd (α:=List Int) (
 aL (uT m) m ([],e,(↑e.length:Int),0)) fun z=>
 some z
theorem c74:CC (mo 74 [.row .iNode] (.one (.own .int 99)) nX):=mq (cs aKw cn) ⟨[],[(7,false,⟨[],[eO 3 .int 700,eR 7 .iNode,eI 8,eI 9]⟩)],[(3,false,⟨[],[eO 3 .int 700,eR 7 .iNode,eI 8,eI 9]⟩,0,⟨[],[eO 3 .int 700]⟩)]⟩ Tryz.f74
def iJ (m:Nat) (e:List Int):Option (List Int):=
 aAx e (
 some []) <|
 gd (cR .int ([]++e).length) <|
 some ([]++e)
theorem aL4:CC (mo 222 [.row .int] (.one (.own .int 99)) iJ):=mq cn tn Tryz.f222
def kF (m:Nat) (slf:List bV×Int->Option Int):List bV×Int->Option Int:=fun(I,D)=>
 bd (α:=List bV×Int×Bool) (
 br (decide (D<0)) (
 some (I,D,true)) <|
 some (I,D,decide ((↑I.length:Int)<=D))) fun(H,e,x5)=>
 br x5 (
 some (-1)) <|
 gd (0<=e/\e<(↑H.length:Int)) <|
 bd H[e.toNat]? fun z=>
 bd (i6 m z) fun x7=>
 br x7 (
 bd (α:=Int×Bool) (
 bd (kK m z.Pane) fun x8=>
 br (!x8) (
 some (e,true)) <|
 br z.Down (
 some (e,true)) <|
 some (e,z.First !=0)) fun(x9,M)=>
 br M (
 some (-1)) <|
 gd (cN .i64 (x9+1)) <|
 some (x9+1)) <|
 bd (cC m z.First 1 120) fun R=>
 br (!R) (
 some (-1)) <|
 gd (cN .i64 (e+1)) <|
 bd (slf (H,e+1)) fun W=>
 bd (slf (H,W)) fun Y=>
 some Y
def aPv (m:Nat):wX:=⟨301,[none,none],[.row .iNode,.I .i64],0,(.one (.I .i64)),lU (kF m) m⟩
theorem aMd {E:World->Prop} (e:Cl G E) (m:Nat):DA Tryz.prog G E (aPv m):=DA.rec (fun slf h=>DA.mk (o:=⟨301,[none,none],[.row .iNode,.I .i64],0,(.one (.I .i64)),kF m slf⟩) (csc h (csc (aKw e m) (csc (aGS e m) (csc (OA e m) csn)))) aAM mixed e.cl ⟨[(1,⟨[],[eR 0 .iNode,eI 1,eB 13]⟩),(5,⟨[],[eI 1,eB 33]⟩)],[],[]⟩ m (fn:=Tryz.f301) (by kernel_rfl) rfl (by kernel_rfl) (fun _=>by kernel_rfl) (fun _ _=>by kernel_rfl) (fun _=>by kernel_rfl)) m
def k9 (m:Nat):Lp (List Int×Int×(Nat×Nat)×Int) (List Int×Int):=fun(D,H,z,e)=>
 br (decide (e<(↑z.snd:Int))) (
 bd (α:=List Int×Int×(Nat×Nat)×Int) (
 gd (0<=e/\e<(↑z.snd:Int)) <|
 bd (D[z.fst+e.toNat]?) fun M=>
 gd (cN .i64 (e-1)) <|
 gd (0<=e-1/\e-1<(↑z.snd:Int)) <|
 bd (D[z.fst+(e-1).toNat]?) fun R=>
 br (M !=R) (
 gd (0<=e/\e<(↑z.snd:Int)) <|
 bd (D[z.fst+e.toNat]?) fun W=>
 gd (0<=H/\H<(↑D.length:Int)) <|
 bd (D[0+H.toNat]?) fun x18=>
 gd (cN .i64 (H+1)) <|
 some (D.set (0+H.toNat) W,H+1,z,e)) <|
 some (D,H,z,e)) fun(Y,x20,x21,I)=>
 gd (cN .i64 (I+1)) <|
 some (.inl (Y,x20,x21,I+1))) <|
 some (.inr (D,H))
def gZ (m:Nat):Lp (List Int×Int) (List Int⊕List Int):=fun(D,e)=>
 br (decide (e<(↑D.length:Int))) (
 gd (0<=e/\e<(↑D.length:Int)) <|
 bd (D[0+e.toNat]?) fun I=>
 gd (cN .i64 (e-1)) <|
 gd (0<=e-1/\e-1<(↑D.length:Int)) <|
 bd (D[0+(e-1).toNat]?) fun M=>
 br (I==M) (
 gd (0<=e/\e<=(↑D.length:Int)) <|
 bd (α:=List Int×Int) (
 aL (k9 m) m (D,e,(0+e.toNat,D.length-e.toNat),1)) fun(H,z)=>
 gd (0<=z/\z<=(↑H.length:Int)) <|
 gd (0<=z/\z<=(↑H.length:Int)) <|
 some (.inr (.inr (List.take (z.toNat-0) (List.drop (0+0) (CO H (0+z.toNat) (List.replicate (H.length-z.toNat) (zK K.int)))))))) <|
 gd (cN .i64 (e+1)) <|
 some (.inl (D,e+1))) <|
 some (.inr (.inl D))
def kI (m:Nat) (e:List Int):Option (List Int):=
 br (decide ((↑e.length:Int)<2)) (
 some e) <|
 jn (V:=List Int) (
 aL (gZ m) m (e,1)) fun z=>
 some z
theorem aO1:CC (mo 302 [.own .int 99] (.one (.row .int)) kI):=mq cn ⟨[],[(10,false,⟨[],[eO 0 .int 90000000,eI 3,.sl 4 (.view 90000000),eI 5]⟩)],[(9,false,⟨[],[eO 0 .int 90000000,eI 3,.sl 4 (.view 90000000),eI 5]⟩,2,⟨[],[eO 0 .int 90000000,eI 3]⟩),(4,true,⟨[],[eO 0 .int 90000000,eI 3]⟩,0,⟨[],[eO 0 .int 90000000]⟩)]⟩ Tryz.f302
def zA (m:Nat) (e:List bV):Option Bool:=
 bd (α:=List bV×Bool) (
 br (decide (31<(↑e.length:Int))) (
 some (e,true)) <|
 bd (lU (kF m) m (e,0)) fun D=>
 some (e,D !=(↑e.length:Int))) fun(H,I)=>
 br I (
 some false) <|
 bd (nX m H) fun z=>
 bd (fJ z) fun M=>
 bd (iJ m M) fun R=>
 bd (kI m R) fun W=>
 some ((↑W.length:Int)==(↑z.length:Int))
theorem aL7:CC (mo 254 [.row .iNode] oB zA):=mq (cs aMd (cs c74 (cs aKE (cs aL4 (cs aO1 cn))))) ⟨[(1,⟨[],[eR 0 .iNode,eB 13]⟩)],[],[]⟩ Tryz.f254
def BU (m:Nat) (a1:bV) (D:bS):Option (bS×bS×Bool):=
 bd (α:=bV×bS×bS×bS×bS×bS×Int) (
 br a1.Down (
 some (a1,D,bS.mk 0 0 0 0 0,bS.mk 0 0 0 0 0,D,D,D.H)) <|
 some (a1,D,bS.mk 0 0 0 0 0,bS.mk 0 0 0 0 0,D,D,D.W)) fun(z,M,x5,x6,I,R,e)=>
 gd (cN .i64 (e-2)) <|
 bd (α:=bS×bS×bS×bS×Int) (
 br z.Down (
 gd (cN .i64 (M.Y+if e-2<z.First then e-2 else z.First)) <|
 gd (cN .i64 ((M.Y+if e-2<z.First then e-2 else z.First)+1)) <|
 gd (cN .i64 (e-if e-2<z.First then e-2 else z.First)) <|
 gd (cN .i64 ((e-if e-2<z.First then e-2 else z.First)-1)) <|
 some (x5,x6,bS.mk I.Pane I.X I.Y I.W (if e-2<z.First then e-2 else z.First),bS.mk R.Pane R.X ((M.Y+if e-2<z.First then e-2 else z.First)+1) R.W ((e-if e-2<z.First then e-2 else z.First)-1),e)) <|
 gd (cN .i64 (M.X+if e-2<z.First then e-2 else z.First)) <|
 gd (cN .i64 ((M.X+if e-2<z.First then e-2 else z.First)+1)) <|
 gd (cN .i64 (e-if e-2<z.First then e-2 else z.First)) <|
 gd (cN .i64 ((e-if e-2<z.First then e-2 else z.First)-1)) <|
 some (x5,x6,bS.mk I.Pane I.X I.Y (if e-2<z.First then e-2 else z.First) I.H,bS.mk R.Pane ((M.X+if e-2<z.First then e-2 else z.First)+1) R.Y ((e-if e-2<z.First then e-2 else z.First)-1) R.H,e)) fun(x10,x11,x12,x13,x14)=>
 some (x12,x13,decide (3<=x14))
theorem aO2:CC (mo 304 [jS .iNode,jS .iRect] (.tup [jS .iRect,jS .iRect,.B]) (q2 BU)):=mq cn ⟨[],[(5,false,⟨[(2,.ptr 300 0),(3,.ptr 400 0),(4,.ptr 500 0),(5,.ptr 600 0),(7,.ptr 800 0),(8,.ptr 900 0)],[.sto 300 .iNode [],.sto 400 .iRect [],.sto 500 .iRect [],.sto 600 .iRect [],.sto 800 .iRect [],.sto 900 .iRect [],eI 9]⟩),(9,false,⟨[(4,.ptr 500 0),(5,.ptr 600 0),(7,.ptr 800 0),(8,.ptr 900 0)],[.sto 500 .iRect [],.sto 600 .iRect [],.sto 800 .iRect [],.sto 900 .iRect [],eI 9]⟩)],[]⟩ Tryz.f304
def hK (m:Nat) (slf:Int×bS×List bV×List bS×Bool×Unit->Option (List bV×List bS×Bool×Unit)):Int×bS×List bV×List bS×Bool×Unit->Option (List bV×List bS×Bool×Unit):=fun(I,e,a3,a4,a5,a6)=>
 gd (0<=I/\I<(↑a3.length:Int)) <|
 bd a3[I.toNat]? fun x7=>
 gd (cR .iRect (a4++ [bS.mk x7.Pane e.X e.Y e.W e.H]).length) <|
 bd (α:=List bV×Bool×Unit×bS×List bS×Int×Bool) (
 gd (0<=I/\I<(↑a3.length:Int)) <|
 bd a3[I.toNat]? fun x8=>
 bd (i6 m x8) fun x9=>
 br x9 (
 some (a3,a5,(),bS.mk x7.Pane e.X e.Y e.W e.H,a4++ [bS.mk x7.Pane e.X e.Y e.W e.H],I,true)) <|
 some (a3,a5,(),bS.mk x7.Pane e.X e.Y e.W e.H,a4++ [bS.mk x7.Pane e.X e.Y e.W e.H],I,!a5)) fun(D,x11,x12,x13,M,z,x16)=>
 br x16 (
 some (D,M,x11,())) <|
 gd (0<=z/\z<(↑D.length:Int)) <|
 bd D[z.toNat]? fun x17=>
 bd (BU m x17 x13) fun(x18,x19,R)=>
 br (!R) (
 some (D,M,R,())) <|
 gd (cN .i64 (z+1)) <|
 bd (slf (z+1,x18,D,M,R,())) fun(x21,x22,x23,x24)=>
 br x23 (
 gd (cN .i64 (z+1)) <|
 bd (lU (kF m) m (x21,z+1)) fun x25=>
 bd (slf (x25,x19,x21,x22,x23,())) fun(x26,x27,x28,x29)=>
 some (x26,x27,x28,())) <|
 some (x21,x22,x23,())
def aHG (m:Nat):wX:=⟨303,[none,none,some (.ptr 0 0 0 0),some (.ptr 1 0 0 0),some (.ptr 2 0 0 0),some (.ptr 3 0 0 0)],[.I .i64,.st .iRect [],.row .iNode,.own .iRect 99,.B,.cfn 303 [(0,0),(1,0),(2,0),(3,0)]],4,(.tup [.row .iNode,.own .iRect 99,.B,.cfn 303 [(0,0),(1,0),(2,0),(3,0)]]),lU (hK m) m⟩
theorem aGL {E:World->Prop} (e:Cl G E) (m:Nat):DA Tryz.prog G E (aHG m):=DA.rec (fun slf h=>DA.mk (o:=⟨303,[none,none,some (.ptr 0 0 0 0),some (.ptr 1 0 0 0),some (.ptr 2 0 0 0),some (.ptr 3 0 0 0)],[.I .i64,.st .iRect [],.row .iNode,.own .iRect 99,.B,.cfn 303 [(0,0),(1,0),(2,0),(3,0)]],4,(.tup [.row .iNode,.own .iRect 99,.B,.cfn 303 [(0,0),(1,0),(2,0),(3,0)]]),hK m slf⟩) (csc h (csc (aKw e m) (csc (aO2 e m) (csc (aMd e m) csn)))) aAM mixed e.cl ⟨[(3,⟨[(2,.ptr 0 0),(4,.ptr 2 0),(5,.ptr 3 0),(7,.ptr 800 0)],[.bxl 0 [.row .iNode],.bxl 2 [.B],.bxl 3 [.cfn 303 [(0,0),(1,0),(2,0),(3,0)]],.sto 800 .iRect [],.bxl 1 [.own .iRect 80001000],eI 0,eB 29]⟩)],[],[]⟩ m (fn:=Tryz.f303) (by kernel_rfl) rfl (by kernel_rfl) (fun _=>by kernel_rfl) (fun _ _=>by kernel_rfl) (fun _=>by kernel_rfl)) m
def HR (m:Nat) (e:List bV) (z D:Int):Option (List bS×Bool):=
 bd (lU (hK m) m (0,bS.mk 0 0 0 z D,e,[],true,())) fun(M,H,I,R)=>
 some (H,I)
theorem aOH:CC (mo 255 [.row .iNode,jI,jI] (.tup [.own .iRect 99,.B]) (q3 HR)):=mq (cs aGL cn) tn Tryz.f255
def L5 (m:Nat) (e:List bV) (z D:Int):Option (List bS×Bool):=
 bd (α:=List bV×Int×Int×Bool) (
 bd (zA m e) fun R=>
 br (!R) (
 some (e,z,D,true)) <|
 bd (cC m z 1 120) fun W=>
 br (!W) (
 some (e,z,D,true)) <|
 bd (cC m D 1 120) fun Y=>
 some (e,z,D,!Y)) fun(x7,x8,x9,H)=>
 br H (
 some ([],false)) <|
 bd (HR m x7 x8 x9) fun(I,M)=>
 some (I,M)
theorem aOo:CC (mo 217 [.row .iNode,jI,jI] (.tup [.own .iRect 99,.B]) (q3 L5)):=mq (cs aL7 (cs OA (cs aOH cn))) ⟨[(1,⟨[],[eR 0 .iNode,eI 1,eI 2,eB 20]⟩)],[],[]⟩ Tryz.f217
def tV (m:Nat) (e:bS):Option Bool:=
 some (e.Pane==0)
theorem aL2:CC (mo 219 [jS .iRect] oB tV):=mq cn tn Tryz.f219
def d7 (m:Nat):Lp (List bS×Int×Int) (Unit⊕Int):=fun(z,D,e)=>
 br (decide (e<D)) (
 gd (0<=e/\e<(↑z.length:Int)) <|
 bd z[e.toNat]? fun H=>
 bd (tV m H) fun I=>
 br I (
 some (.inr (.inr e))) <|
 gd (cN .i64 (e+1)) <|
 some (.inl (z,D,e+1))) <|
 some (.inr (.inl ()))
def gQ (m:Nat) (e:List bS):Option Int:=
 jn (V:=Unit) (
 aL (d7 m) m (e,(↑e.length:Int),0)) fun _=>
 some (-1)
theorem aGB:CC (mx 228 [none,some (.fn 219 [])] [.row .iRect] 0 oI gQ):=mq (cs aL2 cn) ⟨[],[],[(2,true,⟨[(1,.fn 219 [])],[eR 0 .iRect,eI 7,eI 8]⟩,0,⟨[],[]⟩)]⟩ Tryz.f228
def fU (m:Nat):Lp (List bS×Int×Int) (List bS×Int):=fun(e,z,D)=>
 br (decide (D<(↑e.length:Int))) (
 bd (α:=List bS×Int×Int) (
 gd (0<=D/\D<(↑e.length:Int)) <|
 bd (e[0+D.toNat]?) fun W=>
 bd (tV m W) fun I=>
 br (!I) (
 gd (0<=z/\z<(↑e.length:Int)) <|
 bd (e[0+z.toNat]?) fun Y=>
 gd (cN .i64 (z+1)) <|
 some (e.set (0+z.toNat) W,z+1,D)) <|
 some (e,z,D)) fun(M,R,H)=>
 gd (cN .i64 (H+1)) <|
 some (.inl (M,R,H+1))) <|
 some (.inr (e,z))
def eT (m:Nat) (H:List bS):Option (List bS):=
 bd (gQ m H) fun z=>
 br (z== -1) (
 some H) <|
 gd (cN .i64 (z+1)) <|
 bd (α:=List bS×Int) (
 aL (fU m) m (H,z,z+1)) fun(D,e)=>
 gd (0<=e/\e<=(↑D.length:Int)) <|
 gd (0<=e/\e<=(↑D.length:Int)) <|
 some (List.take (e.toNat-0) (List.drop (0+0) (CO D (0+e.toNat) (List.replicate (D.length-e.toNat) (zK K.iRect)))))
theorem aGx:CC (mx 218 [none,some (.fn 219 [])] [.own .iRect 99] 0 (.one (.row .iRect)) eT):=mq (cs aGB (cs aL2 cn)) ⟨[],[(6,false,⟨[(1,.fn 219 [])],[eO 0 .iRect 90000000,eI 5,eI 6]⟩)],[(5,false,⟨[(1,.fn 219 [])],[eO 0 .iRect 90000000,eI 5,eI 6]⟩,0,⟨[],[eO 0 .iRect 90000000,eI 5]⟩)]⟩ Tryz.f218
def y7 (m:Nat) (e:List bV) (z D:Int):Option (List bS×Bool):=
 bd (L5 m e z D) fun(H,I)=>
 br (!I) (
 some ([],false)) <|
 bd (eT m H) fun M=>
 some (M,true)
theorem aLX:CC (mo 175 [.row .iNode,jI,jI] (.tup [.row .iRect,.B]) (q3 y7)):=mq (cs aOo (cs aGx cn)) tn Tryz.f175
def lD (m:Nat):Lp (ByteArray×Int×ByteArray×Int×Int) (ByteArray×Int⊕Bool):=fun(I,M,e,H,z)=>
 br (decide (z<H)) (
 gd (0<=z) <|
 bd I[z.toNat]? fun D=>
 bd (α:=ByteArray×Int×ByteArray×Int×Int×Bool) (
 br (decide (97<=(↑D.toNat:Int))) (
 br (decide ((↑D.toNat:Int)<=122)) (
 some (I,M,e,H,z,!true)) <|
 br (decide (48<=(↑D.toNat:Int))) (
 br (decide ((↑D.toNat:Int)<=57)) (
 some (I,M,e,H,z,!true)) <|
 bd (cW e (↑D.toNat:Int)) fun W=>
 some (I,M,e,H,z,!decide (0<=W))) <|
 bd (cW e (↑D.toNat:Int)) fun Y=>
 some (I,M,e,H,z,!decide (0<=Y))) <|
 br (decide (48<=(↑D.toNat:Int))) (
 br (decide ((↑D.toNat:Int)<=57)) (
 some (I,M,e,H,z,!true)) <|
 bd (cW e (↑D.toNat:Int)) fun x16=>
 some (I,M,e,H,z,!decide (0<=x16))) <|
 bd (cW e (↑D.toNat:Int)) fun x17=>
 some (I,M,e,H,z,!decide (0<=x17))) fun(x18,x19,x20,x21,R,x23)=>
 br x23 (
 some (.inr (.inr false))) <|
 gd (cN .i64 (R+1)) <|
 some (.inl (x18,x19,x20,x21,R+1))) <|
 some (.inr (.inl (I,M)))
def wG (m:Nat) (e:ByteArray) (z:Int) (D:ByteArray):Option Bool:=
 jn (V:=ByteArray×Int) (
 aL (lD m) m (e,z,D,(↑e.size:Int),0)) fun(H,I)=>
 bd (cC m (↑H.size:Int) 1 I) fun M=>
 some M
theorem aL3:CC (mo 220 [.S,jI,.S] oB (q3 wG)):=mq (cs aOI (cs OA cn)) ⟨[(5,⟨[],[eS 0,eI 1,eS 2,eI 10,eI 11,eB 37]⟩)],[],[(2,true,⟨[],[eS 0,eI 1,eS 2,eI 10,eI 11]⟩,0,⟨[],[eS 0,eI 1]⟩)]⟩ Tryz.f220
def pQ (m:Nat) (e:ByteArray):Option Bool:=
 bd (wG m e 12 (ByteArray.mk #[])) fun z=>
 some z
theorem aKC:CC (mo 176 [.S] oB pQ):=mq (cs aL3 cn) tn Tryz.f176
def jW (m:Nat):Lp (List Int×Int×Int×Int) (Unit⊕Int):=fun(z,D,H,e)=>
 br (decide (e<H)) (
 gd (0<=e/\e<(↑z.length:Int)) <|
 bd z[e.toNat]? fun I=>
 br (D==I) (
 some (.inr (.inr e))) <|
 gd (cN .i64 (e+1)) <|
 some (.inl (z,D,H,e+1))) <|
 some (.inr (.inl ()))
def lI (m:Nat) (e:List Int) (z:Int):Option Int:=
 jn (V:=Unit) (
 aL (jW m) m (e,z,(↑e.length:Int),0)) fun _=>
 some (-1)
theorem aOp:CC (mo 221 [.row .int,jI] oI (q2 lI)):=mq cn ⟨[],[],[(2,true,⟨[],[eR 0 .int,eI 1,eI 7,eI 8]⟩,0,⟨[],[]⟩)]⟩ Tryz.f221
def fH (m:Nat) (e:List Int) (z:Int):Option Bool:=
 bd (lI m e z) fun D=>
 some (decide (0<=D))
theorem aKD:CC (mo 177 [.row .int,jI] oB (q2 fH)):=mq (cs aOp cn) tn Tryz.f177
def jV (m:Nat):Lp (List Int×List Int×Int×Int) (Unit⊕Bool):=fun(z,D,H,e)=>
 br (decide (e<H)) (
 gd (0<=e/\e<(↑z.length:Int)) <|
 bd z[e.toNat]? fun I=>
 gd (0<=e/\e<(↑D.length:Int)) <|
 bd D[e.toNat]? fun M=>
 br (I !=M) (
 some (.inr (.inr false))) <|
 gd (cN .i64 (e+1)) <|
 some (.inl (z,D,H,e+1))) <|
 some (.inr (.inl ()))
def lH (m:Nat) (e z:List Int):Option Bool:=
 br ((↑e.length:Int) !=(↑z.length:Int)) (
 some false) <|
 jn (V:=Unit) (
 aL (jV m) m (e,z,(↑e.length:Int),0)) fun _=>
 some true
theorem aOq:CC (mo 223 [.row .int,.row .int] oB (q2 lH)):=mq cn ⟨[],[],[(4,true,⟨[],[eR 0 .int,eR 1 .int,eI 12,eI 13]⟩,0,⟨[],[]⟩)]⟩ Tryz.f223
def JX (m:Nat) (e z:List Int):Option Bool:=
 bd (iJ m e) fun D=>
 bd (iJ m z) fun H=>
 bd (fJ D) fun I=>
 bd (fJ H) fun M=>
 bd (lH m I M) fun R=>
 some R
theorem aLY:CC (mo 178 [.row .int,.row .int] oB (q2 JX)):=mq (cs aL4 (cs aKE (cs aOq cn))) tn Tryz.f178
def kE (m:Nat):Lp (bA×List Int×List Int×List dL×Int×Int) (bA×List Int×List Int):=fun(H,I,z,D,M,e)=>
 br (decide (e<M)) (
 gd (0<=e/\e<(↑D.length:Int)) <|
 bd D[e.toNat]? fun R=>
 gd (cR .int (z++ [R.Id]).length) <|
 gd (cN .i64 (e+1)) <|
 some (.inl (H,I,z++ [R.Id],D,M,e+1))) <|
 some (.inr (H,I,z))
def l7 (m:Nat):Lp (bA×List Int×List Int×List lF×Int×Int) (bA×List Int×List Int⊕Bool):=fun(D,M,R,I,Y,z)=>
 br (decide (z<Y)) (
 gd (0<=z/\z<(↑I.length:Int)) <|
 bd I[z.toNat]? fun e=>
 bd (y7 m e.Tree D.W D.H) fun(x19,x20)=>
 bd (α:=bA×lF×List Int×List Int×List lF×Int×Int×Bool) (
 br (decide (e.Id<1)) (
 some (D,e,M,R,I,Y,z,true)) <|
 br (decide (D.Next<=e.Id)) (
 some (D,e,M,R,I,Y,z,true)) <|
 br (decide (0<z)) (
 gd (cN .i64 (z-1)) <|
 gd (0<=z-1/\z-1<(↑D.Wins.length:Int)) <|
 bd (D.Wins[(z-1).toNat]?) fun x21=>
 br (decide (e.Id<=x21.Id)) (
 some (D,e,M,R,I,Y,z,true)) <|
 bd (pQ m e.Name) fun x22=>
 br (!x22) (
 some (D,e,M,R,I,Y,z,true)) <|
 br (!x20) (
 some (D,e,M,R,I,Y,z,true)) <|
 bd (nX m e.Tree) fun x23=>
 bd (fH m x23 e.Active) fun x24=>
 some (D,e,M,R,I,Y,z,!x24)) <|
 bd (pQ m e.Name) fun x25=>
 br (!x25) (
 some (D,e,M,R,I,Y,z,true)) <|
 br (!x20) (
 some (D,e,M,R,I,Y,z,true)) <|
 bd (nX m e.Tree) fun x26=>
 bd (fH m x26 e.Active) fun x27=>
 some (D,e,M,R,I,Y,z,!x27)) fun(x28,x29,x30,x31,x32,x33,x34,x35)=>
 br x35 (
 some (.inr (.inr false))) <|
 bd (nX m x29.Tree) fun x36=>
 gd (cR .int (x30++x36).length) <|
 gd (cN .i64 (x34+1)) <|
 some (.inl (x28,x30++x36,x31,x32,x33,x34+1))) <|
 some (.inr (.inl (D,M,R)))
def pB (m:Nat) (e:bA):Option Bool:=
 jn (V:=bA×List Int×List Int) (
 aL (l7 m) m (e,[],[],e.Wins,(↑e.Wins.length:Int),0)) fun(z,I,M)=>
 bd (α:=bA×List Int×List Int) (
 aL (kE m) m (z,I,M,z.Panes,(↑z.Panes.length:Int),0)) fun(R,W,Y)=>
 bd (α:=Bool) (
 br (decide ((↑R.Wins.length:Int)<=12)) (
 bd (JX m W Y) fun D=>
 some D) <|
 some false) fun H=>
 some H
theorem aNp:CC (mo 122 [jS .iState] oB pB):=mq (cs aLX (cs aKC (cs c74 (cs aKD (cs aLY cn))))) ⟨[(6,⟨[(1,.ptr 200 0),(6,.ptr 700 0)],[.sto 200 .iState [],.sto 700 .iWin [],eO 3 .int 1200,eO 4 .int 1300,eR 14 .iWin,eI 15,eI 16,eB 75]⟩),(15,⟨[],[eB 2]⟩)],[],[(3,true,⟨[(1,.ptr 200 0)],[.sto 200 .iState [],eO 3 .int 1200,eO 4 .int 1300,eR 14 .iWin,eI 15,eI 16]⟩,0,⟨[(1,.ptr 200 0)],[.sto 200 .iState [],eO 3 .int 1200,eO 4 .int 1300]⟩),(11,false,⟨[(1,.ptr 200 0)],[.sto 200 .iState [],eO 3 .int 1200,eO 4 .int 1300,eR 83 .iPane,eI 84,eI 85]⟩,2,⟨[(1,.ptr 200 0)],[.sto 200 .iState [],eO 3 .int 1200,eO 4 .int 1300]⟩)]⟩ Tryz.f122
def EA (m:Nat) (z:kM) (e:ByteArray):Option (Bool×ByteArray):=
 some (decide (z.Name=e),e)
theorem aGz:CC (mx 225 [none,some (.ptr 0 0 0 0)] [jS .iSess,.S] 1 (.tup [.B,.S]) (q2 EA)):=mq cn tn Tryz.f225
def d8 (m:Nat):Lp (ByteArray×List kM×Int×Int) (ByteArray⊕Int×ByteArray):=fun(I,D,M,e)=>
 br (decide (e<M)) (
 gd (0<=e/\e<(↑D.length:Int)) <|
 bd D[e.toNat]? fun R=>
 bd (EA m R I) fun(H,z)=>
 br H (
 some (.inr (.inr (e,z)))) <|
 gd (cN .i64 (e+1)) <|
 some (.inl (z,D,M,e+1))) <|
 some (.inr (.inl I))
def gR (m:Nat) (e:List kM) (z:ByteArray):Option (Int×ByteArray):=
 jn (V:=ByteArray) (
 aL (d8 m) m (z,e,(↑e.length:Int),0)) fun D=>
 some (-1,D)
theorem aGy:CC (mx 224 [none,some (.fn 225 [.ptr 0 0 0 0])] [.row .iSess,.S] 1 (.tup [jI,.S]) (q2 gR)):=mq (cs aGz cn) ⟨[],[],[(2,true,⟨[(1,.fn 225 [(0,0)])],[.bxl 0 [.S],eR 0 .iSess,eI 7,eI 8]⟩,0,⟨[],[.bxl 0 [.S]]⟩)]⟩ Tryz.f224
def FL (m:Nat) (e:bA) (z:ByteArray):Option Int:=
 bd (gR m e.Sess z) fun(D,H)=>
 some D
theorem aN1:CC (mo 179 [jS .iState,.S] oI (q2 FL)):=mq (cs aGy cn) tn Tryz.f179
def kD (m:Nat):Lp (bA×List Int×List Int×List lF×Int×Int) (bA×List Int×List Int):=fun(H,I,z,D,M,e)=>
 br (decide (e<M)) (
 gd (0<=e/\e<(↑D.length:Int)) <|
 bd D[e.toNat]? fun R=>
 gd (cR .int (z++ [R.Id]).length) <|
 gd (cN .i64 (e+1)) <|
 some (.inl (H,I,z++ [R.Id],D,M,e+1))) <|
 some (.inr (H,I,z))
def l6 (m:Nat):Lp (bA×List Int×List Int×List kM×Int×Int) (bA×List Int×List Int⊕Bool):=fun(D,I,M,H,R,e)=>
 br (decide (e<R)) (
 gd (0<=e/\e<(↑H.length:Int)) <|
 bd H[e.toNat]? fun z=>
 bd (α:=bA×kM×List Int×List Int×List kM×Int×Int×Bool) (
 bd (pQ m z.Name) fun x19=>
 br (!x19) (
 some (D,z,I,M,H,R,e,true)) <|
 bd (FL m D z.Name) fun x20=>
 br (x20 !=e) (
 some (D,z,I,M,H,R,e,true)) <|
 bd (fH m z.Wins z.Active) fun x21=>
 some (D,z,I,M,H,R,e,!x21)) fun(x22,W,Y,x25,x26,x27,x28,x29)=>
 br x29 (
 some (.inr (.inr false))) <|
 gd (cR .int (Y++W.Wins).length) <|
 gd (cN .i64 (x28+1)) <|
 some (.inl (x22,Y++W.Wins,x25,x26,x27,x28+1))) <|
 some (.inr (.inl (D,I,M)))
def pA (m:Nat) (e:bA):Option Bool:=
 jn (V:=bA×List Int×List Int) (
 aL (l6 m) m (e,[],[],e.Sess,(↑e.Sess.length:Int),0)) fun(z,I,M)=>
 bd (α:=bA×List Int×List Int) (
 aL (kD m) m (z,I,M,z.Wins,(↑z.Wins.length:Int),0)) fun(R,W,Y)=>
 bd (α:=Bool) (
 br (decide ((↑R.Sess.length:Int)<=8)) (
 bd (JX m W Y) fun D=>
 some D) <|
 some false) fun H=>
 some H
theorem aNq:CC (mo 123 [jS .iState] oB pA):=mq (cs aKC (cs aN1 (cs aKD (cs aLY cn)))) ⟨[(5,⟨[(1,.ptr 200 0),(6,.ptr 700 0)],[.sto 200 .iState [],.sto 700 .iSess [],eO 3 .int 1000,eO 4 .int 1100,eR 12 .iSess,eI 13,eI 14,eB 38]⟩),(14,⟨[],[eB 2]⟩)],[],[(3,true,⟨[(1,.ptr 200 0)],[.sto 200 .iState [],eO 3 .int 1000,eO 4 .int 1100,eR 12 .iSess,eI 13,eI 14]⟩,0,⟨[(1,.ptr 200 0)],[.sto 200 .iState [],eO 3 .int 1000,eO 4 .int 1100]⟩),(10,false,⟨[(1,.ptr 200 0)],[.sto 200 .iState [],eO 3 .int 1000,eO 4 .int 1100,eR 45 .iWin,eI 46,eI 47]⟩,2,⟨[(1,.ptr 200 0)],[.sto 200 .iState [],eO 3 .int 1000,eO 4 .int 1100]⟩)]⟩ Tryz.f123
def FK (m:Nat) (e:List bV):Option (List Int):=
 bd (zA m e) fun z=>
 br (!z) (
 some []) <|
 bd (nX m e) fun D=>
 some D
theorem aOr:CC (mo 227 [.row .iNode] (.one (.own .int 99)) FK):=mq (cs aL7 (cs c74 cn)) tn Tryz.f227
def HQ (m:Nat) (z:lF) (e:Int):Option (Bool×Int):=
 bd (FK m z.Tree) fun D=>
 bd (fH m D e) fun H=>
 some (H,e)
theorem aGA:CC (mx 226 [none,some (.ptr 0 0 0 0)] [jS .iWin,jI] 1 (.tup [.B,jI]) (q2 HQ)):=mq (cs aOr (cs aKD cn)) tn Tryz.f226
def eV (m:Nat):Lp (Int×List lF×Int×Int) (Int⊕Int×Int):=fun(I,D,M,e)=>
 br (decide (e<M)) (
 gd (0<=e/\e<(↑D.length:Int)) <|
 bd D[e.toNat]? fun R=>
 bd (HQ m R I) fun(H,z)=>
 br H (
 some (.inr (.inr (e,z)))) <|
 gd (cN .i64 (e+1)) <|
 some (.inl (z,D,M,e+1))) <|
 some (.inr (.inl I))
def hZ (m:Nat) (e:List lF) (z:Int):Option (Int×Int):=
 jn (V:=Int) (
 aL (eV m) m (z,e,(↑e.length:Int),0)) fun D=>
 some (-1,D)
theorem aGv:CC (mx 215 [none,some (.fn 226 [.ptr 0 0 0 0])] [.row .iWin,jI] 1 (.tup [jI,jI]) (q2 hZ)):=mq (cs aGA cn) ⟨[],[],[(2,true,⟨[(1,.fn 226 [(0,0)])],[.bxl 0 [jI],eR 0 .iWin,eI 7,eI 8]⟩,0,⟨[],[.bxl 0 [jI]]⟩)]⟩ Tryz.f215
def JR (m:Nat) (e:bA) (z:Int):Option Int:=
 bd (hZ m e.Wins z) fun(D,H)=>
 some D
theorem aN2:CC (mo 181 [jS .iState,jI] oI (q2 JR)):=mq (cs aGv cn) tn Tryz.f181
def BO (m:Nat) (z:bS) (e:Int):Option (Bool×Int):=
 some (z.Pane==e,e)
theorem aGD:CC (mx 229 [none,some (.ptr 0 0 0 0)] [jS .iRect,jI] 1 (.tup [.B,jI]) (q2 BO)):=mq cn tn Tryz.f229
def d3 (m:Nat):Lp (Int×List bS×Int×Int) (Int⊕Int×Int):=fun(I,D,M,e)=>
 br (decide (e<M)) (
 gd (0<=e/\e<(↑D.length:Int)) <|
 bd D[e.toNat]? fun R=>
 bd (BO m R I) fun(H,z)=>
 br H (
 some (.inr (.inr (e,z)))) <|
 gd (cN .i64 (e+1)) <|
 some (.inl (z,D,M,e+1))) <|
 some (.inr (.inl I))
def gK (m:Nat) (e:List bS) (z:Int):Option (Int×Int):=
 jn (V:=Int) (
 aL (d3 m) m (z,e,(↑e.length:Int),0)) fun D=>
 some (-1,D)
theorem aGC:CC (mx 228 [none,some (.fn 229 [.ptr 0 0 0 0])] [.row .iRect,jI] 1 (.tup [jI,jI]) (q2 gK)):=mq (cs aGD cn) ⟨[],[],[(2,true,⟨[(1,.fn 229 [(0,0)])],[.bxl 0 [jI],eR 0 .iRect,eI 7,eI 8]⟩,0,⟨[],[.bxl 0 [jI]]⟩)]⟩ Tryz.f228
def BN (m:Nat) (D:List bV) (H I M:Int):Option (bS×Bool):=
 bd (y7 m D H I) fun(z,W)=>
 bd (gK m z M) fun(e,Y)=>
 br (decide (e<0)) (
 some (bS.mk 0 0 0 0 0,false)) <|
 gd (0<=e/\e<(↑z.length:Int)) <|
 bd z[e.toNat]? fun R=>
 some (R,true)
theorem aN3:CC (mo 182 [.row .iNode,jI,jI,jI] (.tup [jS .iRect,.B]) (q4 BN)):=mq (cs aLX (cs aGC cn)) tn Tryz.f182
def OI (m:Nat) (e:bA) (z:Int):Option (Int×Int):=
 bd (JR m e z) fun D=>
 br (decide (D<0)) (
 some (0,0)) <|
 gd (0<=D/\D<(↑e.Wins.length:Int)) <|
 bd e.Wins[D.toNat]? fun I=>
 bd (α:=bA×lF×Int×Bool) (
 br I.Zoom (
 some (e,I,z,I.Active==z)) <|
 some (e,I,z,false)) fun(M,Y,x7,x8)=>
 br x8 (
 some (M.W,M.H)) <|
 bd (BN m Y.Tree M.W M.H x7) fun(R,x10)=>
 some (R.W,R.H)
theorem aNr:CC (mo 126 [jS .iState,jI] (.tup [jI,jI]) (q2 OI)):=mq (cs aN2 (cs aN3 cn)) ⟨[(5,⟨[(2,.ptr 300 0),(7,.ptr 800 0)],[.sto 300 .iState [],.sto 800 .iWin [],eI 1,eB 27]⟩)],[],[]⟩ Tryz.f126
def uS (m:Nat) (e:dL) (z:bA):Option (Bool×bA):=
 bd (OI m z e.Id) fun(D,I)=>
 bd (α:=bA×Bool) (
 br (e.Term.S.W !=D) (
 some (z,true)) <|
 some (z,e.Term.S.H !=I)) fun(M,R)=>
 some (R,M)
theorem aGo:CC (mx 125 [none,some (.ptr 0 0 0 0)] [jS .iPane,jS .iState] 1 (.tup [.B,jS .iState]) (q2 uS)):=mq (cs aNr cn) ⟨[(2,⟨[],[.sto 0 .iState [],eB 3]⟩)],[],[]⟩ Tryz.f125
def dZ (m:Nat):Lp (bA×List dL×Int×Int) (bA⊕Int×bA):=fun(I,D,M,e)=>
 br (decide (e<M)) (
 gd (0<=e/\e<(↑D.length:Int)) <|
 bd D[e.toNat]? fun R=>
 bd (uS m R I) fun(H,z)=>
 br H (
 some (.inr (.inr (e,z)))) <|
 gd (cN .i64 (e+1)) <|
 some (.inl (z,D,M,e+1))) <|
 some (.inr (.inl I))
def gJ (m:Nat) (e:List dL) (z:bA):Option (Int×bA):=
 jn (V:=bA) (
 aL (dZ m) m (z,e,(↑e.length:Int),0)) fun D=>
 some (-1,D)
theorem aGq:CC (mx 180 [none,some (.fn 125 [.ptr 0 0 0 0])] [.row .iPane,jS .iState] 1 (.tup [jI,jS .iState]) (q2 gJ)):=mq (cs aGo cn) ⟨[],[],[(2,true,⟨[(1,.fn 125 [(0,0)])],[.sto 0 .iState [],eR 0 .iPane,eI 7,eI 8]⟩,0,⟨[],[.sto 0 .iState []]⟩)]⟩ Tryz.f180
def dY (m:Nat) (e:List dL) (z:bA):Option (Bool×bA):=
 bd (gJ m e z) fun(D,H)=>
 some (decide (0<=D),H)
theorem aGn:CC (mx 124 [none,some (.fn 125 [.ptr 0 0 0 0])] [.row .iPane,jS .iState] 1 (.tup [.B,jS .iState]) (q2 dY)):=mq (cs aGq cn) tn Tryz.f124
def wC (m:Nat) (e:bA):Option Bool:=
 bd (α:=bA×Bool) (
 bd (zB m e.W e.H) fun I=>
 br (!I) (
 some (e,true)) <|
 bd (cC m e.Limit 0 100) fun M=>
 br (!M) (
 some (e,true)) <|
 bd (kK m e.Next) fun R=>
 br (!R) (
 some (e,true)) <|
 bd (nW m e) fun Y=>
 br (!Y) (
 some (e,true)) <|
 bd (pB m e) fun x6=>
 br (!x6) (
 some (e,true)) <|
 bd (pA m e) fun x7=>
 some (e,!x7)) fun(D,x9)=>
 br x9 (
 some false) <|
 bd (dY m D.Panes D) fun(z,x11)=>
 some (!z)
theorem c61:CC (mo 61 [jS .iState] oB wC):=mq (cs aLT (cs OA (cs aGS (cs aNo (cs aNp (cs aNq (cs aGn cn))))))) ⟨[(1,⟨[(1,.ptr 200 0)],[.sto 200 .iState [],eB 35]⟩)],[],[]⟩ Tryz.f61
def qR (m:Nat) (z:jL) (e:Int):Option (Bool×Int):=
 some (z.Pane==e,e)
theorem aGs:CC (mx 184 [none,some (.ptr 0 0 0 0)] [jS .iProc,jI] 1 (.tup [.B,jI]) (q2 qR)):=mq cn tn Tryz.f184
def cZ (m:Nat):Lp (Int×List jL×Int×Int) (Int⊕Int×Int):=fun(I,D,M,e)=>
 br (decide (e<M)) (
 gd (0<=e/\e<(↑D.length:Int)) <|
 bd D[e.toNat]? fun R=>
 bd (qR m R I) fun(H,z)=>
 br H (
 some (.inr (.inr (e,z)))) <|
 gd (cN .i64 (e+1)) <|
 some (.inl (z,D,M,e+1))) <|
 some (.inr (.inl I))
def fI (m:Nat) (e:List jL) (z:Int):Option (Int×Int):=
 jn (V:=Int) (
 aL (cZ m) m (z,e,(↑e.length:Int),0)) fun D=>
 some (-1,D)
theorem aGr:CC (mx 183 [none,some (.fn 184 [.ptr 0 0 0 0])] [.row .iProc,jI] 1 (.tup [jI,jI]) (q2 fI)):=mq (cs aGs cn) ⟨[],[],[(2,true,⟨[(1,.fn 184 [(0,0)])],[.bxl 0 [jI],eR 0 .iProc,eI 7,eI 8]⟩,0,⟨[],[.bxl 0 [jI]]⟩)]⟩ Tryz.f183
def jK (m:Nat) (e:fL) (z:Int):Option Int:=
 bd (fI m e.Live z) fun(D,H)=>
 some D
theorem aNs:CC (mo 127 [jS .iTable,jI] oI (q2 jK)):=mq (cs aGr cn) tn Tryz.f127
def oQ (m:Nat):Lp (fL×List jL×Int×Int) (fL⊕Bool):=fun(z,D,H,e)=>
 br (decide (e<H)) (
 gd (0<=e/\e<(↑D.length:Int)) <|
 bd D[e.toNat]? fun I=>
 bd (α:=fL×List jL×Int×Int×Bool) (
 bd (cC m I.Pid 1 (IntKind.i64.wrap (z.Next-1))) fun R=>
 br (!R) (
 some (z,D,H,e,true)) <|
 br (decide (0<e)) (
 gd (cN .i64 (e-1)) <|
 gd (0<=e-1/\e-1<(↑z.Live.length:Int)) <|
 bd (z.Live[(e-1).toNat]?) fun W=>
 br (decide (I.Pid<=W.Pid)) (
 some (z,D,H,e,true)) <|
 bd (kK m I.Pane) fun Y=>
 br (!Y) (
 some (z,D,H,e,true)) <|
 bd (jK m z I.Pane) fun x13=>
 some (z,D,H,e,x13 !=e)) <|
 bd (kK m I.Pane) fun x14=>
 br (!x14) (
 some (z,D,H,e,true)) <|
 bd (jK m z I.Pane) fun x15=>
 some (z,D,H,e,x15 !=e)) fun(x16,x17,x18,M,x20)=>
 br x20 (
 some (.inr (.inr false))) <|
 gd (cN .i64 (M+1)) <|
 some (.inl (x16,x17,x18,M+1))) <|
 some (.inr (.inl z))
def wD (m:Nat) (e:fL):Option Bool:=
 jn (V:=fL) (
 aL (oQ m) m (e,e.Live,(↑e.Live.length:Int),0)) fun z=>
 bd (kK m z.Next) fun D=>
 some D
theorem c63:CC (mo 63 [jS .iTable] oB wD):=mq (cs OA (cs aGS (cs aNs cn))) ⟨[(4,⟨[(1,.ptr 200 0)],[.sto 200 .iTable [],eR 6 .iProc,eI 7,eI 8,eB 49]⟩)],[],[(2,true,⟨[(1,.ptr 200 0)],[.sto 200 .iTable [],eR 6 .iProc,eI 7,eI 8]⟩,0,⟨[(1,.ptr 200 0)],[.sto 200 .iTable []]⟩)]⟩ Tryz.f63
def o9 (m:Nat):Lp (Int×List gB×Int×Int) Int:=fun(z,D,H,e)=>
 br (decide (e<H)) (
 gd (0<=e/\e<(↑D.length:Int)) <|
 bd D[e.toNat]? fun I=>
 gd (cN .i64 (z+(↑I.Body.length:Int))) <|
 gd (cN .i64 (e+1)) <|
 some (.inl (z+(↑I.Body.length:Int),D,H,e+1))) <|
 some (.inr z)
def uR (m:Nat) (e:cO):Option Int:=
 bd (α:=Int) (
 aL (o9 m) m (0,e.Files,(↑e.Files.length:Int),0)) fun z=>
 some z
theorem aN8:CC (mo 190 [jS .iDisk] oI uR):=mq cn ⟨[],[],[(3,false,⟨[],[eI 3,eR 7 .iFile,eI 8,eI 9]⟩,0,⟨[],[eI 3]⟩)]⟩ Tryz.f190
def l5 (m:Nat):Lp (cO×List gB×Int×Int) (cO⊕Bool):=fun(D,H,I,e)=>
 br (decide (e<I)) (
 gd (0<=e/\e<(↑H.length:Int)) <|
 bd H[e.toNat]? fun z=>
 bd (α:=cO×List gB×Int×Int×Bool) (
 bd (cC m z.Id 1 (IntKind.i64.wrap (D.Next-1))) fun R=>
 br (!R) (
 some (D,H,I,e,true)) <|
 br (decide (0<e)) (
 gd (cN .i64 (e-1)) <|
 gd (0<=e-1/\e-1<(↑D.Files.length:Int)) <|
 bd (D.Files[(e-1).toNat]?) fun W=>
 br (decide (z.Id<=W.Id)) (
 some (D,H,I,e,true)) <|
 bd (cC m z.Safe 0 (↑z.Body.length:Int)) fun Y=>
 some (D,H,I,e,!Y)) <|
 bd (cC m z.Safe 0 (↑z.Body.length:Int)) fun x14=>
 some (D,H,I,e,!x14)) fun(x15,x16,x17,M,x19)=>
 br x19 (
 some (.inr (.inr false))) <|
 gd (cN .i64 (M+1)) <|
 some (.inl (x15,x16,x17,M+1))) <|
 some (.inr (.inl D))
def o7 (m:Nat) (e:cO):Option Bool:=
 jn (V:=cO) (
 aL (l5 m) m (e,e.Files,(↑e.Files.length:Int),0)) fun z=>
 bd (α:=Bool) (
 br (decide ((↑z.Files.length:Int)<=10)) (
 bd (uR m z) fun D=>
 some (decide (D<=z.Room))) <|
 some false) fun H=>
 some H
theorem aNx:CC (mo 134 [jS .iDisk] oB o7):=mq (cs OA (cs aN8 cn)) ⟨[(4,⟨[(1,.ptr 200 0)],[.sto 200 .iDisk [],eR 6 .iFile,eI 7,eI 8,eB 44]⟩),(7,⟨[],[eB 2]⟩)],[],[(2,true,⟨[(1,.ptr 200 0)],[.sto 200 .iDisk [],eR 6 .iFile,eI 7,eI 8]⟩,0,⟨[(1,.ptr 200 0)],[.sto 200 .iDisk []]⟩)]⟩ Tryz.f134
def pP (m:Nat) (e:ByteArray):Option Bool:=
 bd (wG m e 16 (ByteArray.mk #[46])) fun z=>
 some z
theorem aL0:CC (mo 191 [.S] oB pP):=mq (cs aL3 cn) tn Tryz.f191
def FO (m:Nat) (e:eA):Option Bool:=
 br (e.Kind==1) (
 bd (α:=Bool) (
 bd (pP m e.Name) fun z=>
 br z (
 some (decide (e.To=ByteArray.mk #[]))) <|
 some false) fun D=>
 some D) <|
 br (e.Kind==4) (
 bd (α:=Bool) (
 bd (pP m e.Name) fun H=>
 br H (
 bd (pP m e.To) fun I=>
 br I (
 some (e.Id==0)) <|
 some false) <|
 some false) fun M=>
 some M) <|
 br (e.Kind==5) (
 bd (α:=Bool) (
 bd (pP m e.Name) fun R=>
 br R (
 br (decide (e.To=ByteArray.mk #[])) (
 some (e.Id==0)) <|
 some false) <|
 some false) fun W=>
 some W) <|
 some false
theorem aN9:CC (mo 192 [jS .iTurn] oB FO):=mq (cs aL0 cn) ⟨[(3,⟨[],[eB 2]⟩),(5,⟨[],[eB 2]⟩),(7,⟨[],[eB 2]⟩)],[],[]⟩ Tryz.f192
def EF (m:Nat) (z:aT) (e:ByteArray):Option (Bool×ByteArray):=
 some (decide (z.Name=e),e)
theorem aGI:CC (mx 259 [none,some (.ptr 0 0 0 0)] [jS .iLink,.S] 1 (.tup [.B,.S]) (q2 EF)):=mq cn tn Tryz.f259
def d6 (m:Nat):Lp (ByteArray×List aT×Int×Int) (ByteArray⊕Int×ByteArray):=fun(I,D,M,e)=>
 br (decide (e<M)) (
 gd (0<=e/\e<(↑D.length:Int)) <|
 bd D[e.toNat]? fun R=>
 bd (EF m R I) fun(H,z)=>
 br H (
 some (.inr (.inr (e,z)))) <|
 gd (cN .i64 (e+1)) <|
 some (.inl (z,D,M,e+1))) <|
 some (.inr (.inl I))
def gP (m:Nat) (e:List aT) (z:ByteArray):Option (Int×ByteArray):=
 jn (V:=ByteArray) (
 aL (d6 m) m (z,e,(↑e.length:Int),0)) fun D=>
 some (-1,D)
theorem aGG:CC (mx 258 [none,some (.fn 259 [.ptr 0 0 0 0])] [.row .iLink,.S] 1 (.tup [jI,.S]) (q2 gP)):=mq (cs aGI cn) ⟨[],[],[(2,true,⟨[(1,.fn 259 [(0,0)])],[.bxl 0 [.S],eR 0 .iLink,eI 7,eI 8]⟩,0,⟨[],[.bxl 0 [.S]]⟩)]⟩ Tryz.f258
def zD (m:Nat) (e:List aT) (z:ByteArray):Option Int:=
 bd (gP m e z) fun(D,H)=>
 some D
theorem aL5:CC (mo 231 [.row .iLink,.S] oI (q2 zD)):=mq (cs aGG cn) tn Tryz.f231
def gV (m:Nat) (e:List aT):Option (List aT):=
 aAx e (
 some []) <|
 gd (cR .iLink ([]++e).length) <|
 some ([]++e)
theorem aKH:CC (mo 264 [.row .iLink] (.one (.own .iLink 99)) gV):=mq cn tn Tryz.f264
def sZ (m:Nat) (e z:aT):Option Int:=
 bd (l4 e.Name z.Name) fun D=>
 some D
theorem aOK:CC (mo 261 [jS .iLink,jS .iLink] oI (q2 sZ)):=mq (cs aOL cn) tn Tryz.f261
def d9 (m:Nat):Lp (aT×List aT×Int×Int×Int) (aT×List aT×Int×Int):=fun(H,D,I,e,z)=>
 br (decide (e<z)) (
 gd (cN .i64 (e+z)) <|
 gd ((0:Int)<=(1:Int)) <|
 gd (cN .i64 ((IntKind.u64.wrap (e+z)).fdiv (2 ^ min (Int.toNat 1) IntKind.u64.bits))) <|
 gd (0<=(IntKind.u64.wrap (e+z)).fdiv (2 ^ min (Int.toNat 1) IntKind.u64.bits)/\(IntKind.u64.wrap (e+z)).fdiv (2 ^ min (Int.toNat 1) IntKind.u64.bits)<(↑D.length:Int)) <|
 bd (D[((IntKind.u64.wrap (e+z)).fdiv (2 ^ min (Int.toNat 1) IntKind.u64.bits)).toNat]?) fun M=>
 bd (sZ m M H) fun R=>
 br (decide (R<0)) (
 gd (cN .i64 ((IntKind.u64.wrap (e+z)).fdiv (2 ^ min (Int.toNat 1) IntKind.u64.bits)+1)) <|
 some (.inl (H,D,I,(IntKind.u64.wrap (e+z)).fdiv (2 ^ min (Int.toNat 1) IntKind.u64.bits)+1,z))) <|
 some (.inl (H,D,I,e,(IntKind.u64.wrap (e+z)).fdiv (2 ^ min (Int.toNat 1) IntKind.u64.bits)))) <|
 some (.inr (H,D,I,e))
def cX (m:Nat) (z:List aT) (M:aT):Option (Int×Bool):=
 bd (α:=aT×List aT×Int×Int) (
 aL (d9 m) m (M,z,(↑z.length:Int),0,(↑z.length:Int))) fun(R,I,W,e)=>
 bd (α:=Int×Bool) (
 br (decide (e<W)) (
 gd (0<=e/\e<(↑I.length:Int)) <|
 bd I[e.toNat]? fun Y=>
 bd (sZ m Y R) fun x9=>
 some (e,x9==0)) <|
 some (e,false)) fun(D,H)=>
 some (D,H)
theorem aGJ:CC (mx 260 [none,none,some (.fn 261 [])] [.row .iLink,jS .iLink] 0 (.tup [jI,.B]) (q2 cX)):=mq (cs aOK cn) ⟨[(8,⟨[],[eI 6,eB 7]⟩)],[],[(3,false,⟨[(2,.fn 261 []),(4,.ptr 500 0)],[.sto 500 .iLink [],eR 0 .iLink,eI 8,eI 9,eI 10]⟩,0,⟨[(2,.fn 261 []),(4,.ptr 500 0)],[.sto 500 .iLink [],eR 0 .iLink,eI 8,eI 9]⟩)]⟩ Tryz.f260
def t6 (m:Nat) (e:List aT) (z:aT):Option (List aT):=
 bd (cX m e z) fun(D,M)=>
 bd (gV m e) fun H=>
 bd (iG H D [z]) fun I=>
 some I
theorem aOt:CC (mo 234 [.row .iLink,jS .iLink] (.one (.own .iLink 99)) (q2 t6)):=mq (cs aGJ (cs aKH (cs aOM cn))) tn Tryz.f234
def lR (m:Nat) (z:aT) (e:ByteArray):Option (Bool×ByteArray):=
 some (decide (z.Name=e),e)
theorem aAs:CC (mx 266 [none,some (.ptr 0 0 0 0)] [jS .iLink,.S] 1 (.tup [.B,.S]) (q2 lR)):=mq cn tn Tryz.f266
def dA (m:Nat):Lp (ByteArray×List aT×Int×Int) (ByteArray⊕Int×ByteArray):=fun(I,D,M,e)=>
 br (decide (e<M)) (
 gd (0<=e/\e<(↑D.length:Int)) <|
 bd D[e.toNat]? fun R=>
 bd (lR m R I) fun(H,z)=>
 br H (
 some (.inr (.inr (e,z)))) <|
 gd (cN .i64 (e+1)) <|
 some (.inl (z,D,M,e+1))) <|
 some (.inr (.inl I))
def fO (m:Nat) (e:List aT) (z:ByteArray):Option (Int×ByteArray):=
 jn (V:=ByteArray) (
 aL (dA m) m (z,e,(↑e.length:Int),0)) fun D=>
 some (-1,D)
theorem aGH:CC (mx 258 [none,some (.fn 266 [.ptr 0 0 0 0])] [.row .iLink,.S] 1 (.tup [jI,.S]) (q2 fO)):=mq (cs aAs cn) ⟨[],[],[(2,true,⟨[(1,.fn 266 [(0,0)])],[.bxl 0 [.S],eR 0 .iLink,eI 7,eI 8]⟩,0,⟨[],[.bxl 0 [.S]]⟩)]⟩ Tryz.f258
def eX (m:Nat):Lp (ByteArray×List aT×Int×Int) (ByteArray×List aT×Int):=fun(v9,e,z,D)=>
 br (decide (D<(↑e.length:Int))) (
 bd (α:=ByteArray×List aT×Int×Int) (
 gd (0<=D/\D<(↑e.length:Int)) <|
 bd (e[0+D.toNat]?) fun H=>
 bd (lR m H v9) fun(R,I)=>
 br (!R) (
 gd (0<=z/\z<(↑e.length:Int)) <|
 bd (e[0+z.toNat]?) fun x16=>
 gd (cN .i64 (z+1)) <|
 some (I,e.set (0+z.toNat) H,z+1,D)) <|
 some (I,e,z,D)) fun(W,Y,x19,M)=>
 gd (cN .i64 (M+1)) <|
 some (.inl (W,Y,x19,M+1))) <|
 some (.inr (v9,e,z))
def dM (m:Nat) (H:List aT) (M:ByteArray):Option (List aT×ByteArray):=
 bd (fO m H M) fun(z,I)=>
 br (z== -1) (
 some (H,I)) <|
 gd (cN .i64 (z+1)) <|
 bd (α:=ByteArray×List aT×Int) (
 aL (eX m) m (I,H,z,z+1)) fun(R,D,e)=>
 gd (0<=e/\e<=(↑D.length:Int)) <|
 gd (0<=e/\e<=(↑D.length:Int)) <|
 some (List.take (e.toNat-0) (List.drop (0+0) (CO D (0+e.toNat) (List.replicate (D.length-e.toNat) (zK K.iLink)))),R)
theorem aGK:CC (mx 265 [none,some (.fn 266 [.ptr 0 0 0 0])] [.own .iLink 99,.S] 1 (.tup [.row .iLink,.S]) (q2 dM)):=mq (cs aGH (cs aAs cn)) ⟨[],[(6,false,⟨[(1,.fn 266 [(0,0)])],[.bxl 0 [.S],eO 0 .iLink 90000000,eI 5,eI 6]⟩)],[(5,false,⟨[(1,.fn 266 [(0,0)])],[.bxl 0 [.S],eO 0 .iLink 90000000,eI 5,eI 6]⟩,0,⟨[],[.bxl 0 [.S],eO 0 .iLink 90000000,eI 5]⟩)]⟩ Tryz.f265
def nK (m:Nat) (e:List aT) (z:ByteArray):Option (List aT):=
 bd (gV m e) fun D=>
 bd (dM m D z) fun(H,I)=>
 some H
theorem aOu:CC (mo 235 [.row .iLink,.S] (.one (.row .iLink)) (q2 nK)):=mq (cs aKH (cs aGK cn)) tn Tryz.f235
def wF (m:Nat) (z:List aT) (e:eA):Option (List aT×Bool):=
 bd (zD m z e.Name) fun D=>
 br (e.Kind==1) (
 br (decide (0<=D)) (
 some ([],false)) <|
 bd (t6 m z (aT.mk e.Name e.Id)) fun x4=>
 some (x4,true)) <|
 bd (α:=eA×List aT×Int×Bool) (
 br (decide (D<0)) (
 some (e,z,D,true)) <|
 br (e.Kind==4) (
 some (e,z,D,decide (e.To=e.Name))) <|
 some (e,z,D,false)) fun(I,M,R,x8)=>
 br x8 (
 some ([],false)) <|
 gd (0<=R/\R<(↑M.length:Int)) <|
 bd M[R.toNat]? fun x9=>
 bd (nK m M I.Name) fun H=>
 bd (α:=List aT) (
 br (I.Kind==4) (
 bd (nK m H I.To) fun W=>
 bd (t6 m W (aT.mk I.To x9.Id)) fun Y=>
 some Y) <|
 some H) fun x13=>
 some (x13,true)
theorem aL1:CC (mo 193 [.row .iLink,jS .iTurn] (.tup [.row .iLink,.B]) (q2 wF)):=mq (cs aL5 (cs aOt (cs aOu cn))) ⟨[(6,⟨[(3,.ptr 400 0)],[.sto 400 .iTurn [],eR 0 .iLink,eI 6,eB 38]⟩)],[(11,false,⟨[],[eR 8 .iLink]⟩)],[]⟩ Tryz.f193
def qP (m:Nat) (e:Int) (z:gB):Option Bool:=
 some (e==z.Id)
theorem aOa:CC (mo 196 [jI,jS .iFile] oB (q2 qP)):=mq cn tn Tryz.f196
def cY (m:Nat):Lp (List gB×List Int×Int×Int) (Unit⊕Bool):=fun(z,D,I,e)=>
 br (decide (e<I)) (
 gd (0<=e/\e<(↑D.length:Int)) <|
 bd D[e.toNat]? fun M=>
 gd (0<=e/\e<(↑z.length:Int)) <|
 bd z[e.toNat]? fun R=>
 bd (qP m M R) fun H=>
 br (!H) (
 some (.inr (.inr false))) <|
 gd (cN .i64 (e+1)) <|
 some (.inl (z,D,I,e+1))) <|
 some (.inr (.inl ()))
def dN (m:Nat) (e:List Int) (z:List gB):Option Bool:=
 br ((↑e.length:Int) !=(↑z.length:Int)) (
 some false) <|
 jn (V:=Unit) (
 aL (cY m) m (z,e,(↑e.length:Int),0)) fun _=>
 some true
theorem aGt:CC (mx 195 [none,none,some (.fn 196 [])] [.row .int,.row .iFile] 0 oB (q2 dN)):=mq (cs aOa cn) ⟨[],[],[(4,true,⟨[(2,.fn 196 [])],[eR 1 .iFile,eR 15 .int,eI 16,eI 17]⟩,0,⟨[],[]⟩)]⟩ Tryz.f195
def kC (m:Nat):Lp (cO×List Int×List aT×List eA×Int×Int) (cO×List Int⊕Bool):=fun(I,D,Y,H,M,e)=>
 br (decide (e<M)) (
 jn (V:=cO×List Int×List aT×List eA×Int×Int) (
 gd (0<=e/\e<(↑H.length:Int)) <|
 bd H[e.toNat]? fun z=>
 bd (FO m z) fun x34=>
 br (!x34) (
 some (.inr (.inr (.inr false)))) <|
 bd (wF m Y z) fun(R,x36)=>
 br (!x36) (
 some (.inr (.inr (.inr false)))) <|
 br (z.Kind==1) (
 gd (cR .int (D++ [z.Id]).length) <|
 some (.inl (I,D++ [z.Id],R,H,M,e))) <|
 some (.inl (I,D,R,H,M,e))) fun(v37,v38,v39,v40,v41,W)=>
 gd (cN .i64 (W+1)) <|
 some (.inl (v37,v38,v39,v40,v41,W+1))) <|
 some (.inr (.inl (I,D)))
def j9 (m:Nat):Lp (cO×List Int×List aT×Int×Int) (cO×List Int⊕Bool):=fun(z,I,D,M,e)=>
 br (decide (e<M)) (
 gd (0<=e/\e<(↑D.length:Int)) <|
 bd D[e.toNat]? fun H=>
 bd (α:=cO×aT×List Int×List aT×Int×Int×Bool) (
 bd (pP m H.Name) fun x18=>
 br (!x18) (
 some (z,H,I,D,M,e,true)) <|
 br (decide (0<e)) (
 gd (cN .i64 (e-1)) <|
 gd (0<=e-1/\e-1<(↑z.Kept.length:Int)) <|
 bd (z.Kept[(e-1).toNat]?) fun x19=>
 some (z,H,I,D,M,e,!Op.bytesLess x19.Name.toList H.Name.toList)) <|
 some (z,H,I,D,M,e,false)) fun(x20,R,W,x23,x24,Y,x26)=>
 br x26 (
 some (.inr (.inr false))) <|
 gd (cR .int (W++ [R.Id]).length) <|
 gd (cN .i64 (Y+1)) <|
 some (.inl (x20,W++ [R.Id],x23,x24,Y+1))) <|
 some (.inr (.inl (z,I)))
def o8 (m:Nat) (e:cO):Option Bool:=
 bd (α:=cO×Bool) (
 br (decide (30<(↑e.Turns.length:Int))) (
 some (e,true)) <|
 some (e,decide (10<(↑e.Kept.length:Int)))) fun(D,M)=>
 br M (
 some false) <|
 jn (V:=cO×List Int) (
 aL (j9 m) m (D,[],D.Kept,(↑D.Kept.length:Int),0)) fun(z,R)=>
 jn (V:=cO×List Int) (
 aL (kC m) m (z,R,z.Kept,z.Turns,(↑z.Turns.length:Int),0)) fun(W,Y)=>
 bd (fJ Y) fun H=>
 bd (dN m H W.Files) fun I=>
 some I
theorem aNy:CC (mo 135 [jS .iDisk] oB o8):=mq (cs aL0 (cs aN9 (cs aL1 (cs aKE (cs aGt cn))))) ⟨[(1,⟨[(1,.ptr 200 0)],[.sto 200 .iDisk [],eB 19]⟩),(7,⟨[(1,.ptr 200 0),(5,.ptr 600 0)],[.sto 200 .iDisk [],.sto 600 .iLink [],eO 3 .int 2100,eR 22 .iLink,eI 23,eI 24,eB 48]⟩)],[(22,true,⟨[(1,.ptr 200 0)],[.sto 200 .iDisk [],eO 3 .int 2100,eR 6 .iLink,eR 58 .iTurn,eI 59,eI 60]⟩)],[(5,true,⟨[(1,.ptr 200 0)],[.sto 200 .iDisk [],eO 3 .int 2100,eR 22 .iLink,eI 23,eI 24]⟩,0,⟨[(1,.ptr 200 0)],[.sto 200 .iDisk [],eO 3 .int 2100]⟩),(13,true,⟨[(1,.ptr 200 0)],[.sto 200 .iDisk [],eO 3 .int 2100,eR 6 .iLink,eR 58 .iTurn,eI 59,eI 60]⟩,2,⟨[(1,.ptr 200 0)],[.sto 200 .iDisk [],eO 3 .int 2100]⟩)]⟩ Tryz.f135
def vG (m:Nat) (e:cO):Option Bool:=
 bd (α:=Bool) (
 bd (cC m e.Room 0 400000) fun z=>
 br z (
 bd (cC m e.Fuse (-1) 1000) fun D=>
 br D (
 bd (cC m e.Next 1 1000000) fun H=>
 br H (
 bd (o7 m e) fun I=>
 br I (
 bd (o8 m e) fun M=>
 some M) <|
 some false) <|
 some false) <|
 some false) <|
 some false) fun R=>
 some R
theorem c71:CC (mo 71 [jS .iDisk] oB vG):=mq (cs OA (cs aNx (cs aNy cn))) ⟨[(1,⟨[],[eB 2]⟩)],[],[]⟩ Tryz.f71
def ED (m:Nat) (e:Int):Option Bool:=
 bd (cC m e 1 1000000000) fun z=>
 some z
theorem aLU:CC (mo 131 [jI] oB ED):=mq (cs OA cn) tn Tryz.f131
def tY (m:Nat):Lp (List aT×List eA×Int×Int) (List aT):=fun(I,z,M,e)=>
 br (decide (e<M)) (
 gd (0<=e/\e<(↑z.length:Int)) <|
 bd z[e.toNat]? fun D=>
 bd (wF m I D) fun(H,R)=>
 gd (cN .i64 (e+1)) <|
 some (.inl (H,z,M,e+1))) <|
 some (.inr I)
def JS (m:Nat) (z:List aT) (e:List eA):Option (List aT):=
 bd (gV m z) fun D=>
 bd (α:=List aT) (
 aL (tY m) m (D,e,(↑e.length:Int),0)) fun H=>
 some H
theorem aOJ:CC (mo 257 [.row .iLink,.row .iTurn] (.one (.row .iLink)) (q2 JS)):=mq (cs aKH (cs aL1 cn)) ⟨[],[],[(3,false,⟨[],[eR 5 .iLink,eR 10 .iTurn,eI 11,eI 12]⟩,0,⟨[],[eR 5 .iLink]⟩)]⟩ Tryz.f257
def D9 (m:Nat) (e:cO):Option (List aT):=
 bd (JS m e.Kept e.Turns) fun z=>
 some z
theorem aOs:CC (mo 230 [jS .iDisk] (.one (.row .iLink)) D9):=mq (cs aOJ cn) tn Tryz.f230
def wB (m:Nat) (D:gB) (z:List aT) (e:Int):Option (Bool×List aT×Int):=
 gd (0<=e/\e<(↑z.length:Int)) <|
 bd z[e.toNat]? fun H=>
 some (D.Id==H.Id,z,e)
theorem aGF:CC (mx 233 [none,some (.ptr 0 0 0 0),some (.ptr 1 0 0 0)] [jS .iFile,.row .iLink,jI] 2 (.tup [.B,.row .iLink,jI]) (q3 wB)):=mq cn tn Tryz.f233
def dO (m:Nat):Lp (List aT×Int×List gB×Int×Int) (List aT×Int⊕Int×List aT×Int):=fun(W,Y,I,z,e)=>
 br (decide (e<z)) (
 gd (0<=e/\e<(↑I.length:Int)) <|
 bd I[e.toNat]? fun M=>
 bd (wB m M W Y) fun(R,D,H)=>
 br R (
 some (.inr (.inr (e,D,H)))) <|
 gd (cN .i64 (e+1)) <|
 some (.inl (D,H,I,z,e+1))) <|
 some (.inr (.inl (W,Y)))
def gA (m:Nat) (e:List gB) (z:List aT) (D:Int):Option (Int×List aT×Int):=
 jn (V:=List aT×Int) (
 aL (dO m) m (z,D,e,(↑e.length:Int),0)) fun(H,I)=>
 some (-1,H,I)
theorem aGE:CC (mx 232 [none,some (.fn 233 [.ptr 0 0 0 0,.ptr 1 0 0 0])] [.row .iFile,.row .iLink,jI] 2 (.tup [jI,.row .iLink,jI]) (q3 gA)):=mq (cs aGF cn) ⟨[],[],[(2,true,⟨[(1,.fn 233 [(0,0),(1,0)])],[.bxl 0 [.row .iLink],.bxl 1 [jI],eR 0 .iFile,eI 7,eI 8]⟩,0,⟨[],[.bxl 0 [.row .iLink],.bxl 1 [jI]]⟩)]⟩ Tryz.f232
def uQ (m:Nat) (e:cO) (H:ByteArray):Option Int:=
 bd (D9 m e) fun z=>
 bd (zD m z H) fun D=>
 br (decide (D<0)) (
 some (-1)) <|
 bd (gA m e.Files z D) fun(I,M,R)=>
 some I
theorem aN6:CC (mo 188 [jS .iDisk,.S] oI (q2 uQ)):=mq (cs aOs (cs aL5 (cs aGE cn))) tn Tryz.f188
def kS (m:Nat) (e:List UInt8):Option (List UInt8):=
 aAx e (
 some []) <|
 gd (cR .u8 ([]++e).length) <|
 some ([]++e)
theorem aN7:CC (mo 189 [.row .u8] (.one (.own .u8 99)) kS):=mq cn tn Tryz.f189
def xI (m:Nat) (e:cO) (D:ByteArray):Option (List UInt8×Bool):=
 bd (vG m e) fun H=>
 br (!H) (
 some ([],false)) <|
 bd (uQ m e D) fun z=>
 br (decide (z<0)) (
 some ([],false)) <|
 gd (0<=z/\z<(↑e.Files.length:Int)) <|
 bd e.Files[z.toNat]? fun I=>
 bd (kS m I.Body) fun M=>
 some (M,true)
theorem aNv:CC (mo 132 [jS .iDisk,.S] (.tup [.own .u8 99,.B]) (q2 xI)):=mq (cs c71 (cs aN6 (cs aN7 cn))) tn Tryz.f132
def SC (m:Nat) (e:Int):Option Bool:=
 bd (cC m e 0 4294967295) fun z=>
 some z
theorem aNz:CC (mo 139 [jI] oB SC):=mq (cs OA cn) tn Tryz.f139
def lC (m:Nat) (e:Int):Option ByteArray:=
 bd (SC m e) fun z=>
 br (!z) (
 some (ByteArray.mk #[])) <|
 bd (mE e) fun D=>
 some D
theorem c73:CC (mo 73 [jI] (.one .S) lC):=mq (cs aNz (cs aNA cn)) tn Tryz.f73
def BL (m:Nat) (e:Int):Option ByteArray:=
 bd (ED m e) fun D=>
 br (!D) (
 some (ByteArray.mk #[])) <|
 bd (lC m e) fun z=>
 gd ((ByteArray.mk #[108,111,103,46]).size+z.size<=9223372036854775807) <|
 some (ByteArray.mk #[108,111,103,46]++z)
theorem aNw:CC (mo 133 [jI] (.one .S) BL):=mq (cs aLU (cs c73 cn)) tn Tryz.f133
def BJ (m:Nat) (e:j6):Option Bool:=
 bd (α:=j6×Bool) (
 bd (vG m e.Disk) fun R=>
 br (!R) (
 some (e,true)) <|
 bd (ED m e.Gen) fun W=>
 br (!W) (
 some (e,true)) <|
 bd (cC m e.Seq 1 1000000001) fun Y=>
 br (!Y) (
 some (e,true)) <|
 some (e,decide (e.Size<0))) fun(z,x6)=>
 br x6 (
 some false) <|
 bd (α:=j6×Bool) (
 br (z.Disk.Fuse==0) (
 some (z,true)) <|
 some (z,z.Stuck)) fun(D,x8)=>
 br x8 (
 some true) <|
 bd (BL m D.Gen) fun x9=>
 bd (xI m D.Disk x9) fun(H,I)=>
 bd (α:=Bool) (
 br I (
 some ((↑H.length:Int)==D.Size)) <|
 some false) fun M=>
 some M
theorem c67:CC (mo 67 [jS .iDepot] oB BJ):=mq (cs c71 (cs aLU (cs OA (cs aNw (cs aNv cn))))) ⟨[(1,⟨[(1,.ptr 200 0)],[.sto 200 .iDepot [],eB 25]⟩),(3,⟨[(1,.ptr 200 0)],[.sto 200 .iDepot [],eB 33]⟩),(6,⟨[],[eB 2]⟩)],[],[]⟩ Tryz.f67
def oR (m:Nat) (e:cO):Option Bool:=
 bd (α:=Bool) (
 br (e.Room==0) (
 br (e.Fuse==0) (
 br (e.Next==0) (
 gd (cN .i64 ((↑e.Files.length:Int)+(↑e.Kept.length:Int))) <|
 gd (cN .i64 ((↑e.Files.length:Int)+(↑e.Kept.length:Int)+(↑e.Turns.length:Int))) <|
 some ((↑e.Files.length:Int)+(↑e.Kept.length:Int)+(↑e.Turns.length:Int)==0)) <|
 some false) <|
 some false) <|
 some false) fun z=>
 some z
theorem c68:CC (mo 68 [jS .iDisk] oB oR):=mq cn ⟨[(1,⟨[],[eB 2]⟩)],[],[]⟩ Tryz.f68
def qU (m:Nat) (e:bA):Option Bool:=
 bd (α:=Bool) (
 br (e.W==0) (
 br (e.H==0) (
 br (e.Limit==0) (
 br (e.Next==0) (
 gd (cN .i64 ((↑e.Panes.length:Int)+(↑e.Wins.length:Int))) <|
 gd (cN .i64 ((↑e.Panes.length:Int)+(↑e.Wins.length:Int)+(↑e.Sess.length:Int))) <|
 some ((↑e.Panes.length:Int)+(↑e.Wins.length:Int)+(↑e.Sess.length:Int)==0)) <|
 some false) <|
 some false) <|
 some false) <|
 some false) fun z=>
 some z
theorem c69:CC (mo 69 [jS .iState] oB qU):=mq cn ⟨[(1,⟨[],[eB 2]⟩)],[],[]⟩ Tryz.f69
def qT (m:Nat) (e:j6):Option Bool:=
 bd (α:=Bool) (
 bd (oR m e.Disk) fun z=>
 br z (
 br (e.Gen==0) (
 br (e.Seq==0) (
 br (e.Size==0) (
 some (!e.Stuck)) <|
 some false) <|
 some false) <|
 some false) <|
 some false) fun D=>
 some D
theorem c70:CC (mo 70 [jS .iDepot] oB qT):=mq (cs c68 cn) ⟨[(1,⟨[],[eB 2]⟩)],[],[]⟩ Tryz.f70
def xL (m:Nat) (e:oK):Option Bool:=
 bd (α:=Bool) (
 br (e.Kind==0) (
 br (e.A==0) (
 br (e.B==0) (
 br (e.C==0) (
 br (decide (e.Name=ByteArray.mk #[])) (
 br (decide (e.Text=ByteArray.mk #[])) (
 br (decide (e.Dir=ByteArray.mk #[])) (
 some ((↑e.Data.length:Int)==0)) <|
 some false) <|
 some false) <|
 some false) <|
 some false) <|
 some false) <|
 some false) <|
 some false) fun z=>
 some z
theorem aNt:CC (mo 129 [jS .iOp] oB xL):=mq cn ⟨[(1,⟨[],[eB 2]⟩)],[],[]⟩ Tryz.f129
def FN (m:Nat) (e:Int):Option Bool:=
 bd (α:=Bool) (
 br (e==76) (
 some true) <|
 br (e==82) (
 some true) <|
 br (e==85) (
 some true) <|
 some (e==68)) fun z=>
 some z
theorem aN4:CC (mo 186 [jI] oB FN):=mq cn ⟨[(1,⟨[],[eB 2]⟩)],[],[]⟩ Tryz.f186
def pR (m:Nat) (e:Int):Option Bool:=
 bd (cC m e 1 120) fun z=>
 some z
theorem aN5:CC (mo 187 [jI] oB pR):=mq (cs OA cn) tn Tryz.f187
def kJ (m:Nat) (a1:oK):Option Bool:=
 bd (α:=oK×Bool) (
 bd (α:=oK×oK×Bool×Int×Bool) (
 br (a1.Kind==1) (
 some (a1,a1,false,a1.Kind,a1.Kind==1)) <|
 some (a1,a1,false,a1.Kind,a1.Kind==2)) fun(x2,D,x4,Y,x6)=>
 br x6 (
 bd (α:=oK×Bool) (
 bd (pQ m x2.Name) fun x7=>
 br x7 (
 bd (tZ m x2.Text) fun x8=>
 br x8 (
 bd (tZ m x2.Dir) fun x9=>
 some (oK.mk D.Kind D.A D.B D.C (ByteArray.mk #[]) (ByteArray.mk #[]) (ByteArray.mk #[]) D.Data,x9)) <|
 some (oK.mk D.Kind D.A D.B D.C (ByteArray.mk #[]) (ByteArray.mk #[]) (ByteArray.mk #[]) D.Data,false)) <|
 some (oK.mk D.Kind D.A D.B D.C (ByteArray.mk #[]) (ByteArray.mk #[]) (ByteArray.mk #[]) D.Data,false)) fun(x10,x11)=>
 some (x10,x11)) <|
 br (Y==3) (
 bd (α:=oK×Bool) (
 bd (kK m x2.A) fun x12=>
 br x12 (
 bd (cC m x2.B 0 1) fun x13=>
 br x13 (
 bd (tZ m x2.Text) fun x14=>
 br x14 (
 bd (tZ m x2.Dir) fun x15=>
 some (oK.mk D.Kind 0 0 D.C D.Name (ByteArray.mk #[]) (ByteArray.mk #[]) D.Data,x15)) <|
 some (oK.mk D.Kind 0 0 D.C D.Name (ByteArray.mk #[]) (ByteArray.mk #[]) D.Data,false)) <|
 some (oK.mk D.Kind 0 0 D.C D.Name (ByteArray.mk #[]) (ByteArray.mk #[]) D.Data,false)) <|
 some (oK.mk D.Kind 0 0 D.C D.Name (ByteArray.mk #[]) (ByteArray.mk #[]) D.Data,false)) fun(x16,x17)=>
 some (x16,x17)) <|
 bd (α:=oK×oK×Bool×Int×Bool) (
 br (Y==4) (
 some (x2,D,x4,Y,Y==4)) <|
 br (Y==7) (
 some (x2,D,x4,Y,Y==7)) <|
 br (Y==14) (
 some (x2,D,x4,Y,Y==14)) <|
 some (x2,D,x4,Y,Y==8)) fun(I,z,x20,M,x22)=>
 br x22 (
 bd (kK m I.A) fun x23=>
 some (oK.mk z.Kind 0 z.B z.C z.Name z.Text z.Dir z.Data,x23)) <|
 br (M==5) (
 bd (α:=oK×Bool) (
 bd (kK m I.A) fun x24=>
 br x24 (
 bd (cC m (↑I.Data.length:Int) 1 2000) fun x25=>
 some (oK.mk z.Kind 0 z.B z.C z.Name z.Text z.Dir [],x25)) <|
 some (oK.mk z.Kind 0 z.B z.C z.Name z.Text z.Dir [],false)) fun(x26,x27)=>
 some (x26,x27)) <|
 br (M==6) (
 bd (α:=oK×Bool) (
 bd (kK m I.A) fun x28=>
 br x28 (
 bd (cC m I.B 0 255) fun x29=>
 some (oK.mk z.Kind 0 0 z.C z.Name z.Text z.Dir z.Data,x29)) <|
 some (oK.mk z.Kind 0 0 z.C z.Name z.Text z.Dir z.Data,false)) fun(x30,x31)=>
 some (x30,x31)) <|
 bd (α:=oK×oK×Bool×Int×Bool) (
 br (M==9) (
 some (I,z,x20,M,M==9)) <|
 some (I,z,x20,M,M==13)) fun(H,e,x34,x35,x36)=>
 br x36 (
 bd (α:=oK×Bool) (
 bd (kK m H.A) fun x37=>
 br x37 (
 bd (kK m H.B) fun x38=>
 some (oK.mk e.Kind 0 0 e.C e.Name e.Text e.Dir e.Data,x38)) <|
 some (oK.mk e.Kind 0 0 e.C e.Name e.Text e.Dir e.Data,false)) fun(x39,x40)=>
 some (x39,x40)) <|
 br (x35==10) (
 bd (α:=oK×Bool) (
 bd (kK m H.A) fun x41=>
 br x41 (
 bd (FN m H.B) fun x42=>
 br x42 (
 bd (pR m H.C) fun x43=>
 some (oK.mk e.Kind 0 0 0 e.Name e.Text e.Dir e.Data,x43)) <|
 some (oK.mk e.Kind 0 0 0 e.Name e.Text e.Dir e.Data,false)) <|
 some (oK.mk e.Kind 0 0 0 e.Name e.Text e.Dir e.Data,false)) fun(x44,x45)=>
 some (x44,x45)) <|
 br (x35==11) (
 bd (α:=oK×Bool) (
 bd (kK m H.A) fun x46=>
 br x46 (
 bd (pQ m H.Name) fun x47=>
 some (oK.mk e.Kind 0 e.B e.C (ByteArray.mk #[]) e.Text e.Dir e.Data,x47)) <|
 some (oK.mk e.Kind 0 e.B e.C (ByteArray.mk #[]) e.Text e.Dir e.Data,false)) fun(x48,x49)=>
 some (x48,x49)) <|
 br (x35==12) (
 bd (α:=oK×Bool) (
 bd (pR m H.A) fun x50=>
 br x50 (
 bd (pR m H.B) fun x51=>
 some (oK.mk e.Kind 0 0 e.C e.Name e.Text e.Dir e.Data,x51)) <|
 some (oK.mk e.Kind 0 0 e.C e.Name e.Text e.Dir e.Data,false)) fun(x52,x53)=>
 some (x52,x53)) <|
 some (e,x34)) fun(R,W)=>
 bd (α:=Bool×Bool) (
 br (R.A==0) (
 br (R.B==0) (
 br (R.C==0) (
 br (decide (R.Name=ByteArray.mk #[])) (
 br (decide (R.Text=ByteArray.mk #[])) (
 br (decide (R.Dir=ByteArray.mk #[])) (
 some (W,(↑R.Data.length:Int)==0)) <|
 some (W,false)) <|
 some (W,false)) <|
 some (W,false)) <|
 some (W,false)) <|
 some (W,false)) <|
 some (W,false)) fun(x56,x57)=>
 bd (α:=Bool) (
 br x56 (
 some x57) <|
 some false) fun x58=>
 some x58
theorem aNu:CC (mo 130 [jS .iOp] oB kJ):=mq (cs aKC (cs aLZ (cs aGS (cs OA (cs aN4 (cs aN5 cn)))))) ⟨[(6,⟨[(3,.ptr 400 0)],[.sto 400 .iOp [],eB 4]⟩),(9,⟨[(3,.ptr 400 0)],[.sto 400 .iOp [],eB 4]⟩),(18,⟨[(3,.ptr 400 0)],[.sto 400 .iOp [(7,50000001)],eB 4]⟩),(21,⟨[(3,.ptr 400 0)],[.sto 400 .iOp [],eB 4]⟩),(25,⟨[(3,.ptr 400 0)],[.sto 400 .iOp [],eB 4]⟩),(28,⟨[(3,.ptr 400 0)],[.sto 400 .iOp [],eB 4]⟩),(31,⟨[(3,.ptr 400 0)],[.sto 400 .iOp [],eB 4]⟩),(34,⟨[(3,.ptr 400 0)],[.sto 400 .iOp [],eB 4]⟩),(35,⟨[],[eB 4,eB 5]⟩),(36,⟨[],[eB 2]⟩)],[(5,false,⟨[(1,.ptr 200 0),(3,.ptr 400 0)],[.sto 200 .iOp [],.sto 400 .iOp [],eB 4,eI 8,eB 9]⟩),(14,false,⟨[(1,.ptr 200 0),(3,.ptr 400 0)],[.sto 200 .iOp [],.sto 400 .iOp [],eB 4,eI 8,eB 52]⟩),(24,false,⟨[(1,.ptr 200 0),(3,.ptr 400 0)],[.sto 200 .iOp [],.sto 400 .iOp [],eB 4,eI 8,eB 86]⟩),(35,false,⟨[(3,.ptr 400 0)],[.sto 400 .iOp [],eB 4]⟩)],[]⟩ Tryz.f130
def LZ (m:Nat) (e:iZ):Option Bool:=
 br e.Lost (
 bd (xL m e.Op) fun z=>
 some z) <|
 bd (kJ m e.Op) fun D=>
 some D
theorem c66:CC (mo 66 [jS .iHist] oB LZ):=mq (cs aNt (cs aNu cn)) tn Tryz.f66
def BP (m:Nat) (e:iZ):Option Bool:=
 bd (LZ m e) fun z=>
 some (!z)
theorem c65:CC (mo 65 [jS .iHist] oB BP):=mq (cs c66 cn) tn Tryz.f65
def eE (m:Nat):Lp (List iZ×Int×Int) (Unit⊕Int):=fun(z,D,e)=>
 br (decide (e<D)) (
 gd (0<=e/\e<(↑z.length:Int)) <|
 bd z[e.toNat]? fun H=>
 bd (BP m H) fun I=>
 br I (
 some (.inr (.inr e))) <|
 gd (cN .i64 (e+1)) <|
 some (.inl (z,D,e+1))) <|
 some (.inr (.inl ()))
def hJ (m:Nat) (e:List iZ):Option Int:=
 jn (V:=Unit) (
 aL (eE m) m (e,(↑e.length:Int),0)) fun _=>
 some (-1)
theorem aGp:CC (mx 128 [none,some (.fn 65 [])] [.row .iHist] 0 oI hJ):=mq (cs c65 cn) ⟨[],[],[(2,true,⟨[(1,.fn 65 [])],[eR 0 .iHist,eI 7,eI 8]⟩,0,⟨[],[]⟩)]⟩ Tryz.f128
def eC (m:Nat) (e:List iZ):Option Bool:=
 bd (hJ m e) fun z=>
 some (decide (0<=z))
theorem aGm:CC (mx 64 [none,some (.fn 65 [])] [.row .iHist] 0 oB eC):=mq (cs aGp cn) tn Tryz.f64
def JP (m:Nat) (e:lE):Option Bool:=
 bd (α:=lE×Bool) (
 bd (wC m e.Base) fun x2=>
 br (!x2) (
 some (e,true)) <|
 br (decide (0<(↑e.Base.Panes.length:Int))) (
 some (e,true)) <|
 bd (cC m e.Top 0 400000) fun x3=>
 br (!x3) (
 some (e,true)) <|
 bd (wD m e.Tab) fun x4=>
 br (!x4) (
 some (e,true)) <|
 bd (eC m e.Done) fun x5=>
 br x5 (
 some (e,true)) <|
 bd (y6 m e.Done) fun x6=>
 bd (cC m e.Sure 0 x6) fun x7=>
 some (e,!x7)) fun(z,x9)=>
 br x9 (
 some false) <|
 br z.Up (
 bd (α:=Bool) (
 bd (wC m z.St) fun H=>
 br H (
 bd (BJ m z.Dep) fun I=>
 br I (
 bd (oR m z.Disk) fun M=>
 br M (
 bd (y6 m z.Done) fun D=>
 gd (cN .i64 (D+1)) <|
 some (z.Dep.Seq==D+1)) <|
 some false) <|
 some false) <|
 some false) fun R=>
 some R) <|
 bd (α:=Bool) (
 bd (qU m z.St) fun W=>
 br W (
 bd (qT m z.Dep) fun Y=>
 br Y (
 bd (vG m z.Disk) fun x17=>
 br x17 (
 some ((↑z.Tab.Live.length:Int)==0)) <|
 some false) <|
 some false) <|
 some false) fun x18=>
 some x18
theorem c23:CC (mo 23 [jS .iSrv] oB JP):=mq (cs c61 (cs OA (cs c63 (cs aGm (cs c26 (cs c67 (cs c68 (cs c69 (cs c70 (cs c71 cn)))))))))) ⟨[(1,⟨[(1,.ptr 200 0)],[.sto 200 .iSrv [],eB 39]⟩),(4,⟨[],[eB 2]⟩),(5,⟨[],[eB 2]⟩)],[],[]⟩ Tryz.f23
def j4 (m:Nat) (z:List ByteArray):Option ByteArray:=
 bd (mF z (ByteArray.mk #[32])) fun e=>
 gd (e.size+(ByteArray.mk #[10]).size<=9223372036854775807) <|
 some (e++ByteArray.mk #[10])
theorem c24:CC (mo 24 [.row .str] (.one .S) j4):=mq (cs c72 cn) tn Tryz.f24
def qV (m:Nat):Lp (List ByteArray×List Int×Int×Int) (List ByteArray):=fun(z,D,H,e)=>
 br (decide (e<H)) (
 gd (0<=e/\e<(↑D.length:Int)) <|
 bd D[e.toNat]? fun M=>
 bd (lC m M) fun I=>
 gd (cR .str (z++ [I]).length) <|
 gd (cN .i64 (e+1)) <|
 some (.inl (z++ [I],D,H,e+1))) <|
 some (.inr z)
def jY (m:Nat) (e:List Int):Option (List ByteArray):=
 bd (α:=List ByteArray) (
 aL (qV m) m ([],e,(↑e.length:Int),0)) fun z=>
 some z
theorem c25:CC (mo 25 [.row .int] (.one (.own .str 99)) jY):=mq (cs c73 cn) ⟨[],[],[(3,false,⟨[],[eO 3 .str 700,eR 7 .int,eI 8,eI 9]⟩,0,⟨[],[eO 3 .str 700]⟩)]⟩ Tryz.f25
def xM (m:Nat) (e:dL):Option ByteArray:=
 bd (jY m [e.Id]) fun z=>
 gd (cR .str ([ByteArray.mk #[112,97,110,101]]++z).length) <|
 bd (α:=dL×List ByteArray) (
 br (e.Life==1) (
 bd (lC m e.Pid) fun H=>
 gd (cR .str ([ByteArray.mk #[112,97,110,101]]++z++ [ByteArray.mk #[108,105,118,101],H]).length) <|
 some (e,[ByteArray.mk #[112,97,110,101]]++z++ [ByteArray.mk #[108,105,118,101],H])) <|
 br (e.Life==2) (
 bd (lC m e.Code) fun I=>
 gd (cR .str ([ByteArray.mk #[112,97,110,101]]++z++ [ByteArray.mk #[100,111,110,101],I]).length) <|
 some (e,[ByteArray.mk #[112,97,110,101]]++z++ [ByteArray.mk #[100,111,110,101],I])) <|
 gd (cR .str ([ByteArray.mk #[112,97,110,101]]++z++ [ByteArray.mk #[119,97,105,116]]).length) <|
 some (e,[ByteArray.mk #[112,97,110,101]]++z++ [ByteArray.mk #[119,97,105,116]])) fun(D,M)=>
 bd (jY m [D.Term.S.X,D.Term.S.Y,(↑D.Term.S.Back.length:Int)]) fun R=>
 gd (cR .str (M++R).length) <|
 bd (j4 m (M++R)) fun W=>
 some W
theorem c75:CC (mo 75 [jS .iPane] (.one .S) xM):=mq (cs c25 (cs c73 (cs c24 cn))) ⟨[],[(8,false,⟨[(1,.ptr 200 0)],[.sto 200 .iPane [],eO 3 .str 600]⟩)],[]⟩ Tryz.f75
def lQ (m:Nat):Lp (ByteArray×List dL×Int×Int) ByteArray:=fun(z,D,H,e)=>
 br (decide (e<H)) (
 gd (0<=e/\e<(↑D.length:Int)) <|
 bd D[e.toNat]? fun M=>
 bd (xM m M) fun I=>
 gd (z.size+I.size<=9223372036854775807) <|
 gd (cN .i64 (e+1)) <|
 some (.inl (z++I,D,H,e+1))) <|
 some (.inr z)
def lP (m:Nat):Lp (bA×ByteArray×List lF×Int×Int) (bA×ByteArray):=fun(R,W,D,Y,z)=>
 br (decide (z<Y)) (
 gd (0<=z/\z<(↑D.length:Int)) <|
 bd D[z.toNat]? fun e=>
 bd (lC m e.Id) fun H=>
 bd (lC m e.Active) fun I=>
 bd (nX m e.Tree) fun x27=>
 bd (jY m x27) fun M=>
 gd (cR .str ([ByteArray.mk #[119,105,110,100,111,119],H,e.Name,I]++M).length) <|
 bd (α:=bA×ByteArray×List ByteArray×List lF×Int×Int) (
 br e.Zoom (
 gd (cR .str ([ByteArray.mk #[119,105,110,100,111,119],H,e.Name,I]++M++ [ByteArray.mk #[122,111,111,109]]).length) <|
 some (R,W,[ByteArray.mk #[119,105,110,100,111,119],H,e.Name,I]++M++ [ByteArray.mk #[122,111,111,109]],D,Y,z)) <|
 some (R,W,[ByteArray.mk #[119,105,110,100,111,119],H,e.Name,I]++M,D,Y,z)) fun(x29,x30,x31,x32,x33,x34)=>
 bd (j4 m x31) fun x35=>
 gd (x30.size+x35.size<=9223372036854775807) <|
 gd (cN .i64 (x34+1)) <|
 some (.inl (x29,x30++x35,x32,x33,x34+1))) <|
 some (.inr (R,W))
def lO (m:Nat):Lp (bA×ByteArray×List kM×Int×Int) (bA×ByteArray):=fun(I,D,H,M,e)=>
 br (decide (e<M)) (
 gd (0<=e/\e<(↑H.length:Int)) <|
 bd H[e.toNat]? fun z=>
 bd (lC m z.Active) fun R=>
 bd (jY m z.Wins) fun W=>
 gd (cR .str ([ByteArray.mk #[115,101,115,115,105,111,110],z.Name,R]++W).length) <|
 bd (j4 m ([ByteArray.mk #[115,101,115,115,105,111,110],z.Name,R]++W)) fun Y=>
 gd (D.size+Y.size<=9223372036854775807) <|
 gd (cN .i64 (e+1)) <|
 some (.inl (I,D++Y,H,M,e+1))) <|
 some (.inr (I,D))
def sY (m:Nat) (e:bA):Option ByteArray:=
 bd (α:=bA×ByteArray) (
 aL (lO m) m (e,ByteArray.mk #[],e.Sess,(↑e.Sess.length:Int),0)) fun(z,H)=>
 bd (α:=bA×ByteArray) (
 aL (lP m) m (z,H,z.Wins,(↑z.Wins.length:Int),0)) fun(D,I)=>
 bd (α:=ByteArray) (
 aL (lQ m) m (I,D.Panes,(↑D.Panes.length:Int),0)) fun M=>
 some M
theorem c27:CC (mo 27 [jS .iState] (.one .S) sY):=mq (cs c73 (cs c25 (cs c24 (cs c74 (cs c75 cn))))) ⟨[],[(13,false,⟨[(1,.ptr 200 0)],[.sto 200 .iState [],eS 3,eO 8 .str 4800,eR 33 .iWin,eI 34,eI 35]⟩)],[(3,false,⟨[(1,.ptr 200 0)],[.sto 200 .iState [],eS 3,eR 12 .iSess,eI 13,eI 14]⟩,0,⟨[(1,.ptr 200 0)],[.sto 200 .iState [],eS 3]⟩),(8,false,⟨[(1,.ptr 200 0)],[.sto 200 .iState [],eS 3,eR 33 .iWin,eI 34,eI 35]⟩,2,⟨[(1,.ptr 200 0)],[.sto 200 .iState [],eS 3]⟩),(16,false,⟨[],[eS 3,eR 64 .iPane,eI 65,eI 66]⟩,4,⟨[],[eS 3]⟩)]⟩ Tryz.f27
def qQ (m:Nat):Lp (lE×ByteArray×List A9×Int×Int) (lE×ByteArray):=fun(M,D,I,R,e)=>
 br (decide (e<R)) (
 gd (0<=e/\e<(↑I.length:Int)) <|
 bd I[e.toNat]? fun z=>
 bd (jY m [z.Pane,z.Pid,z.W,z.H]) fun Y=>
 gd (cR .str ([ByteArray.mk #[97,115,107]]++Y).length) <|
 bd (j4 m ([ByteArray.mk #[97,115,107]]++Y)) fun x20=>
 gd (D.size+x20.size<=9223372036854775807) <|
 gd (cN .i64 (e+1)) <|
 some (.inl (M,D++x20,I,R,e+1))) <|
 some (.inr (M,D))
def y8 (m:Nat) (H:lE):Option ByteArray:=
 bd (JP m H) fun Y=>
 br (!Y) (
 some (ByteArray.mk #[])) <|
 bd (α:=lE×ByteArray) (
 br H.Up (
 some (H,ByteArray.mk #[117,112])) <|
 some (H,ByteArray.mk #[100,111,119,110])) fun(z,M)=>
 bd (y6 m z.Done) fun x5=>
 bd (jY m [x5,z.Sure]) fun R=>
 gd (cR .str ([M]++R).length) <|
 bd (j4 m ([M]++R)) fun x7=>
 bd (α:=lE×ByteArray) (
 aL (qQ m) m (z,x7,z.Tab.Asked,(↑z.Tab.Asked.length:Int),0)) fun(W,e)=>
 bd (α:=ByteArray) (
 br W.Up (
 bd (sY m W.St) fun D=>
 gd (e.size+D.size<=9223372036854775807) <|
 some (e++D)) <|
 some e) fun I=>
 some I
theorem c7:CC (mo 7 [jS .iSrv] (.one .S) y8):=mq (cs c23 (cs c26 (cs c25 (cs c24 (cs c27 cn))))) ⟨[],[(6,false,⟨[(1,.ptr 200 0)],[.sto 200 .iSrv [],eS 3]⟩),(14,false,⟨[],[eS 4]⟩)],[(8,false,⟨[(1,.ptr 200 0)],[.sto 200 .iSrv [],eS 4,eR 25 .iAsk,eI 26,eI 27]⟩,0,⟨[(1,.ptr 200 0)],[.sto 200 .iSrv [],eS 4]⟩)]⟩ Tryz.f7
def zJ (m:Nat) (e z:List Int):Option Bool:=eqG (fun x y=>some (x==y)) m e z
theorem aKF:CC (mo 202 [.row .int,.row .int] oB (q2 zJ)):=mq cn ⟨[],[],[(4,true,⟨[],[eR 0 .int,eR 1 .int,eI 5]⟩,0,⟨[],[]⟩)]⟩ Tryz.f202
def wH (m:Nat) (e z:List UInt8):Option Bool:=eqG (fun x y=>some ((↑x.toNat:Int)==(↑y.toNat:Int))) m e z
theorem aKG:CC (mo 203 [.row .u8,.row .u8] oB (q2 wH)):=mq cn ⟨[],[],[(4,true,⟨[],[eR 0 .u8,eR 1 .u8,eI 5]⟩,0,⟨[],[]⟩)]⟩ Tryz.f203
def OL (m:Nat) (e z:OU):Option Bool:=
 br (e.State !=z.State) (
 some false) <|
 br (!e.Mark==z.Mark) (
 some false) <|
 bd (zJ m e.Args z.Args) fun D=>
 br (!D) (
 some false) <|
 bd (wH m e.Part z.Part) fun H=>
 br (!H) (
 some false) <|
 some true
theorem aOv:CC (mo 241 [jS .iVp,jS .iVp] oB (q2 OL)):=mq (cs aKF (cs aKG cn)) tn Tryz.f241
def vI (m:Nat) (e z:oN):Option Bool:=
 br (e.Fg !=z.Fg) (
 some false) <|
 br (e.Bg !=z.Bg) (
 some false) <|
 br (!e.Bold==z.Bold) (
 some false) <|
 br (!e.Under==z.Under) (
 some false) <|
 br (!e.Turn==z.Turn) (
 some false) <|
 some true
theorem aL8:CC (mo 283 [jS .iAttr,jS .iAttr] oB (q2 vI)):=mq cn tn Tryz.f283
def zE (m:Nat) (e z:jB):Option Bool:=
 br (e.R !=z.R) (
 some false) <|
 bd (vI m e.A z.A) fun D=>
 br (!D) (
 some false) <|
 some true
theorem aO9:CC (mo 337 [jS .iCell,jS .iCell] oB (q2 zE)):=mq (cs aL8 cn) tn Tryz.f337
def BV (m:Nat) (e z:List jB):Option Bool:=eqG (zE m) m e z
theorem aMe:CC (mo 319 [.row .iCell,.row .iCell] oB (q2 BV)):=mq (cs aO9 cn) ⟨[],[],[(4,true,⟨[],[eR 0 .iCell,eR 1 .iCell,eI 5]⟩,0,⟨[],[]⟩)]⟩ Tryz.f319
def zH (m:Nat) (e z:fY):Option Bool:=
 br (e.W !=z.W) (
 some false) <|
 br (e.H !=z.H) (
 some false) <|
 bd (BV m e.Cells z.Cells) fun D=>
 br (!D) (
 some false) <|
 some true
theorem aON:CC (mo 282 [jS .iGrid,jS .iGrid] oB (q2 zH)):=mq (cs aMe cn) tn Tryz.f282
def EI (m:Nat) (e z:pX):Option Bool:=
 bd (BV m e.Cells z.Cells) fun D=>
 br (!D) (
 some false) <|
 some true
theorem aO3:CC (mo 320 [jS .iRow,jS .iRow] oB (q2 EI)):=mq (cs aMe cn) tn Tryz.f320
def L8 (m:Nat) (e z:List pX):Option Bool:=eqG (EI m) m e z
theorem aOO:CC (mo 284 [.row .iRow,.row .iRow] oB (q2 L8)):=mq (cs aO3 cn) ⟨[],[],[(4,true,⟨[],[eR 0 .iRow,eR 1 .iRow,eI 5]⟩,0,⟨[],[]⟩)]⟩ Tryz.f284
def JZ (m:Nat) (e z:nG):Option Bool:=
 br (e.W !=z.W) (
 some false) <|
 br (e.H !=z.H) (
 some false) <|
 bd (zH m e.Main z.Main) fun D=>
 br (!D) (
 some false) <|
 bd (zH m e.Alt z.Alt) fun I=>
 br (!I) (
 some false) <|
 br (!e.OnAlt==z.OnAlt) (
 some false) <|
 br (e.X !=z.X) (
 some false) <|
 br (e.Y !=z.Y) (
 some false) <|
 br (!e.Wrap==z.Wrap) (
 some false) <|
 bd (vI m e.A z.A) fun M=>
 br (!M) (
 some false) <|
 br (e.Top !=z.Top) (
 some false) <|
 br (e.Bot !=z.Bot) (
 some false) <|
 br (!e.NoWrap==z.NoWrap) (
 some false) <|
 br (!e.Hide==z.Hide) (
 some false) <|
 br (e.SaveX !=z.SaveX) (
 some false) <|
 br (e.SaveY !=z.SaveY) (
 some false) <|
 bd (vI m e.SaveA z.SaveA) fun R=>
 br (!R) (
 some false) <|
 bd (zJ m e.Tabs z.Tabs) fun x7=>
 br (!x7) (
 some false) <|
 br (e.Limit !=z.Limit) (
 some false) <|
 bd (L8 m e.Back z.Back) fun x8=>
 br (!x8) (
 some false) <|
 some true
theorem aOw:CC (mo 242 [jS .iScr,jS .iScr] oB (q2 JZ)):=mq (cs aON (cs aL8 (cs aKF (cs aOO cn)))) tn Tryz.f242
def FP (m:Nat) (e z:uI):Option Bool:=
 bd (OL m e.P z.P) fun D=>
 br (!D) (
 some false) <|
 bd (JZ m e.S z.S) fun H=>
 br (!H) (
 some false) <|
 some true
theorem aOb:CC (mo 200 [jS .iTerm,jS .iTerm] oB (q2 FP)):=mq (cs aOv (cs aOw cn)) tn Tryz.f200
def zN (m:Nat) (e z:dL):Option Bool:=
 br (e.Id !=z.Id) (
 some false) <|
 br (!decide (e.Cmd=z.Cmd)) (
 some false) <|
 br (!decide (e.Dir=z.Dir)) (
 some false) <|
 br (e.Life !=z.Life) (
 some false) <|
 br (e.Code !=z.Code) (
 some false) <|
 br (e.Pid !=z.Pid) (
 some false) <|
 bd (FP m e.Term z.Term) fun D=>
 br (!D) (
 some false) <|
 some true
theorem aNB:CC (mo 142 [jS .iPane,jS .iPane] oB (q2 zN)):=mq (cs aOb cn) tn Tryz.f142
def HW (m:Nat) (e z:List dL):Option Bool:=eqG (zN m) m e z
theorem c76:CC (mo 76 [.row .iPane,.row .iPane] oB (q2 HW)):=mq (cs aNB cn) ⟨[],[],[(4,true,⟨[],[eR 0 .iPane,eR 1 .iPane,eI 5]⟩,0,⟨[],[]⟩)]⟩ Tryz.f76
def zM (m:Nat) (e z:bV):Option Bool:=
 br (e.Pane !=z.Pane) (
 some false) <|
 br (!e.Down==z.Down) (
 some false) <|
 br (e.First !=z.First) (
 some false) <|
 some true
theorem aOx:CC (mo 243 [jS .iNode,jS .iNode] oB (q2 zM)):=mq cn tn Tryz.f243
def HV (m:Nat) (e z:List bV):Option Bool:=eqG (zM m) m e z
theorem aOc:CC (mo 201 [.row .iNode,.row .iNode] oB (q2 HV)):=mq (cs aOx cn) ⟨[],[],[(4,true,⟨[],[eR 0 .iNode,eR 1 .iNode,eI 5]⟩,0,⟨[],[]⟩)]⟩ Tryz.f201
def EJ (m:Nat) (e z:lF):Option Bool:=
 br (e.Id !=z.Id) (
 some false) <|
 br (!decide (e.Name=z.Name)) (
 some false) <|
 bd (HV m e.Tree z.Tree) fun D=>
 br (!D) (
 some false) <|
 br (e.Active !=z.Active) (
 some false) <|
 br (!e.Zoom==z.Zoom) (
 some false) <|
 some true
theorem aNC:CC (mo 143 [jS .iWin,jS .iWin] oB (q2 EJ)):=mq (cs aOc cn) tn Tryz.f143
def L9 (m:Nat) (e z:List lF):Option Bool:=eqG (EJ m) m e z
theorem c77:CC (mo 77 [.row .iWin,.row .iWin] oB (q2 L9)):=mq (cs aNC cn) ⟨[],[],[(4,true,⟨[],[eR 0 .iWin,eR 1 .iWin,eI 5]⟩,0,⟨[],[]⟩)]⟩ Tryz.f77
def zP (m:Nat) (e z:kM):Option Bool:=
 br (!decide (e.Name=z.Name)) (
 some false) <|
 bd (zJ m e.Wins z.Wins) fun D=>
 br (!D) (
 some false) <|
 br (e.Active !=z.Active) (
 some false) <|
 some true
theorem aND:CC (mo 144 [jS .iSess,jS .iSess] oB (q2 zP)):=mq (cs aKF cn) tn Tryz.f144
def HY (m:Nat) (e z:List kM):Option Bool:=eqG (zP m) m e z
theorem c78:CC (mo 78 [.row .iSess,.row .iSess] oB (q2 HY)):=mq (cs aND cn) ⟨[],[],[(4,true,⟨[],[eR 0 .iSess,eR 1 .iSess,eI 5]⟩,0,⟨[],[]⟩)]⟩ Tryz.f78
def wI (m:Nat) (e z:bA):Option Bool:=
 br (e.W !=z.W) (
 some false) <|
 br (e.H !=z.H) (
 some false) <|
 br (e.Limit !=z.Limit) (
 some false) <|
 br (e.Next !=z.Next) (
 some false) <|
 bd (HW m e.Panes z.Panes) fun D=>
 br (!D) (
 some false) <|
 bd (L9 m e.Wins z.Wins) fun I=>
 br (!I) (
 some false) <|
 bd (HY m e.Sess z.Sess) fun M=>
 br (!M) (
 some false) <|
 some true
theorem c28:CC (mo 28 [jS .iState,jS .iState] oB (q2 wI)):=mq (cs c76 (cs c77 (cs c78 cn))) tn Tryz.f28
def zG (m:Nat) (e z:gB):Option Bool:=
 br (e.Id !=z.Id) (
 some false) <|
 bd (wH m e.Body z.Body) fun D=>
 br (!D) (
 some false) <|
 br (e.Safe !=z.Safe) (
 some false) <|
 some true
theorem aNE:CC (mo 145 [jS .iFile,jS .iFile] oB (q2 zG)):=mq (cs aKG cn) tn Tryz.f145
def HS (m:Nat) (e z:List gB):Option Bool:=eqG (zG m) m e z
theorem c79:CC (mo 79 [.row .iFile,.row .iFile] oB (q2 HS)):=mq (cs aNE cn) ⟨[],[],[(4,true,⟨[],[eR 0 .iFile,eR 1 .iFile,eI 5]⟩,0,⟨[],[]⟩)]⟩ Tryz.f79
def zL (m:Nat) (e z:aT):Option Bool:=
 br (!decide (e.Name=z.Name)) (
 some false) <|
 br (e.Id !=z.Id) (
 some false) <|
 some true
theorem aNF:CC (mo 146 [jS .iLink,jS .iLink] oB (q2 zL)):=mq cn tn Tryz.f146
def HU (m:Nat) (e z:List aT):Option Bool:=eqG (zL m) m e z
theorem c80:CC (mo 80 [.row .iLink,.row .iLink] oB (q2 HU)):=mq (cs aNF cn) ⟨[],[],[(4,true,⟨[],[eR 0 .iLink,eR 1 .iLink,eI 5]⟩,0,⟨[],[]⟩)]⟩ Tryz.f80
def zQ (m:Nat) (e z:eA):Option Bool:=
 br (e.Kind !=z.Kind) (
 some false) <|
 br (!decide (e.Name=z.Name)) (
 some false) <|
 br (!decide (e.To=z.To)) (
 some false) <|
 br (e.Id !=z.Id) (
 some false) <|
 some true
theorem aNG:CC (mo 147 [jS .iTurn,jS .iTurn] oB (q2 zQ)):=mq cn tn Tryz.f147
def HZ (m:Nat) (e z:List eA):Option Bool:=eqG (zQ m) m e z
theorem c81:CC (mo 81 [.row .iTurn,.row .iTurn] oB (q2 HZ)):=mq (cs aNG cn) ⟨[],[],[(4,true,⟨[],[eR 0 .iTurn,eR 1 .iTurn,eI 5]⟩,0,⟨[],[]⟩)]⟩ Tryz.f81
def zF (m:Nat) (e z:cO):Option Bool:=
 br (e.Room !=z.Room) (
 some false) <|
 br (e.Fuse !=z.Fuse) (
 some false) <|
 br (e.Next !=z.Next) (
 some false) <|
 bd (HS m e.Files z.Files) fun D=>
 br (!D) (
 some false) <|
 bd (HU m e.Kept z.Kept) fun H=>
 br (!H) (
 some false) <|
 bd (HZ m e.Turns z.Turns) fun I=>
 br (!I) (
 some false) <|
 some true
theorem c30:CC (mo 30 [jS .iDisk,jS .iDisk] oB (q2 zF)):=mq (cs c79 (cs c80 (cs c81 cn))) tn Tryz.f30
def BW (m:Nat) (e z:j6):Option Bool:=
 bd (zF m e.Disk z.Disk) fun D=>
 br (!D) (
 some false) <|
 br (e.Gen !=z.Gen) (
 some false) <|
 br (e.Seq !=z.Seq) (
 some false) <|
 br (e.Size !=z.Size) (
 some false) <|
 br (!e.Stuck==z.Stuck) (
 some false) <|
 some true
theorem c29:CC (mo 29 [jS .iDepot,jS .iDepot] oB (q2 BW)):=mq (cs c30 cn) tn Tryz.f29
def zO (m:Nat) (e z:jL):Option Bool:=
 br (e.Pid !=z.Pid) (
 some false) <|
 br (e.Pane !=z.Pane) (
 some false) <|
 some true
theorem aNH:CC (mo 148 [jS .iProc,jS .iProc] oB (q2 zO)):=mq cn tn Tryz.f148
def HX (m:Nat) (e z:List jL):Option Bool:=eqG (zO m) m e z
theorem c82:CC (mo 82 [.row .iProc,.row .iProc] oB (q2 HX)):=mq (cs aNH cn) ⟨[],[],[(4,true,⟨[],[eR 0 .iProc,eR 1 .iProc,eI 5]⟩,0,⟨[],[]⟩)]⟩ Tryz.f82
def EH (m:Nat) (e z:A9):Option Bool:=
 br (e.Pane !=z.Pane) (
 some false) <|
 br (!decide (e.Cmd=z.Cmd)) (
 some false) <|
 br (!decide (e.Dir=z.Dir)) (
 some false) <|
 br (e.W !=z.W) (
 some false) <|
 br (e.H !=z.H) (
 some false) <|
 br (e.Pid !=z.Pid) (
 some false) <|
 some true
theorem aNI:CC (mo 149 [jS .iAsk,jS .iAsk] oB (q2 EH)):=mq cn tn Tryz.f149
def L7 (m:Nat) (e z:List A9):Option Bool:=eqG (EH m) m e z
theorem c83:CC (mo 83 [.row .iAsk,.row .iAsk] oB (q2 L7)):=mq (cs aNI cn) ⟨[],[],[(4,true,⟨[],[eR 0 .iAsk,eR 1 .iAsk,eI 5]⟩,0,⟨[],[]⟩)]⟩ Tryz.f83
def BX (m:Nat) (e z:fL):Option Bool:=
 br (e.Next !=z.Next) (
 some false) <|
 bd (HX m e.Live z.Live) fun D=>
 br (!D) (
 some false) <|
 bd (L7 m e.Asked z.Asked) fun H=>
 br (!H) (
 some false) <|
 some true
theorem c31:CC (mo 31 [jS .iTable,jS .iTable] oB (q2 BX)):=mq (cs c82 (cs c83 cn)) tn Tryz.f31
def OK (m:Nat) (e z:oK):Option Bool:=
 br (e.Kind !=z.Kind) (
 some false) <|
 br (e.A !=z.A) (
 some false) <|
 br (e.B !=z.B) (
 some false) <|
 br (e.C !=z.C) (
 some false) <|
 br (!decide (e.Name=z.Name)) (
 some false) <|
 br (!decide (e.Text=z.Text)) (
 some false) <|
 br (!decide (e.Dir=z.Dir)) (
 some false) <|
 bd (wH m e.Data z.Data) fun D=>
 br (!D) (
 some false) <|
 some true
theorem aNJ:CC (mo 150 [jS .iOp,jS .iOp] oB (q2 OK)):=mq (cs aKG cn) tn Tryz.f150
def zI (m:Nat) (e z:iZ):Option Bool:=
 br (!e.Lost==z.Lost) (
 some false) <|
 bd (OK m e.Op z.Op) fun D=>
 br (!D) (
 some false) <|
 some true
theorem c84:CC (mo 84 [jS .iHist,jS .iHist] oB (q2 zI)):=mq (cs aNJ cn) tn Tryz.f84
def HT (m:Nat) (e z:List iZ):Option Bool:=eqG (zI m) m e z
theorem c32:CC (mo 32 [.row .iHist,.row .iHist] oB (q2 HT)):=mq (cs c84 cn) ⟨[],[],[(4,true,⟨[],[eR 0 .iHist,eR 1 .iHist,eI 5]⟩,0,⟨[],[]⟩)]⟩ Tryz.f32
def J4 (m:Nat) (e z:lE):Option Bool:=
 bd (wI m e.Base z.Base) fun D=>
 br (!D) (
 some false) <|
 br (e.Top !=z.Top) (
 some false) <|
 br (!e.Up==z.Up) (
 some false) <|
 bd (wI m e.St z.St) fun H=>
 br (!H) (
 some false) <|
 bd (BW m e.Dep z.Dep) fun I=>
 br (!I) (
 some false) <|
 bd (zF m e.Disk z.Disk) fun M=>
 br (!M) (
 some false) <|
 bd (BX m e.Tab z.Tab) fun R=>
 br (!R) (
 some false) <|
 br (e.Sure !=z.Sure) (
 some false) <|
 bd (HT m e.Done z.Done) fun W=>
 br (!W) (
 some false) <|
 some true
theorem c8:CC (mo 8 [jS .iSrv,jS .iSrv] oB (q2 J4)):=mq (cs c28 (cs c29 (cs c30 (cs c31 (cs c32 cn))))) tn Tryz.f8
def sN (m:Nat) (e:OV):Option Bool:=
 bd (J6 m e 1048576) fun D=>
 br (decide (D<0)) (
 some true) <|
 bd (AK m e) fun H=>
 bd (AQ m H) fun I=>
 bd (AK m e) fun z=>
 bd (y8 m z) fun M=>
 br (!decide (M=I)) (
 some false) <|
 bd (AK m e) fun R=>
 bd (J4 m z R) fun W=>
 br (!W) (
 some false) <|
 some true
theorem c3:CC (mo 3 [jS .lSrv] oB sN):=mq (cs c4 (cs c6 (cs c5 (cs c7 (cs c8 cn))))) tn Tryz.f3
end
open Go.RowKit Go.Deep
def shp:d4->d4->Prop
 | .sc (.int k _),.sc (.int k' _)=>k'=k
 | .sc (.string _),.sc (.string _)=>True
 | .sc (.bool _),.sc (.bool _)=>True
 | .nest k _,.nest k' _=>k'=k
 | _,_=>False
theorem aEy {k:IntKind} {n:Int} {lf:d4} (h:shp (.sc (.int k n)) lf):∃m,lf= .sc (.int k m):=by
 cases lf with
 | sc v=>cases v<;>first|exact h.elim|(obtain rfl:_=_:=h;exact⟨_,rfl⟩)
 | nest=>exact h.elim
theorem aEz {s:ByteArray} {lf:d4} (h:shp (.sc (.string s)) lf):∃m,lf= .sc (.string m):=by
 cases lf with
 | sc v=>cases v<;>first|exact⟨_,rfl⟩ | exact h.elim
 | nest=>exact h.elim
theorem aBM {s:Bool} {lf:d4} (h:shp (.sc (.bool s)) lf):∃m,lf= .sc (.bool m):=by
 cases lf with
 | sc v=>cases v<;>first|exact⟨_,rfl⟩ | exact h.elim
 | nest=>exact h.elim
theorem aBN {l:List (ty k)} {lf:d4} (h:shp (.nest k l) lf):∃m,lf= .nest k m:=by
 cases lf with
 | sc v=>exact h.elim
 | nest k' e=>obtain rfl:k'=k:=h;exact⟨_,rfl⟩
theorem aH7 {z:d4} {zs:List d4} (h:bC shp (z::zs) lfs):∃l t,lfs=l::t/\shp z l/\bC shp zs t:=by
 cases lfs with
 | nil=>exact h.elim
 | cons l t=>exact⟨l,t,rfl,h.1,h.2⟩
theorem aJs (h:bC shp [] lfs):lfs=[]:=by
 cases lfs with
 | nil=>rfl
 | cons=>exact h.elim
set_option maxRecDepth 20000 in
theorem aFk:∀{k:K} {lfs:List d4},bC shp (aG (zK k)) lfs->∃x,nJ k (lfs.map LM)=some x:=by
 intro k lfs h
 cases k
 all_goals
  repeat
   obtain⟨_,_,e0,e,z⟩:=aH7 h
   clear h
   subst e0
   have h:=z
   clear z
   first
    | (obtain⟨_,rfl⟩:=aEy e;clear e)
    | (obtain⟨_,rfl⟩:=aEz e;clear e)
    | (obtain⟨_,rfl⟩:=aBM e;clear e)
    | (obtain⟨_,rfl⟩:=aBN e;clear e)
  obtain rfl:=aJs h
  exact⟨_,rfl⟩
def RdL (w:World) (zs:List d4) (cs:List Value):Prop:=∃lfs,bC shp zs lfs/\bC (mY (fun b=>b<w.heap.size) w) lfs cs
theorem RdL.app {w:World}:∀{z1 z2:List d4} {e z:List Value},RdL w z1 e->RdL w z2 z->RdL w (z1++z2) (e++z)
 | z1,z2,e,z,⟨D,H,I⟩,⟨l2,M,R⟩=>⟨D++l2,bC.app H M,bC.app I R⟩
theorem RdL.len {w:World} {zs:List d4} {cs:List Value} (h:RdL w zs cs):cs.length=zs.length:=by
 obtain⟨l,a,b⟩:=h
 rw[<-b.len,<-a.len]
theorem aC3 {ls:List d4}:∀{cs:List Value},bC oL (lfs.map LM) ls->bC (mY S w) lfs cs->ls=lfs:=by
 induction lfs generalizing ls with
 | nil=>intro cs h _;cases ls with
  | nil=>rfl
  | cons=>exact h.elim
 | cons a lfs ih=>
  intro cs h e
  cases ls with
  | nil=>exact h.elim
  | cons b ls=>
   cases cs with
   | nil=>exact e.elim
   | cons c cs=>
    rw[ih h.2 e.2]
    congr 1
    cases a with
    | sc v=>exact h.1 e.1.2
    | nest k l=>exact h.1
theorem RdL.elem {cs:List Value} (h:RdL w (aG (zK k)) cs):∃x:ty k,bC (mY (fun b=>b<w.heap.size) w) (aG x) cs:=by
 obtain⟨lfs,a,b⟩:=h
 obtain⟨x,e⟩:=aFk a
 refine⟨x,?_⟩
 rw[aC3 (iX e) b]
 exact b
def VC (P:Program) (t:TypeId) (zs:List d4):Prop:=∀(H:Type) (enc:TypeId×Value->H) (w:World) (base:Nat) (spare:Nat->Bool) (held:Bool) (fuel:Nat) (cs:List Value) (x:DataW H×List MemPlace),
  DataW.trod enc P w base spare held fuel t cs=some x->RdL w zs cs
section
variable {P:Program}
theorem aLz {k:IntKind} {n:Int} (h:(Lit.int k n).wf=true):sD (.int k n):=by
 refine(iS k n).2 ?_
 cases k<;>simp[Lit.wf,IntKind.min,IntKind.max,IntKind.signed,IntKind.bits,loK,hiK]at h⊢<;>omega
theorem aFB {t:TypeId} {k:IntKind} (e:P.underlying t=some (.int k)):VC P t [.sc (.int k 0)]:=by
 intro H enc w base spare held fuel cs x h
 obtain⟨n,rfl,_,z⟩:=DataW.trod_int e h
 exact⟨[.sc (.int k n)],⟨rfl,trivial⟩,⟨rfl,aLz z⟩,trivial⟩
theorem aDE {t:TypeId} (e:P.underlying t=some .bool):VC P t [.sc (.bool false)]:=by
 intro H enc w base spare held fuel cs x h
 obtain⟨b,rfl,_⟩:=DataW.trod_bool e h
 exact⟨[.sc (.bool b)],⟨trivial,trivial⟩,⟨rfl,trivial⟩,trivial⟩
theorem aFC {t:TypeId} (e:P.underlying t=some .string):VC P t [.sc (.string ByteArray.empty)]:=by
 intro H enc w base spare held fuel cs x h
 obtain⟨s,rfl,_,z⟩:=DataW.trod_string e h
 exact⟨[.sc (.string s)],⟨trivial,trivial⟩,⟨rfl,z⟩,trivial⟩
theorem aCq {a:Addr} {v:Value} (h:w.cell? a=some v):a.block<w.heap.size:=by
 unfold World.cell? at h
 split at h
 ·rename_i e;exact(Array.getElem?_eq_some_iff.1 e).1
 ·cases h
theorem aBB {t:TypeId} (ht:P.underlying t=some (.slice (mJ k))) (hC:P.cellsOf (mJ k)=size k) (he:VC P (mJ k) (aG (zK k))):VC P t [.nest k []]:=by
 intro H enc w base spare held fuel cs x h
 rcases open_slice ht h with⟨rfl,_⟩ |⟨⟨b,off,spot⟩,len,cap,m,n,D,Pl,rfl,hb,hl,hm,hmm,hx,hi⟩
 ·exact⟨[.nest k []],⟨rfl,trivial⟩,wY.nil,trivial⟩
 ·have hp:=mH k
  have hlm:len<=m:=by rw[hmm];split<;>omega
  have z:0<len->spot=none:=by
   intro h0
   obtain⟨cs',W,htr⟩:=hi 0 (by omega)
   obtain⟨_,e,I⟩:=World.cells?_some W
   rw[hC]at I e
   have hc:=(I 0 hp).trans (iD (show 0<cs'.length by omega))
   have:=World.cell?_spot hc
   simpa [Addr.add]using this
  have H1:∀i:Fin len,∃y:ty k,spot=none/\b<w.heap.size/\∀(j:Nat) lf,(aG y)[j]?=some lf->∃u,w.cell? ⟨b,off+(i.1*size k+j),none⟩ = some u/\mY (fun b=>b<w.heap.size) w lf u:=by
   intro i
   obtain⟨cs',W,htr⟩:=hi i.1 (by omega)
   obtain⟨_,e,I⟩:=World.cells?_some W
   rw[hC]at e I
   obtain⟨y,hy⟩:=(he _ _ _ _ _ _ _ _ _ htr).elem
   have hc0:=(I 0 hp).trans (iD (show 0<cs'.length by omega))
   have z:=z (iW (cT _) i.2)
   subst z
   have M:b<w.heap.size:=by
    have:=aCq hc0
    rw[nH,nH]at this
    exact this
   refine⟨y,rfl,M,fun j lf R=> ?_⟩
   obtain⟨u,hu,hv⟩:=hy.get j lf R
   have hj:j<size k:=by have:=(iR.1 R).1;rwa[cP]at this
   have hc:=(I j hj).trans hu
   rw[nH,nH]at hc
   exact⟨u,by rw[<-fE];exact hc,hv⟩
  have hm':len<=9223372036854775807:=aX hl hm
  refine⟨[.nest k (List.ofFn fun i=>(H1 i).choose)],⟨rfl,trivial⟩,?_,trivial⟩
  have e:(List.ofFn fun i=>(H1 i).choose).length=len:=by simp
  have:=wY.make (S:=fun b=>b<w.heap.size) (w:=w) (k:=k) (l:=List.ofFn fun i=>(H1 i).choose) (a:=some ⟨b,off,spot⟩) (cap:=cap) (by rw[e];exact hl) (by rw[e];exact hm') fun hne=>by
   have h0:0<len:=by
    rcases Nat.eq_zero_or_pos len with h0|h0
    ·subst h0;simp at hne
    ·exact h0
   obtain⟨hs,M,_⟩:=(H1 ⟨0,h0⟩).choose_spec
   refine⟨b,off,by rw[hs],M,fun i x hx j lf R=> ?_⟩
   have Y:i<len:=by rw[<-e];exact(iR.1 hx).1
   have hx':x=(H1 ⟨i,Y⟩).choose:=by
    rw[List.getElem?_ofFn]at hx
    simp[Y]at hx
    exact hx.symm
   subst hx'
   exact(H1 ⟨i,Y⟩).choose_spec.2.2 j lf R
  rw[e]at this
  exact this
def NH:List d4->List d4->Bool
 | [],[]=>true
 | .sc (.int k _)::l,.sc (.int k' _)::m=>decide (k'=k)&&NH l m
 | .sc (.string _)::l,.sc (.string _)::m=>NH l m
 | .sc (.bool _)::l,.sc (.bool _)::m=>NH l m
 | .nest k _::l,.nest k' _::m=>decide (k'=k)&&NH l m
 | _,_=>false
theorem wU:∀{l m:List d4},NH l m=true->∀{lfs:List d4},bC shp l lfs->bC shp m lfs
 | [],[],_,lfs,h=>h
 | a::l,b::m,e,lfs,h=>by
  cases lfs with
  | nil=>exact h.elim
  | cons c lfs=>
   unfold NH at e
   split at e
   ·rename_i z D;cases z
   ·rename_i k n H k' I M z D
    cases z;cases D
    rw[aB]at e
    obtain rfl:=of_decide_eq_true e.1
    obtain⟨q,rfl⟩:=aEy h.1
    exact⟨rfl,wU e.2 h.2⟩
   ·rename_i z D
    cases z;cases D
    obtain⟨q,rfl⟩:=aEz h.1
    exact⟨trivial,wU e h.2⟩
   ·rename_i z D
    cases z;cases D
    obtain⟨q,rfl⟩:=aBM h.1
    exact⟨trivial,wU e h.2⟩
   ·rename_i k n H k' I M z D
    cases z;cases D
    rw[aB]at e
    obtain rfl:=of_decide_eq_true e.1
    obtain⟨q,rfl⟩:=aBN h.1
    exact⟨rfl,wU e.2 h.2⟩
   ·cases e
 | [],_::_,e,_,_=>by cases e
 | .sc v::_,[],e,_,_=>by cases v<;>simp[NH]at e
 | .nest _ _::_,[],e,_,_=>by cases e
def OC (P:Program) (r:TypeId->Option (List d4)):Nat->List Field->Option (List d4)
 | _,[]=>some []
 | off,f::fs=>match Nat.beq f.offset off,r f.type with
  | true,some z=>(match Nat.beq (P.cellsOf f.type) z.length with
   | true=>(match OC P r (off+z.length) fs with
    | some zs=>some (z++zs)
    | none=>none)
   | false=>none)
  | _,_=>none
def rdT (P:Program):Nat->TypeId->Option (List d4)
 | 0,_=>none
 | n+1,t=>match P.underlying t with
  | some (.int k)=>some [.sc (.int k 0)]
  | some .string=>some [.sc (.string ByteArray.empty)]
  | some .bool=>some [.sc (.bool false)]
  | some (.slice e)=>(match F3 t with
   | some k=>(match Nat.beq e (mJ k),Nat.beq (P.cellsOf (mJ k)) (size k),rdT P n (mJ k)with
    | true,true,some zs=>(match NH zs (aG (zK k))with
     | true=>some [.nest k []]
     | false=>none)
    | _,_,_=>none)
   | none=>none)
  | some (.struct fs)=>(match OC P (rdT P n) 0 fs.toList with
   | some zs=>(match Nat.beq (P.cellsOf t) zs.length with
    | true=>some zs
    | false=>none)
   | none=>none)
  | _=>none
theorem P1 {r:TypeId->Option (List d4)} {w:World} {cs:List Value}:∀{fs:List Field} {off:Nat} {zs:List d4},OC P r off fs=some zs->cs.length=off+zs.length->
  (∀(i:Nat) f z,fs[i]?=some f->r f.type=some z->RdL w z ((cs.drop f.offset).take (P.cellsOf f.type)))->RdL w zs (cs.drop off)
 | [],off,zs,h,e,_=>by
  cases h
  rw[List.drop_eq_nil_of_le (by simp at e;omega)]
  exact⟨[],trivial,trivial⟩
 | f::fs,off,zs,h,e,D=>by
  unfold OC at h
  split at h
  case h_2=>cases h
  rename_i z I M
  split at h
  case h_2=>cases h
  rename_i R
  split at h
  case h_2=>cases h
  rename_i zs' W
  cases h
  have Y:=aS I
  have h6:=aS R
  have H:=D 0 f z rfl M
  rw[Y,h6]at H
  have q2:=P1 (off:=off+z.length) W (by rw[aW]at e;omega) fun i f z hi hz=>D (i+1) f z (by simpa using hi) hz
  have:=H.app q2
  rwa[show(cs.drop off).take z.length++cs.drop (off+z.length)=cs.drop off by rw[<-kH];exact fW ..]at this
theorem MG:∀{n:Nat} {t:TypeId} {zs:List d4},rdT P n t=some zs->VC P t zs
 | 0,_,_,h=>by cases h
 | n+1,t,zs,h=>by
  unfold rdT at h
  split at h
  ·rename_i k D;cases h;exact aFB D
  ·rename_i D;cases h;exact aFC D
  ·rename_i D;cases h;exact aDE D
  ·rename_i e D
   split at h
   case h_2=>cases h
   rename_i k hk
   split at h
   case h_2=>cases h
   rename_i zs' I M h3
   split at h
   case h_2=>cases h
   rename_i h4
   cases h
   have e1:=aS I
   have R:=aS M
   subst e1
   refine aBB D R fun H enc w base spare held fuel cs x W=> ?_
   obtain⟨l,a,b⟩:=MG h3 H enc w base spare held fuel cs x W
   exact⟨l,wU h4 a,b⟩
  ·rename_i fs D
   split at h
   case h_2=>cases h
   rename_i zs' I
   split at h
   case h_2=>cases h
   rename_i M
   cases h
   have R:=aS M
   intro H enc w base spare held fuel cs x W
   obtain⟨xs,m,_,_,hC,hl,hf⟩:=DataW.trod_struct D W
   have:=P1 (P:=P) (w:=w) (cs:=cs) (off:=0) I (by rw[hC,R,bP]) fun i f z hi hz=>by
    have g:=hf i f (by simpa using hi)
    have Y:i<xs.length:=by rw[hl];simpa using(iR.1 hi).1
    rw[iD Y]at g
    exact MG hz H enc w base spare held m _ _ g
   simpa using this
  ·cases h
end
open Go.RowKit
section
variable {S:Nat->Prop} {w:World} {J:Nat->Option (Nat×Nat)} {σ:cU}
theorem aHP {lf:d4} {u:Value} (h:mY S w lf u):gI S w J σ (qK lf) u []:=by
 cases lf with
 | sc q=>exact⟨rfl,h⟩
 | nest k l=>exact⟨rfl,rfl,h⟩
theorem aLb {x:ty k} {us:List Value} (h:bC (mY S w) (aG x) us):kN S w J σ ((Sh.st k []).encC x) (.agg us.toArray) []:=by
 refine⟨us.toArray,rfl,?_⟩
 have key:∀(lfs:List d4) (j:Nat) (us:List Value),bC (mY S w) lfs us->bZ (gI S w J σ) (aJx [] j lfs) us []:=by
  intro lfs
  induction lfs with
  | nil=>intro j us h;cases us with
   | nil=>rfl
   | cons=>exact h.elim
  | cons a lfs ih=>intro j us h;cases us with
   | nil=>exact h.elim
   | cons u us=>exact⟨[],[],rfl,aHP h.1,ih (j+1) us h.2⟩
 simpa using key _ 0 us h
end
@[simp] theorem bd_s {α J:Type} (a:α) (f:α->Option J):bd (some a) f=f a:=rfl
@[simp] theorem bd_n {α J:Type} (f:α->Option J):bd (none:Option α) f=none:=rfl
@[simp] theorem br_t {α:Type} (x y:α):br true x y=x:=rfl
@[simp] theorem br_f {α:Type} (x y:α):br false x y=y:=rfl
@[simp] theorem jn_l {V J:Type} (v:V) (f:V->Option J):jn (some (.inl v)) f=f v:=rfl
@[simp] theorem jn_r {V J:Type} (r:J) (f:V->Option J):jn (some (.inr r)) f=some r:=rfl
theorem aLP (b:Bool) (x y:Option α) (f:α->Option J):bd (br b x y) f=br b (bd x f) (bd y f):=by cases b<;>rfl
theorem DT (b:Bool) (x y:α):br b (some x) (some y)=some (br b x y):=by cases b<;>rfl
theorem GI (b:Bool) (a:α) (x y:J):br b (a,x) (a,y)=(a,br b x y):=by cases b<;>rfl
theorem aE {p:Prop} [Decidable p] (h:p) (x:Option J):gd p x=x:=if_pos h
theorem VN (b:Bool) (x y:α):br b x y=if b then x else y:=by cases b<;>rfl
theorem QP {V O α:Type} {B:V->Option (V⊕O)} {f:Nat->V} {l:List α} {q:α->Bool} {R E:O} (h:∀i x,l[i]?=some x->B (f i)=if q x then some (.inr R)else some (.inl (f (i+1)))) (z:B (f l.length)=some (.inr E)) :
  ∀(n fuel i:Nat),l.length-i=n->i<=l.length->n<fuel->aL B fuel (f i)=some (if(l.drop i).any q then R else E)
 | n,0,i,_,_,H=>by omega
 | 0,fuel+1,i,I,M,_=>by
  obtain rfl:i=l.length:=by omega
  unfold aL
  rw[z]
  simp
 | n+1,fuel+1,i,I,M,H=>by
  have e:i<l.length:=by omega
  have W:l[i]?=some l[i]:=iD e
  unfold aL
  rw[h i _ W,List.drop_eq_getElem_cons e,o4]
  by_cases D:q l[i]=true
  ·simp[D]
  ·simp only[D,if_false,aJ,b9]
   exact QP h z n fuel (i+1) (by omega) (by omega) (by omega)
theorem mP {V:Type} {B:V->Option (V⊕O)} (f:Nat->V) (l:List α) (q:α->Bool) (R E:O) {fuel:Nat} {v:V} (e:v=f 0) (h:∀i x,l[i]?=some x->B (f i)=if q x then some (.inr R)else some (.inl (f (i+1)))) (z:B (f l.length)=some (.inr E)) (D:l.length<fuel):aL B fuel v=some (if l.any q then R else E):=by
 subst e
 have:=QP h z l.length fuel 0 rfl (cT _) D
 rwa[dK]at this
theorem kZ {V:Type} {B:V->Option (V⊕O)} (f:Nat->V) (l:List α) (q:α->Bool) (R:Nat->O) (E:O) {fuel:Nat} {v:V} (hv:v=f 0) (h:∀i x,l[i]?=some x->B (f i)=if q x then some (.inr (R i))else some (.inl (f (i+1)))) (he:B (f l.length)=some (.inr E)) (M:l.length<fuel) :
  (∃(i:Nat) (x:α),l[i]?=some x/\q x=true/\(∀(j:Nat) y,j<i->l[j]?=some y->q y=false)/\aL B fuel v=some (R i))∨((∀x∈l,q x=false)/\aL B fuel v=some E):=by
 subst hv
 have key:∀(n fuel i:Nat),l.length-i=n->i<=l.length->n<fuel->(∀(j:Nat) y,j<i->l[j]?=some y->q y=false)->
   (∃(W:Nat) (x:α),l[W]?=some x/\q x=true/\(∀(j:Nat) y,j<W->l[j]?=some y->q y=false)/\aL B fuel (f i)=some (R W))∨((∀(j:Nat) y,l[j]?=some y->q y=false)/\aL B fuel (f i)=some E):=by
  intro n
  induction n with
  | zero=>
   intro fuel i hn hi M I
   cases fuel with
   | zero=>omega
   | succ fuel=>
    obtain rfl:i=l.length:=by omega
    refine .inr ⟨fun j y z=>I j y (iR.1 z).1 z,?_⟩
    unfold aL;rw[he]
  | succ n ih=>
   intro fuel i hn hi M I
   cases fuel with
   | zero=>omega
   | succ fuel=>
    have Y:i<l.length:=by omega
    have H:l[i]?=some l[i]:=iD Y
    by_cases e:q l[i]=true
    ·refine .inl ⟨i,_,H,e,I,?_⟩
     unfold aL;rw[h i _ H,e];rfl
    ·have e:q l[i]=false:=by simpa using e
     have D:aL B (fuel+1) (f i)=aL B fuel (f (i+1)):=by
      conv=>lhs;unfold aL
      rw[h i _ H,e];rfl
     rw[D]
     refine ih fuel (i+1) (by omega) (by omega) (by omega) fun j y z hy=> ?_
     rcases Nat.lt_succ_iff_lt_or_eq.1 z with h1|h1
     ·exact I j y h1 hy
     ·subst h1;rw[H]at hy;cases hy;exact e
 rcases key l.length fuel 0 rfl (cT _) M (fun j y z=>by omega)with h1|⟨h1,h2⟩
 ·exact .inl h1
 ·exact .inr ⟨fun x H=>by obtain⟨j,z⟩:=bD H;exact h1 j x z,h2⟩
theorem BH {V:Type} {B:V->Option (V⊕O)} (f:Nat->V) (l:List α) (q:Nat->α->Bool) (R E:O) {fuel:Nat} {v:V} (H:v=f 0) (h:∀i x,l[i]?=some x->B (f i)=if q i x then some (.inr R)else some (.inl (f (i+1)))) (I:B (f l.length)=some (.inr E)) (M:l.length<fuel) :
  aL B fuel v=some (if l.zipIdx.any (fun p=>q p.2 p.1)then R else E):=by
 have D:l.zipIdx.length=l.length:=List.length_zipIdx
 refine mP f l.zipIdx (fun p=>q p.2 p.1) R E H (fun i p e=> ?_) (by rw[D];exact I) (by rw[D];exact M)
 rw[List.getElem?_zipIdx]at e
 cases z:l[i]? with
 | none=>rw[z]at e;cases e
 | some x=>rw[z]at e;simp at e;subst e;exact h i x z
end Go.Px
