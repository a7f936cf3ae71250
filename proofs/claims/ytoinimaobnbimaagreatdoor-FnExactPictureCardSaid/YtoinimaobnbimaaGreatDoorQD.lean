/- What a call may hold, as plain values and a store: a small machine over them, the functions of this program as its contracts, and the plain laws: texts T0 to QP12. -/
import Derived.Test.YtoinimaobnbimaaGreatDoorQC
import Derived.Test.YtoinimaobnbimaaGreatDoorProg
import Derived.Shelf.Small.Strs
import Derived.Shelf.Sort.Plain
import Derived.Shelf.Slices.In.SortNone
import Derived.Shelf.Strconv.Itoa3
import Derived.Sort.OwnSortedInts
import Derived.Ground.NamesProg
import Derived.Lib.SmallJoins
import Derived.WalkKit
import Derived.ProofKit
import Derived.Deep.Slices
import Derived.OpenShut
import Derived.Below
set_option linter.unusedSimpArgs false
set_option linter.unusedVariables false
set_option linter.constructorNameAsVariable false
namespace Go.Proofs.YtoinimaobnbimaaGreatDoor
open Go.RowKit Go.Shelf
def Tryz.laysIndexByte_ren:Go.Shelf.Ren:=⟨fun|137=>191|217=>210|266=>235|n=>n,fun|9=>9|5=>5|3=>3|n=>n,fun|n=>n⟩
theorem Tryz.laysIndexByte:Go.Proofs.Lays.n137 Tryz.prog Tryz.laysIndexByte_ren:= {
 mixed:=by kernel_rfl
 f137:=Tryz.func191.trans (congrArg some (by kernel_rfl))
 f217:=Tryz.func210.trans (congrArg some (by kernel_rfl))
 f266:=Tryz.func235.trans (congrArg some (by kernel_rfl))
 t3:=Tryz.underlying3
 a3:=Tryz.isAgg3
 z3:=Tryz.sizeOf3
 v3:=Tryz.zeroValue3
 t5:=Tryz.underlying5
 a5:=Tryz.isAgg5
 z5:=Tryz.sizeOf5
 v5:=Tryz.zeroValue5
 t9:=Tryz.underlying9
 a9:=Tryz.isAgg9
 z9:=Tryz.sizeOf9
 v9:=Tryz.zeroValue9}
def Tryz.laysItoa_ren:Go.Shelf.Ren:=⟨fun|171=>141|243=>175|246=>196|283=>223|284=>224|285=>225|286=>226|129=>221|317=>242|318=>243|319=>244|320=>245|337=>250|338=>251|n=>n,fun|3=>3|9=>9|2=>2|4=>4|171=>248|0=>0|53=>188|37=>66|5=>5|173=>250|212=>268|51=>185|20=>20|213=>269|46=>147|232=>275|233=>276|n=>n,fun|17=>0|18=>2|19=>3|n=>n⟩
theorem Tryz.laysItoa:Go.Proofs.LaysM.n171 Tryz.prog Tryz.laysItoa_ren:= {
 mixed:=by kernel_rfl
 f129:=Tryz.func221.trans (congrArg some (by kernel_rfl))
 f171:=Tryz.func141.trans (congrArg some (by kernel_rfl))
 f243:=Tryz.func175.trans (congrArg some (by kernel_rfl))
 f246:=Tryz.func196.trans (congrArg some (by kernel_rfl))
 f283:=Tryz.func223.trans (congrArg some (by kernel_rfl))
 f284:=Tryz.func224.trans (congrArg some (by kernel_rfl))
 f285:=Tryz.func225.trans (congrArg some (by kernel_rfl))
 f286:=Tryz.func226.trans (congrArg some (by kernel_rfl))
 f317:=Tryz.func242.trans (congrArg some (by kernel_rfl))
 f318:=Tryz.func243.trans (congrArg some (by kernel_rfl))
 f319:=Tryz.func244.trans (congrArg some (by kernel_rfl))
 f320:=Tryz.func245.trans (congrArg some (by kernel_rfl))
 f337:=Tryz.func250.trans (congrArg some (by kernel_rfl))
 f338:=Tryz.func251.trans (congrArg some (by kernel_rfl))
 t0:=Tryz.underlying0
 a0:=Tryz.isAgg0
 z0:=Tryz.sizeOf0
 v0:=Tryz.zeroValue0
 t2:=Tryz.underlying2
 a2:=Tryz.isAgg2
 z2:=Tryz.sizeOf2
 v2:=Tryz.zeroValue2
 t3:=Tryz.underlying3
 a3:=Tryz.isAgg3
 z3:=Tryz.sizeOf3
 v3:=Tryz.zeroValue3
 t4:=Tryz.underlying4
 a4:=Tryz.isAgg4
 z4:=Tryz.sizeOf4
 v4:=Tryz.zeroValue4
 t5:=Tryz.underlying5
 a5:=Tryz.isAgg5
 z5:=Tryz.sizeOf5
 v5:=Tryz.zeroValue5
 t9:=Tryz.underlying9
 a9:=Tryz.isAgg9
 z9:=Tryz.sizeOf9
 v9:=Tryz.zeroValue9
 t20:=Tryz.underlying20
 a20:=Tryz.isAgg20
 z20:=Tryz.sizeOf20
 v20:=Tryz.zeroValue20
 t37:=Tryz.underlying66
 a37:=Tryz.isAgg66
 z37:=Tryz.sizeOf66
 v37:=Tryz.zeroValue66
 t46:=Tryz.underlying147
 a46:=Tryz.isAgg147
 z46:=Tryz.sizeOf147
 v46:=Tryz.zeroValue147
 t51:=Tryz.underlying185
 a51:=Tryz.isAgg185
 z51:=Tryz.sizeOf185
 v51:=Tryz.zeroValue185
 t53:=Tryz.underlying188
 a53:=Tryz.isAgg188
 z53:=Tryz.sizeOf188
 v53:=Tryz.zeroValue188
 t171:=Tryz.underlying248
 a171:=Tryz.isAgg248
 z171:=Tryz.sizeOf248
 v171:=Tryz.zeroValue248
 t173:=Tryz.underlying250
 a173:=Tryz.isAgg250
 z173:=Tryz.sizeOf250
 v173:=Tryz.zeroValue250
 t212:=Tryz.underlying268
 a212:=Tryz.isAgg268
 z212:=Tryz.sizeOf268
 v212:=Tryz.zeroValue268
 t213:=Tryz.underlying269
 a213:=Tryz.isAgg269
 z213:=Tryz.sizeOf269
 t232:=Tryz.underlying275
 a232:=Tryz.isAgg275
 z232:=Tryz.sizeOf275
 v232:=Tryz.zeroValue275
 t233:=Tryz.underlying276
 a233:=Tryz.isAgg276
 z233:=Tryz.sizeOf276
 v233:=Tryz.zeroValue276
 g17:=by kernel_rfl
 g18:=by kernel_rfl
 g19:=by kernel_rfl
 i0:=by kernel_rfl
 i2:=by kernel_rfl
 i3:=by kernel_rfl
 i4:=by kernel_rfl
 i5:=by kernel_rfl
 i9:=by kernel_rfl
 i20:=by kernel_rfl
 i37:=by kernel_rfl
 i46:=by kernel_rfl
 i51:=by kernel_rfl
 i53:=by kernel_rfl
 i171:=by kernel_rfl
 i173:=by kernel_rfl
 i212:=by kernel_rfl
 i232:=by kernel_rfl
 i233:=by kernel_rfl
 m17:=by kernel_rfl
 m18:=by kernel_rfl
 m19:=by kernel_rfl}
def Tryz.laysSort_ren:Go.Shelf.Ren:=⟨fun|189=>168|125=>193|257=>192|128=>220|129=>221|294=>211|295=>212|296=>213|297=>214|298=>215|299=>216|216=>217|300=>218|301=>219|328=>236|329=>237|330=>238|331=>239|332=>240|215=>241|343=>249|n=>n,fun|28=>56|3=>3|46=>147|0=>0|51=>185|53=>188|4=>4|183=>240|182=>239|131=>243|5=>5|9=>9|218=>260|222=>264|228=>273|229=>90|n=>n,fun|n=>n⟩
theorem Tryz.laysSort:Go.Proofs.Lays.n189 Tryz.prog Tryz.laysSort_ren:= {
 mixed:=by kernel_rfl
 f125:=Tryz.func193.trans (congrArg some (by kernel_rfl))
 f128:=Tryz.func220.trans (congrArg some (by kernel_rfl))
 f129:=Tryz.func221.trans (congrArg some (by kernel_rfl))
 f189:=Tryz.func168.trans (congrArg some (by kernel_rfl))
 f215:=Tryz.func241.trans (congrArg some (by kernel_rfl))
 f216:=Tryz.func217.trans (congrArg some (by kernel_rfl))
 f257:=Tryz.func192.trans (congrArg some (by kernel_rfl))
 f294:=Tryz.func211.trans (congrArg some (by kernel_rfl))
 f295:=Tryz.func212.trans (congrArg some (by kernel_rfl))
 f296:=Tryz.func213.trans (congrArg some (by kernel_rfl))
 f297:=Tryz.func214.trans (congrArg some (by kernel_rfl))
 f298:=Tryz.func215.trans (congrArg some (by kernel_rfl))
 f299:=Tryz.func216.trans (congrArg some (by kernel_rfl))
 f300:=Tryz.func218.trans (congrArg some (by kernel_rfl))
 f301:=Tryz.func219.trans (congrArg some (by kernel_rfl))
 f328:=Tryz.func236.trans (congrArg some (by kernel_rfl))
 f329:=Tryz.func237.trans (congrArg some (by kernel_rfl))
 f330:=Tryz.func238.trans (congrArg some (by kernel_rfl))
 f331:=Tryz.func239.trans (congrArg some (by kernel_rfl))
 f332:=Tryz.func240.trans (congrArg some (by kernel_rfl))
 f343:=Tryz.func249.trans (congrArg some (by kernel_rfl))
 t0:=Tryz.underlying0
 a0:=Tryz.isAgg0
 z0:=Tryz.sizeOf0
 v0:=Tryz.zeroValue0
 t3:=Tryz.underlying3
 a3:=Tryz.isAgg3
 z3:=Tryz.sizeOf3
 v3:=Tryz.zeroValue3
 t4:=Tryz.underlying4
 a4:=Tryz.isAgg4
 z4:=Tryz.sizeOf4
 v4:=Tryz.zeroValue4
 t5:=Tryz.underlying5
 a5:=Tryz.isAgg5
 z5:=Tryz.sizeOf5
 v5:=Tryz.zeroValue5
 t9:=Tryz.underlying9
 a9:=Tryz.isAgg9
 z9:=Tryz.sizeOf9
 v9:=Tryz.zeroValue9
 t28:=Tryz.underlying56
 a28:=Tryz.isAgg56
 z28:=Tryz.sizeOf56
 v28:=Tryz.zeroValue56
 t46:=Tryz.underlying147
 a46:=Tryz.isAgg147
 z46:=Tryz.sizeOf147
 v46:=Tryz.zeroValue147
 t51:=Tryz.underlying185
 a51:=Tryz.isAgg185
 z51:=Tryz.sizeOf185
 v51:=Tryz.zeroValue185
 t53:=Tryz.underlying188
 a53:=Tryz.isAgg188
 z53:=Tryz.sizeOf188
 v53:=Tryz.zeroValue188
 t131:=Tryz.underlying243
 a131:=Tryz.isAgg243
 z131:=Tryz.sizeOf243
 v131:=Tryz.zeroValue243
 t182:=Tryz.underlying239
 a182:=Tryz.isAgg239
 z182:=Tryz.sizeOf239
 v182:=Tryz.zeroValue239
 t183:=Tryz.underlying240
 a183:=Tryz.isAgg240
 z183:=Tryz.sizeOf240
 v183:=Tryz.zeroValue240
 t218:=Tryz.underlying260
 a218:=Tryz.isAgg260
 z218:=Tryz.sizeOf260
 v218:=Tryz.zeroValue260
 t222:=Tryz.underlying264
 a222:=Tryz.isAgg264
 z222:=Tryz.sizeOf264
 v222:=Tryz.zeroValue264
 t228:=Tryz.underlying273
 a228:=Tryz.isAgg273
 z228:=Tryz.sizeOf273
 v228:=Tryz.zeroValue273
 t229:=Tryz.underlying90
 a229:=Tryz.isAgg90
 z229:=Tryz.sizeOf90
 v229:=Tryz.zeroValue90}
end Go.Proofs.YtoinimaobnbimaaGreatDoor
namespace Go.Px
open Go.RowKit Go.Proofs Go.Sort
set_option maxRecDepth 100000 in
theorem row_calls (w:World) (W H0 y:Int) (c q:Value) (g1:IntKind.i64.wrap (y*W)=y*W) (g2:IntKind.i64.wrap (y+1)=y+1) (g3:IntKind.i64.wrap ((y+1)*W)=(y+1)*W) (h:∀w0:World,(Instr.slice 28 c (some (.int .i64 (y*W))) (some (.int .i64 ((y+1)*W))) none).run Tryz.prog w0= .ok q w0):Calls Tryz.prog 35 #[.agg #[.int .i64 W,.int .i64 H0,c],.int .i64 y] w fun e w'=>e= .returned q∧Below w.heap.size w w':=by
 have H:=Lib.hid h
 clear h
 go_enter Tryz.func35,Tryz.ntmps35
 go_wp2_with fail
 rw[H.out]
 rename_i hK
 refine hK _ _ ?_
 go_wp2_with fail
 go_ret
 exact⟨rfl,Below.alloc (Below.refl _ _) (Nat.le_refl _) _⟩
set_option maxRecDepth 100000 in
theorem winOk:WinOk Tryz.prog:=by
 intro f t hf w W H y c q g1 g2 g3 hq
 have h2:f=35∧t=28:=by have:=look_mem hf;simpa only[winL,List.mem_singleton,Prod.mk.injEq]using this
 rw[h2.2]at hq
 rw[h2.1]
 refine Arrive.of (fn:=Tryz.f35) (by kernel_rfl) (by kernel_rfl) rfl ?_
 exact row_calls w W H y c q g1 g2 g3 hq
set_option maxRecDepth 100000 in
theorem shown_calls (w:World) (b off:Nat) (c:Bool) (hc:w.cell? ⟨b,off+8,none⟩ = some (.bool c)):Calls Tryz.prog 130 #[.pointer (some ⟨b,off,none⟩)] w fun e w'=>e= .returned (.pointer (some ⟨b,off+(if c then 5 else 2),none⟩))∧Below w.heap.size w w':=by
 cases c <;>
 ·go_enter Tryz.func130,Tryz.ntmps130
  go_wp2_with fail
  go_ret
  exact⟨rfl,Below.refl _ _⟩
set_option maxRecDepth 100000 in
theorem selOk:SelOk Tryz.prog:=by
 intro f oc oa ob hf w b off c hc
 have h2:f=130∧oc=8∧oa=5∧ob=2:=by have:=look_mem hf;simpa only[selL,List.mem_singleton,Prod.mk.injEq]using this
 obtain⟨h2,rfl,rfl,rfl⟩:=h2
 rw[h2]
 refine Arrive.of (fn:=Tryz.f130) (by kernel_rfl) (by kernel_rfl) rfl ?_
 exact shown_calls w b off c hc
set_option maxRecDepth 100000 in
theorem facts:Facts Tryz.prog:=Facts.of winOk selOk (by kernel_rfl)
theorem mixed:Tryz.prog.follows .mixedOrders=true:=by kernel_rfl
def TabW (w:World):Prop:=Lib.TabIs Tryz.prog w "internal/strconv.uint64pow10" .u64 Lib.pow10Tab
structure Cl (G:Nat) (E:World→Prop):Prop where
 cl:∀w w':World,E w→(∀b,b<G→w'.heap[b]?=w.heap[b]?)→E w'
 tab:∀w,E w→TabW w
def CC (o:Nat→Orc):Prop:=∀{G:Nat} {E:World→Prop} (_:Cl G E) (m:Nat),Ctr Tryz.prog G E (o m)
def CL (C:Nat→List Orc):Prop:=∀{G:Nat} {E:World→Prop} (_:Cl G E) (m:Nat),∀o∈C m,Ctr Tryz.prog G E o
theorem cn:CL (fun _=> []):=fun _ _=>csn
theorem cs {o:Nat→Orc} {C:Nat→List Orc} (h:CC o) (t:CL C):CL (fun m=>o m::C m):=fun hcl m=>csc (h hcl m) (t hcl m)
def tn:Tab:=⟨[],[],[]⟩
theorem mq {C:Nat→List Orc} (hC:CL C) {o:Nat→Orc} (T:Tab) (fn:Func) {c:Code} (hf:∀m,Tryz.prog.funcs[(o m).f]?=some fn:=by intro _;kernel_rfl) (hb:fn.body=some c:=by rfl)
  (hB:((fn.name== "runtime.NumGoroutine")==false&&codeB fn.ntmps c)=true:=by kernel_rfl) (hok:∀m v,okB fn.ntmps (o m).nx ((o m).args v) ((o m).exts v)=true:=by intro _ _;kernel_rfl) (hel:∀m v r,((o m).back r).map List.length=((o m).exts v).map List.length:=by intro _ _ _;kernel_rfl) (h:∀m v,fev (C m) T (o m).nx m fn (o m).pat (o m).ins (o m).out v=(o m).p v:=by intro _ _;kernel_rfl):CC o:=fun hcl m=>Ctr.mk (hC hcl m) facts mixed hcl.cl T m (hf m) hb hB (hok m) (hel m) (h m)
section
variable {G:Nat} {E:World→Prop}
theorem PCalls.libV {P:Program} {f:FuncId} {fn:Func} {c:Code} (hf:P.funcs[f]?=some fn) (hname:(fn.name== "runtime.NumGoroutine")=false) (hb:fn.body=some c) {vs:List Value} {x:Value} (hx:wfV x)
  (h:∀w,E w→Calls P f vs.toArray w fun e w'=>e= .returned x∧Below w.heap.size w w'):PCalls P G E f (vs.map .v) [] (.v x) []:=by
 refine⟨rfl,fun w S us locs La Le hG hE hl1 hl2 hnd hF0 hS hargs hext=> ?_⟩
 obtain rfl:locs=[]:=List.eq_nil_of_length_eq_zero hl1
 obtain rfl:Le=[]:=List.eq_nil_of_length_eq_zero hl2
 have hus:us=vs∧La=[]:=by
  have key:∀(vs us:List Value) (L:List Nat),All3 (Own1 S w (extB []) (extS [])) (vs.map .v) us L→us=vs∧L=[]:=by
   intro vs
   induction vs with
   | nil=>intro us L h;cases us with
    | nil=>exact⟨rfl,h⟩
    | cons _ _=>exact h.elim
   | cons v vs ih=>
    intro us L h
    cases us with
    | nil=>exact h.elim
    | cons u us=>
     obtain⟨L1,L2,e,h1,h2⟩:=h
     obtain⟨q1,q2⟩:=ih us L2 h2
     obtain⟨p1,p2⟩:L1=[]∧u=v∧wfV v:=h1
     exact⟨by rw[q1,p2.1],by rw[e,p1,q2];rfl⟩
  exact key vs us La hargs
 obtain⟨rfl,rfl⟩:=hus
 refine Arrive.of hf hname hb (Calls.mono (h w hE) ?_)
 rintro e w' ⟨rfl,h1,h2,h3,h4,h5⟩
 exact⟨x,[],[],rfl,rfl,by simp,by simp,⟨rfl,rfl,hx⟩,fun j p cs L hj=>by simp at hj,⟨h1,h2,h3,h4,fun b hb _=>h5 b hb,fun j b off n hj=>by simp at hj⟩⟩
def pG_slices_Sort_int (l:List Int):Option (List Int):=gd (l.length<4611686018427387904) (some (l.mergeSort fun x y=>decide (x≤y)))
def o168 (fuel:Nat):Orc:=⟨168,[none],[.own .int 99],101,.one (.own .int 99),fun v=>pG_slices_Sort_int v⟩
theorem sort_calls (v r:List Int) (hr:pG_slices_Sort_int v=some r):PCalls Tryz.prog G E 168 [.row true .int v] [] (.gb (.tup []) [.row true .int r]) []:=by
 unfold pG_slices_Sort_int at hr
 obtain⟨hlen,hr⟩:=gd_some hr
 cases hr
 refine⟨rfl,fun w S us locs La Le hG hE hl1 hl2 hnd hF0 hS hargs hext=> ?_⟩
 obtain rfl:locs=[]:=List.eq_nil_of_length_eq_zero hl1
 obtain rfl:Le=[]:=List.eq_nil_of_length_eq_zero hl2
 match us,hargs with
 | [u],⟨L1,L2,e,h1,h2⟩=>
 have h2:L2=[]:=h2
 subst h2
 rw[List.append_nil]at e
 subst e
 have h1:Own S w .int u v La:=h1
 refine Arrive.of (fn:=Tryz.f168) (by kernel_rfl) (by kernel_rfl) rfl ?_
 rcases h1 with⟨rfl,rfl,rfl⟩ |⟨b,cap,cur,rfl,rfl,hlt,hrow,hcap,hmax,hsz,hcont⟩
 ·refine Calls.mono (Any.slices_Sort_int_none Go.Proofs.YtoinimaobnbimaaGreatDoor.Tryz.laysSort none 0 w) ?_
  rintro e w' ⟨rfl,rfl⟩
  refine⟨.tuple #[],[],[],rfl,rfl,by simp,by simp,⟨[],[],rfl,⟨#[],rfl,rfl⟩,[],[],rfl,.inl ⟨rfl,?_,rfl⟩,rfl⟩,fun j p cs L hj=>by simp at hj,⟨rfl,rfl,rfl,Nat.le_refl _,fun _ _ _=>rfl,fun j b off n hj=>by simp at hj⟩⟩
  simp
 ·have hbl:b<w.heap.size:=hrow.lt
  have hH:Holds (Value.int .i64) w b 0 v.toArray:=fun j hj=>by
   have hj':j<v.length:=by simpa using hj
   obtain⟨u,hu,hl⟩:=hcont j v[j] (qE1 hj') 0 (.sc (.int .i64 v[j])) rfl
   have e1:j*size .int+0=j:=by show j*1+0=j;omega
   rw[e1]at hu
   have hlu:u= .int .i64 v[j]:=hl.1
   subst hlu
   have hjs:j<cur.size:=(Array.getElem?_eq_some_iff.1 hu).1
   rw[Nat.zero_add]
   refine⟨?_,hrow.frozen hjs⟩
   have hu:cur[j]?=some (.int .i64 v[j]):=hu
   rw[hrow.cell,hu]
   simp[hj']
  refine Calls.mono (Any.slices_Sort_int Go.Proofs.YtoinimaobnbimaaGreatDoor.Tryz.laysSort b 0 cap v w hH hbl hlen) ?_
  rintro e w' ⟨rfl,n,os,rfl⟩
  obtain⟨fz,hheap,hice⟩:=hrow
  have hnew:=heap_sortedI (w:=w) (n:=n) (os:=os) (v.mergeSort fun x y=>decide (x≤y)).toArray hheap
  have hgr:=grownBy_sortedI (w:=w) (g:=b) (n:=n) (os:=os) (v.mergeSort fun x y=>decide (x≤y)).toArray
  obtain⟨g1,g2,g3,g4,g5⟩:=hgr
  have hml:(v.mergeSort fun x y=>decide (x≤y)).length=v.length:=List.length_mergeSort ..
  have hcs:(putCells (Value.int .i64) 0 (v.mergeSort fun x y=>decide (x≤y)).toArray cur).size=cur.size:=by simp[putCells]
  have hcz:cur.size=cap:=by rw[hsz];show cap*1=cap;omega
  refine⟨.tuple #[],[b],[],rfl,rfl,by simp,fun x hx=> ?_,⟨[],[b],rfl,⟨#[],rfl,rfl⟩,[b],[],rfl,.inr ⟨b,cap,_,?_,rfl,by rw[hml];exact hlt,⟨fz,hnew,by rw[hcs];exact hice⟩,by rw[hml];exact hcap,hmax,by rw[hcs];exact hsz,?_⟩,rfl⟩,fun j p cs L hj=>by simp at hj,⟨g1,g2,g3,g4,fun x hx hn=>g5 x hx fun e=>hn (by cases e;simp),fun j b off n hj=>by simp at hj⟩⟩
  ·have hx:x=b:=by simpa using hx
   subst hx
   exact⟨.inl (by simp),Nat.lt_of_lt_of_le hbl g4⟩
  ·rw[hml]
  ·intro i x hx j lf hlf
   have hi:i<v.length:=by have:=(qS1.1 hx).1;rwa[hml]at this
   have hj:j=0:=by
    have:=(qS1.1 hlf).1
    rw[leaves_len]at this
    have e:size K.int=1:=rfl
    omega
   subst hj
   have hlf:lf= .sc (.int .i64 x):=by
    have:(leaves (k:= .int) x)[0]?=some (.sc (.int .i64 x)):=rfl
    rw[this]at hlf;exact(Option.some.inj hlf).symm
   subst hlf
   have htk:=take_putCellsI cur (v.mergeSort fun x y=>decide (x≤y)) (by rw[hml,hcz];exact hcap)
   have e1:i*size .int+0=i:=by show i*1+0=i;omega
   refine⟨.int .i64 x,?_,rfl,?_⟩
   ·show(putCells (Value.int .i64) 0 (v.mergeSort fun x y=>decide (x≤y)).toArray cur)[i*size K.int+0]?=_
    rw[e1,←Array.getElem?_toList]
    have h3:((putCells (Value.int .i64) 0 (v.mergeSort fun x y=>decide (x≤y)).toArray cur).toList.take (v.mergeSort fun x y=>decide (x≤y)).length)[i]?=some (.int .i64 x):=by
     rw[htk,List.getElem?_map,hx];rfl
    rw[List.getElem?_take_of_lt (by rw[hml];exact hi)]at h3
    exact h3
   ·have hxm:x∈v:=List.mem_mergeSort.1 (qM1 hx)
    obtain⟨m,hm⟩:=List.getElem?_of_mem hxm
    obtain⟨u,_,hl⟩:=hcont m x hm 0 (.sc (.int .i64 x)) rfl
    exact hl.2
theorem c168 (hcl:Cl G E) (fuel:Nat):Ctr Tryz.prog G E (o168 fuel):=fun v r hr=>sort_calls v r hr
def pG_strings_IndexByte (s:ByteArray) (c:Int):Option Int:=gd (s.size≤9223372036854775807) (some (Lib.indexByte s.data.toList (UInt8.ofNat c.toNat)))
def o191 (fuel:Nat):Orc:=⟨191,[none,none],[.S,.I .u8],0,.one (.I .i64),fun v=>pG_strings_IndexByte v.1 v.2⟩
theorem indexByte_le (c:UInt8):∀l:List UInt8,-1≤Lib.indexByte l c∧Lib.indexByte l c≤l.length
 | []=>by unfold Lib.indexByte;simp
 | b::l=>by
  have:=indexByte_le c l
  unfold Lib.indexByte
  split
  ·simp;omega
  ·split
   ·simp;omega
   ·simp;omega
theorem indexByte_calls (s:ByteArray) (c r:Int) (hr:pG_strings_IndexByte s c=some r):PCalls Tryz.prog G E 191 [.v (.string s),.v (.int .u8 c)] [] (.v (.int .i64 r)) []:=by
 unfold pG_strings_IndexByte at hr
 obtain⟨h2,hr⟩:=gd_some hr
 cases hr
 have hl:s.data.toList.length=s.size:=Array.length_toList
 have hb:=indexByte_le (UInt8.ofNat c.toNat) s.data.toList
 refine PCalls.libV (vs:=[.string s,.int .u8 c]) (fn:=Tryz.f191) (by kernel_rfl) (by kernel_rfl) rfl ((wrap_iff .i64 _).2 (by simp[loK,hiK];omega)) fun w hE=> ?_
 refine Calls.mono (Any.strings_IndexByte Go.Proofs.YtoinimaobnbimaaGreatDoor.Tryz.laysIndexByte s c w) ?_
 rintro e w' ⟨rfl,rfl⟩
 exact⟨rfl,Below.refl _ _⟩
theorem c191 (hcl:Cl G E) (fuel:Nat):Ctr Tryz.prog G E (o191 fuel):=fun v r hr=>indexByte_calls v.1 v.2 r hr
def pG_strconv_Itoa (n:Int):Option ByteArray:=gd (0≤n∧n≤4294967295) (some ⟨(Lib.decDigits n.toNat).toArray⟩)
def o141 (fuel:Nat):Orc:=⟨141,[none],[.I .i64],0,.one .S,fun v=>pG_strconv_Itoa v⟩
theorem dec_small {u:Nat} (h:u<10):Lib.decDigits u=[UInt8.ofNat (48+u)]:=by rw[Lib.decDigits,dif_pos h]
theorem dec_big {u:Nat} (h:¬u<10):Lib.decDigits u=Lib.decDigits (u / 10)++ [UInt8.ofNat (48+u % 10)]:=by rw[Lib.decDigits,dif_neg h]
theorem dec_len:∀(k u:Nat),u<10 ^ (k+1)→(Lib.decDigits u).length≤k+1
 | 0,u,h=>by rw[dec_small (by omega)];simp
 | k+1,u,h=>by
  by_cases h1:u<10
  ·rw[dec_small h1];simp
  ·rw[dec_big h1]
   have:=dec_len k (u / 10) (by rw[Nat.pow_succ]at h;omega)
   simp;omega
theorem itoa_calls (hcl:Cl G E) (v:Int) (r:ByteArray) (hr:pG_strconv_Itoa v=some r):PCalls Tryz.prog G E 141 [.v (.int .i64 v)] [] (.v (.string r)) []:=by
 unfold pG_strconv_Itoa at hr
 obtain⟨⟨h0,h1⟩,hr⟩:=gd_some hr
 cases hr
 have hs:(Lib.decDigits v.toNat).length≤10:=dec_len 9 _ (by omega)
 refine PCalls.libV (vs:=[.int .i64 v]) (x:= .string ⟨(Lib.decDigits v.toNat).toArray⟩) (fn:=Tryz.f141) (by kernel_rfl) (by kernel_rfl) rfl (by show(Lib.decDigits v.toNat).toArray.size≤_;simp;omega) fun w hE=> ?_
 refine Calls.mono (Any.strconv_Itoa Go.Proofs.YtoinimaobnbimaaGreatDoor.Tryz.laysItoa v (by omega) (by omega) w (hcl.tab w hE)) ?_
 rintro e w' ⟨rfl,k,os,rfl⟩
 refine⟨by simp[Lib.itoa,show¬v<0 from by omega],⟨rfl,rfl,rfl,by simp,fun b hb=>Sort.heap_grow_old (w.drewN k) os hb⟩⟩
theorem c141 (hcl:Cl G E) (fuel:Nat):Ctr Tryz.prog G E (o141 fuel):=fun v r hr=>itoa_calls hcl v r hr
end
open Go.Proofs
abbrev Lp (V O:Type):=V→Option (V⊕O)
noncomputable section
def pL_szIntS (m:Nat) (a1:List Int) (a2:Int):Option Int:=
 gd (inK .i64 (a2-(↑a1.length:Int))) <|
 br (decide (a2-(↑a1.length:Int)<0)) (
 some (-1)) <|
 some (a2-(↑a1.length:Int))
def o101 (m:Nat):Orc:=⟨101,[none,none],[.row .int,.I .i64],0,(.one (.I .i64)),fun v=>pL_szIntS m v.1 v.2⟩
theorem c101:CC o101:=mq cn tn Tryz.f101
def pL_szByteS (m:Nat) (a1:List UInt8) (a2:Int):Option Int:=
 gd (inK .i64 (a2-(↑a1.length:Int))) <|
 br (decide (a2-(↑a1.length:Int)<0)) (
 some (-1)) <|
 some (a2-(↑a1.length:Int))
def o180 (m:Nat):Orc:=⟨180,[none,none],[.row .u8,.I .i64],0,(.one (.I .i64)),fun v=>pL_szByteS m v.1 v.2⟩
theorem c180:CC o180:=mq cn tn Tryz.f180
def pL_szVp (m:Nat) (a1:LVp) (a2:Int):Option Int:=
 bd (pL_szIntS m a1.Args a2) fun x3=>
 br (decide (x3<0)) (
 some (-1)) <|
 bd (pL_szByteS m a1.Part x3) fun x4=>
 br (decide (x4<0)) (
 some (-1)) <|
 some x4
def o149 (m:Nat):Orc:=⟨149,[none,none],[.st .lVp [],.I .i64],0,(.one (.I .i64)),fun v=>pL_szVp m v.1 v.2⟩
theorem c149:CC o149:=mq (cs c101 (cs c180 cn)) tn Tryz.f149
def pL_szCellS (m:Nat) (a1:List LCell) (a2:Int):Option Int:=
 gd (inK .i64 (a2-(↑a1.length:Int))) <|
 br (decide (a2-(↑a1.length:Int)<0)) (
 some (-1)) <|
 some (a2-(↑a1.length:Int))
def o199 (m:Nat):Orc:=⟨199,[none,none],[.row .lCell,.I .i64],0,(.one (.I .i64)),fun v=>pL_szCellS m v.1 v.2⟩
theorem c199:CC o199:=mq cn tn Tryz.f199
def pL_szGrid (m:Nat) (a1:LGrid) (a2:Int):Option Int:=
 bd (pL_szCellS m a1.Cells a2) fun x3=>
 br (decide (x3<0)) (
 some (-1)) <|
 some x3
def o181 (m:Nat):Orc:=⟨181,[none,none],[.st .lGrid [],.I .i64],0,(.one (.I .i64)),fun v=>pL_szGrid m v.1 v.2⟩
theorem c181:CC o181:=mq (cs c199 cn) tn Tryz.f181
def pL_szRow (m:Nat) (a1:LRow) (a2:Int):Option Int:=
 bd (pL_szCellS m a1.Cells a2) fun x3=>
 br (decide (x3<0)) (
 some (-1)) <|
 some x3
def o200 (m:Nat):Orc:=⟨200,[none,none],[.st .lRow [],.I .i64],0,(.one (.I .i64)),fun v=>pL_szRow m v.1 v.2⟩
theorem c200:CC o200:=mq (cs c199 cn) tn Tryz.f200
def T182:Tab:=⟨[],[],[(5,true,⟨[],[.sl 0 (.row .lRow),.sl 1 (.I .i64),.sl 5 (.I .i64)]⟩,0,⟨[],[.sl 1 (.I .i64)]⟩)]⟩
def pL_szRowS_b1 (m:Nat):Lp (List LRow×Int×Int) (Int⊕Int):=fun(v5,v6,v7)=>
 br (decide (v7<(↑v5.length:Int))) (
 gd (0≤v7∧v7<(↑v5.length:Int)) <|
 bd v5[v7.toNat]? fun x8=>
 bd (pL_szRow m x8 v6) fun x9=>
 br (decide (x9<0)) (
 some (.inr (.inr (-1)))) <|
 some (.inl (v5,x9,IntKind.i64.wrap (v7+1)))) <|
 some (.inr (.inl v6))
def pL_szRowS (m:Nat) (a1:List LRow) (a2:Int):Option Int:=
 gd (inK .i64 (a2-(↑a1.length:Int))) <|
 br (decide (a2-(↑a1.length:Int)<0)) (
 some (-1)) <|
 jn (V:=Int) (
 loopF (pL_szRowS_b1 m) m (a1,a2-(↑a1.length:Int),0)) fun v4=>
 some v4
def o182 (m:Nat):Orc:=⟨182,[none,none],[.row .lRow,.I .i64],0,(.one (.I .i64)),fun v=>pL_szRowS m v.1 v.2⟩
theorem c182:CC o182:=mq (cs c200 cn) T182 Tryz.f182
def pL_szScr (m:Nat) (a1:LScr) (a2:Int):Option Int:=
 bd (pL_szGrid m a1.Main a2) fun x3=>
 br (decide (x3<0)) (
 some (-1)) <|
 bd (pL_szGrid m a1.Alt x3) fun x4=>
 br (decide (x4<0)) (
 some (-1)) <|
 bd (pL_szIntS m a1.Tabs x4) fun x5=>
 br (decide (x5<0)) (
 some (-1)) <|
 bd (pL_szRowS m a1.Back x5) fun x6=>
 br (decide (x6<0)) (
 some (-1)) <|
 some x6
def o150 (m:Nat):Orc:=⟨150,[none,none],[.st .lScr [],.I .i64],0,(.one (.I .i64)),fun v=>pL_szScr m v.1 v.2⟩
theorem c150:CC o150:=mq (cs c181 (cs c101 (cs c182 cn))) tn Tryz.f150
def pL_szTerm (m:Nat) (a1:LTerm) (a2:Int):Option Int:=
 bd (pL_szVp m a1.P a2) fun x3=>
 br (decide (x3<0)) (
 some (-1)) <|
 bd (pL_szScr m a1.S x3) fun x4=>
 br (decide (x4<0)) (
 some (-1)) <|
 some x4
def o99 (m:Nat):Orc:=⟨99,[none,none],[.st .lTerm [],.I .i64],0,(.one (.I .i64)),fun v=>pL_szTerm m v.1 v.2⟩
theorem c99:CC o99:=mq (cs c149 (cs c150 cn)) tn Tryz.f99
def pL_szPane (m:Nat) (a1:LPane) (a2:Int):Option Int:=
 gd (inK .i64 (a2-(↑a1.Cmd.size:Int))) <|
 br (decide (a2-(↑a1.Cmd.size:Int)<0)) (
 some (-1)) <|
 gd (inK .i64 (a2-(↑a1.Cmd.size:Int)-(↑a1.Dir.size:Int))) <|
 br (decide (a2-(↑a1.Cmd.size:Int)-(↑a1.Dir.size:Int)<0)) (
 some (-1)) <|
 bd (pL_szTerm m a1.Term (a2-(↑a1.Cmd.size:Int)-(↑a1.Dir.size:Int))) fun x3=>
 br (decide (x3<0)) (
 some (-1)) <|
 some x3
def o49 (m:Nat):Orc:=⟨49,[none,none],[.st .lPane [],.I .i64],0,(.one (.I .i64)),fun v=>pL_szPane m v.1 v.2⟩
theorem c49:CC o49:=mq (cs c99 cn) tn Tryz.f49
def T13:Tab:=⟨[],[],[(5,true,⟨[],[.sl 0 (.row .lPane),.sl 1 (.I .i64),.sl 5 (.I .i64)]⟩,0,⟨[],[.sl 1 (.I .i64)]⟩)]⟩
def pL_szPaneS_b1 (m:Nat):Lp (List LPane×Int×Int) (Int⊕Int):=fun(v5,v6,v7)=>
 br (decide (v7<(↑v5.length:Int))) (
 gd (0≤v7∧v7<(↑v5.length:Int)) <|
 bd v5[v7.toNat]? fun x8=>
 bd (pL_szPane m x8 v6) fun x9=>
 br (decide (x9<0)) (
 some (.inr (.inr (-1)))) <|
 some (.inl (v5,x9,IntKind.i64.wrap (v7+1)))) <|
 some (.inr (.inl v6))
def pL_szPaneS (m:Nat) (a1:List LPane) (a2:Int):Option Int:=
 gd (inK .i64 (a2-(↑a1.length:Int))) <|
 br (decide (a2-(↑a1.length:Int)<0)) (
 some (-1)) <|
 jn (V:=Int) (
 loopF (pL_szPaneS_b1 m) m (a1,a2-(↑a1.length:Int),0)) fun v4=>
 some v4
def o13 (m:Nat):Orc:=⟨13,[none,none],[.row .lPane,.I .i64],0,(.one (.I .i64)),fun v=>pL_szPaneS m v.1 v.2⟩
theorem c13:CC o13:=mq (cs c49 cn) T13 Tryz.f13
def pL_szNodeS (m:Nat) (a1:List LNode) (a2:Int):Option Int:=
 gd (inK .i64 (a2-(↑a1.length:Int))) <|
 br (decide (a2-(↑a1.length:Int)<0)) (
 some (-1)) <|
 some (a2-(↑a1.length:Int))
def o100 (m:Nat):Orc:=⟨100,[none,none],[.row .lNode,.I .i64],0,(.one (.I .i64)),fun v=>pL_szNodeS m v.1 v.2⟩
theorem c100:CC o100:=mq cn tn Tryz.f100
def pL_szWin (m:Nat) (a1:LWin) (a2:Int):Option Int:=
 gd (inK .i64 (a2-(↑a1.Name.size:Int))) <|
 br (decide (a2-(↑a1.Name.size:Int)<0)) (
 some (-1)) <|
 bd (pL_szNodeS m a1.Tree (a2-(↑a1.Name.size:Int))) fun x3=>
 br (decide (x3<0)) (
 some (-1)) <|
 some x3
def o50 (m:Nat):Orc:=⟨50,[none,none],[.st .lWin [],.I .i64],0,(.one (.I .i64)),fun v=>pL_szWin m v.1 v.2⟩
theorem c50:CC o50:=mq (cs c100 cn) tn Tryz.f50
def T14:Tab:=⟨[],[],[(5,true,⟨[],[.sl 0 (.row .lWin),.sl 1 (.I .i64),.sl 5 (.I .i64)]⟩,0,⟨[],[.sl 1 (.I .i64)]⟩)]⟩
def pL_szWinS_b1 (m:Nat):Lp (List LWin×Int×Int) (Int⊕Int):=fun(v5,v6,v7)=>
 br (decide (v7<(↑v5.length:Int))) (
 gd (0≤v7∧v7<(↑v5.length:Int)) <|
 bd v5[v7.toNat]? fun x8=>
 bd (pL_szWin m x8 v6) fun x9=>
 br (decide (x9<0)) (
 some (.inr (.inr (-1)))) <|
 some (.inl (v5,x9,IntKind.i64.wrap (v7+1)))) <|
 some (.inr (.inl v6))
def pL_szWinS (m:Nat) (a1:List LWin) (a2:Int):Option Int:=
 gd (inK .i64 (a2-(↑a1.length:Int))) <|
 br (decide (a2-(↑a1.length:Int)<0)) (
 some (-1)) <|
 jn (V:=Int) (
 loopF (pL_szWinS_b1 m) m (a1,a2-(↑a1.length:Int),0)) fun v4=>
 some v4
def o14 (m:Nat):Orc:=⟨14,[none,none],[.row .lWin,.I .i64],0,(.one (.I .i64)),fun v=>pL_szWinS m v.1 v.2⟩
theorem c14:CC o14:=mq (cs c50 cn) T14 Tryz.f14
def pL_szSess (m:Nat) (a1:LSess) (a2:Int):Option Int:=
 gd (inK .i64 (a2-(↑a1.Name.size:Int))) <|
 br (decide (a2-(↑a1.Name.size:Int)<0)) (
 some (-1)) <|
 bd (pL_szIntS m a1.Wins (a2-(↑a1.Name.size:Int))) fun x3=>
 br (decide (x3<0)) (
 some (-1)) <|
 some x3
def o51 (m:Nat):Orc:=⟨51,[none,none],[.st .lSess [],.I .i64],0,(.one (.I .i64)),fun v=>pL_szSess m v.1 v.2⟩
theorem c51:CC o51:=mq (cs c101 cn) tn Tryz.f51
def T15:Tab:=⟨[],[],[(5,true,⟨[],[.sl 0 (.row .lSess),.sl 1 (.I .i64),.sl 5 (.I .i64)]⟩,0,⟨[],[.sl 1 (.I .i64)]⟩)]⟩
def pL_szSessS_b1 (m:Nat):Lp (List LSess×Int×Int) (Int⊕Int):=fun(v5,v6,v7)=>
 br (decide (v7<(↑v5.length:Int))) (
 gd (0≤v7∧v7<(↑v5.length:Int)) <|
 bd v5[v7.toNat]? fun x8=>
 bd (pL_szSess m x8 v6) fun x9=>
 br (decide (x9<0)) (
 some (.inr (.inr (-1)))) <|
 some (.inl (v5,x9,IntKind.i64.wrap (v7+1)))) <|
 some (.inr (.inl v6))
def pL_szSessS (m:Nat) (a1:List LSess) (a2:Int):Option Int:=
 gd (inK .i64 (a2-(↑a1.length:Int))) <|
 br (decide (a2-(↑a1.length:Int)<0)) (
 some (-1)) <|
 jn (V:=Int) (
 loopF (pL_szSessS_b1 m) m (a1,a2-(↑a1.length:Int),0)) fun v4=>
 some v4
def o15 (m:Nat):Orc:=⟨15,[none,none],[.row .lSess,.I .i64],0,(.one (.I .i64)),fun v=>pL_szSessS m v.1 v.2⟩
theorem c15:CC o15:=mq (cs c51 cn) T15 Tryz.f15
def pL_szState (m:Nat) (a1:LState) (a2:Int):Option Int:=
 bd (pL_szPaneS m a1.Panes a2) fun x3=>
 br (decide (x3<0)) (
 some (-1)) <|
 bd (pL_szWinS m a1.Wins x3) fun x4=>
 br (decide (x4<0)) (
 some (-1)) <|
 bd (pL_szSessS m a1.Sess x4) fun x5=>
 br (decide (x5<0)) (
 some (-1)) <|
 some x5
def o4 (m:Nat):Orc:=⟨4,[none,none],[.st .lState [],.I .i64],0,(.one (.I .i64)),fun v=>pL_szState m v.1 v.2⟩
theorem c4:CC o4:=mq (cs c13 (cs c14 (cs c15 cn))) tn Tryz.f4
def pS_l07Blank (m:Nat):Option ICell:=
 some (ICell.mk 32 (IAttr.mk 0 0 false false false))
def o52 (m:Nat):Orc:=⟨52,[],[],0,(.one (.st .iCell [])),fun v=>pS_l07Blank m⟩
theorem c52:CC o52:=mq cn tn Tryz.f52
def T16:Tab:=⟨[(1,⟨[(4,.ptr 500 0)],[.sto 500 .iGrid [(2,50000001)],.sl 0 (.I .i64),.sl 1 (.I .i64),.sl 27 .B]⟩)],[],[(5,false,⟨[(4,.ptr 500 0),(6,.ptr 700 0)],[.sto 500 .iGrid [(2,50000001)],.sto 700 .iGrid [(2,50000002)],.sl 0 (.I .i64),.sl 1 (.I .i64),.sl 7 (.I .i64)]⟩,0,⟨[(4,.ptr 500 0),(6,.ptr 700 0)],[.sto 500 .iGrid [(2,50000001)],.sto 700 .iGrid [(2,50000002)]]⟩)]⟩
def pS_GridNew_b1 (m:Nat):Lp (IGrid×IGrid×Int×Int×Int) (IGrid×IGrid):=fun(v10,v11,v12,v13,v14)=>
 gd (inK .i64 (v12*v13)) <|
 br (decide (v14<v12*v13)) (
 bd (pS_l07Blank m) fun x15=>
 gd (roomB .iCell (v11.Cells++ [x15]).length) <|
 gd (inK .i64 (v14+1)) <|
 some (.inl (v10,IGrid.mk v11.W v11.H (v11.Cells++ [x15]),v12,v13,v14+1))) <|
 some (.inr (v10,v11))
def pS_GridNew (m:Nat) (a1:Int) (a2:Int):Option (IGrid×Bool):=
 bd (α:=IGrid×Int×Int×Bool) (
 br (decide (a1<1)) (
 some (IGrid.mk 0 0 [],a1,a2,true)) <|
 br (decide (120<a1)) (
 some (IGrid.mk 0 0 [],a1,a2,true)) <|
 br (decide (a2<1)) (
 some (IGrid.mk 0 0 [],a1,a2,true)) <|
 br (decide (120<a2)) (
 some (IGrid.mk 0 0 [],a1,a2,true)) <|
 gd (inK .i64 (a1*a2)) <|
 some (IGrid.mk 0 0 [],a1,a2,decide (4000<a1*a2))) fun(x3,x4,x5,x6)=>
 br x6 (
 some (IGrid.mk 0 0 [],false)) <|
 bd (α:=IGrid×IGrid) (
 loopF (pS_GridNew_b1 m) m (x3,IGrid.mk x4 x5 [],x4,x5,0)) fun(x8,x9)=>
 some (x9,true)
def o16 (m:Nat):Orc:=⟨16,[none,none],[.I .i64,.I .i64],0,(.tup [.st .iGrid [(2,99)],.B]),fun v=>pS_GridNew m v.1 v.2⟩
theorem c16:CC o16:=mq (cs c52 cn) T16 Tryz.f16
def T17:Tab:=⟨[],[],[(2,true,⟨[],[.sl 1 .S,.sl 8 (.row .iSess),.sl 9 (.I .i64),.sl 10 (.I .i64)]⟩,0,⟨[],[]⟩)]⟩
def pS_SessAt_b1 (m:Nat):Lp (ByteArray×List ISess×Int×Int) (Unit⊕Int):=fun(v4,v5,v6,v7)=>
 br (decide (v7<v6)) (
 gd (0≤v7∧v7<(↑v5.length:Int)) <|
 bd v5[v7.toNat]? fun x8=>
 br (decide (x8.Name=v4)) (
 some (.inr (.inr v7))) <|
 gd (inK .i64 (v7+1)) <|
 some (.inl (v4,v5,v6,v7+1))) <|
 some (.inr (.inl ()))
def pS_SessAt (m:Nat) (a1:IState) (a2:ByteArray):Option Int:=
 jn (V:=Unit) (
 loopF (pS_SessAt_b1 m) m (a2,a1.Sess,(↑a1.Sess.length:Int),0)) fun _=>
 some (-1)
def o17 (m:Nat):Orc:=⟨17,[none,none],[.st .iState [],.S],0,(.one (.I .i64)),fun v=>pS_SessAt m v.1 v.2⟩
theorem c17:CC o17:=mq cn T17 Tryz.f17
def T23:Tab:=⟨[],[],[(2,true,⟨[],[.sl 1 (.I .i64),.sl 8 (.row .iPane),.sl 9 (.I .i64),.sl 10 (.I .i64)]⟩,0,⟨[],[]⟩)]⟩
def pS_PaneAt_b1 (m:Nat):Lp (Int×List IPane×Int×Int) (Unit⊕Int):=fun(v4,v5,v6,v7)=>
 br (decide (v7<v6)) (
 gd (0≤v7∧v7<(↑v5.length:Int)) <|
 bd v5[v7.toNat]? fun x8=>
 br (x8.Id==v4) (
 some (.inr (.inr v7))) <|
 gd (inK .i64 (v7+1)) <|
 some (.inl (v4,v5,v6,v7+1))) <|
 some (.inr (.inl ()))
def pS_PaneAt (m:Nat) (a1:IState) (a2:Int):Option Int:=
 jn (V:=Unit) (
 loopF (pS_PaneAt_b1 m) m (a2,a1.Panes,(↑a1.Panes.length:Int),0)) fun _=>
 some (-1)
def o23 (m:Nat):Orc:=⟨23,[none,none],[.st .iState [],.I .i64],0,(.one (.I .i64)),fun v=>pS_PaneAt m v.1 v.2⟩
theorem c23:CC o23:=mq cn T23 Tryz.f23
def T103:Tab:=⟨[],[],[(2,true,⟨[],[.sl 1 (.I .i64),.sl 7 (.row .int),.sl 8 (.I .i64),.sl 9 (.I .i64)]⟩,0,⟨[],[]⟩)]⟩
def pS_l02HasInt_b1 (m:Nat):Lp (Int×List Int×Int×Int) (Unit⊕Bool):=fun(v4,v5,v6,v7)=>
 br (decide (v7<v6)) (
 gd (0≤v7∧v7<(↑v5.length:Int)) <|
 bd v5[v7.toNat]? fun x8=>
 br (x8==v4) (
 some (.inr (.inr true))) <|
 gd (inK .i64 (v7+1)) <|
 some (.inl (v4,v5,v6,v7+1))) <|
 some (.inr (.inl ()))
def pS_l02HasInt (m:Nat) (a1:List Int) (a2:Int):Option Bool:=
 jn (V:=Unit) (
 loopF (pS_l02HasInt_b1 m) m (a2,a1,(↑a1.length:Int),0)) fun _=>
 some false
def o103 (m:Nat):Orc:=⟨103,[none,none],[.row .int,.I .i64],0,(.one .B),fun v=>pS_l02HasInt m v.1 v.2⟩
theorem c103:CC o103:=mq cn T103 Tryz.f103
def T114:Tab:=⟨[],[(8,false,⟨[],[.sl 0 (.row .iNode),.sl 5 (.I .i64),.sl 6 (.I .i64)]⟩)],[(3,true,⟨[],[.sl 0 (.row .iNode),.sl 5 (.I .i64),.sl 6 (.I .i64)]⟩,0,⟨[],[]⟩)]⟩
def pS_l13End_b1 (m:Nat):Lp (List INode×Int×Int) (Unit⊕Int):=fun(v4,v5,v6)=>
 br (decide (v6<(↑v4.length:Int))) (
 bd (α:=List INode×Int×Int) (
 gd (0≤v6∧v6<(↑v4.length:Int)) <|
 bd v4[v6.toNat]? fun x7=>
 br (x7.Pane==0) (
 gd (inK .i64 (v5+1)) <|
 some (v4,v5+1,v6)) <|
 gd (inK .i64 (v5-1)) <|
 some (v4,v5-1,v6)) fun(x8,x9,x10)=>
 br (x9==0) (
 gd (inK .i64 (x10+1)) <|
 some (.inr (.inr (x10+1)))) <|
 gd (inK .i64 (x10+1)) <|
 some (.inl (x8,x9,x10+1))) <|
 some (.inr (.inl ()))
def pS_l13End (m:Nat) (a1:List INode) (a2:Int):Option Int:=
 jn (V:=Unit) (
 loopF (pS_l13End_b1 m) m (a1,1,a2)) fun _=>
 some (-1)
def o114 (m:Nat):Orc:=⟨114,[none,none],[.row .iNode,.I .i64],0,(.one (.I .i64)),fun v=>pS_l13End m v.1 v.2⟩
theorem c114:CC o114:=mq cn T114 Tryz.f114
def T115:Tab:=⟨[(1,⟨[],[.sl 0 (.row .iNode),.sl 17 .B]⟩),(7,⟨[(5,.ptr 600 0)],[.sto 600 .iNode [],.sl 3 (.own .int 1900),.sl 6 .B,.sl 19 (.row .iNode),.sl 20 (.I .i64),.sl 21 (.I .i64)]⟩),(8,⟨[(5,.ptr 600 0)],[.sto 600 .iNode [],.sl 3 (.own .int 1900),.sl 6 .B,.sl 7 .B,.sl 19 (.row .iNode),.sl 20 (.I .i64),.sl 21 (.I .i64)]⟩),(9,⟨[(5,.ptr 600 0)],[.sto 600 .iNode [],.sl 3 (.own .int 1900),.sl 6 .B,.sl 19 (.row .iNode),.sl 20 (.I .i64),.sl 21 (.I .i64),.sl 70 .B]⟩)],[(13,true,⟨[],[.sl 3 (.own .int 1900),.sl 19 (.row .iNode),.sl 20 (.I .i64),.sl 21 (.I .i64)]⟩)],[(5,true,⟨[],[.sl 3 (.own .int 1900),.sl 19 (.row .iNode),.sl 20 (.I .i64),.sl 21 (.I .i64)]⟩,0,⟨[],[]⟩)]⟩
def pS_TreeOk_b1 (m:Nat):Lp (List Int×List INode×Int×Int) (Unit⊕Bool):=fun(v6,v7,v8,v9)=>
 br (decide (v9<v8)) (
 jn (V:=List Int×List INode×Int×Int) (
 gd (0≤v9∧v9<(↑v7.length:Int)) <|
 bd v7[v9.toNat]? fun x10=>
 bd (α:=INode×List Int×Bool×List INode×Int×Int) (
 br (decide (1≤x10.Pane)) (
 br (decide (x10.Pane≤1000000)) (
 br (!x10.Down) (
 some (x10,v6,x10.First==0,v7,v8,v9)) <|
 some (x10,v6,false,v7,v8,v9)) <|
 some (x10,v6,false,v7,v8,v9)) <|
 some (x10,v6,false,v7,v8,v9)) fun(x11,x12,x13,x14,x15,x16)=>
 bd (α:=INode×List Int×Bool×Bool×List INode×Int×Int) (
 br (x11.Pane==0) (
 br (decide (1≤x11.First)) (
 some (x11,x12,x13,decide (x11.First≤120),x14,x15,x16)) <|
 some (x11,x12,x13,false,x14,x15,x16)) <|
 some (x11,x12,x13,false,x14,x15,x16)) fun(x17,x18,x19,x20,x21,x22,x23)=>
 bd (α:=INode×List Int×Bool×List INode×Int×Int×Bool) (
 br (!x19) (
 br (!x20) (
 some (x17,x18,x19,x21,x22,x23,true)) <|
 br x19 (
 bd (pS_l02HasInt m x18 x17.Pane) fun x24=>
 some (x17,x18,x19,x21,x22,x23,x24)) <|
 some (x17,x18,x19,x21,x22,x23,false)) <|
 br x19 (
 bd (pS_l02HasInt m x18 x17.Pane) fun x25=>
 some (x17,x18,x19,x21,x22,x23,x25)) <|
 some (x17,x18,x19,x21,x22,x23,false)) fun(x26,x27,x28,x29,x30,x31,x32)=>
 br x32 (
 some (.inr (.inr (.inr false)))) <|
 br x28 (
 gd (roomB .int (x27++ [x26.Pane]).length) <|
 some (.inl (x27++ [x26.Pane],x29,x30,x31))) <|
 some (.inl (x27,x29,x30,x31))) fun(v33,v34,v35,v36)=>
 gd (inK .i64 (v36+1)) <|
 some (.inl (v33,v34,v35,v36+1))) <|
 some (.inr (.inl ()))
def pS_TreeOk (m:Nat) (a1:List INode):Option Bool:=
 bd (α:=List INode×Bool) (
 br (decide (31<(↑a1.length:Int))) (
 some (a1,true)) <|
 bd (pS_l13End m a1 0) fun x2=>
 some (a1,x2 !=(↑a1.length:Int))) fun(x3,x4)=>
 br x4 (
 some false) <|
 jn (V:=Unit) (
 loopF (pS_TreeOk_b1 m) m ([],x3,(↑x3.length:Int),0)) fun _=>
 some true
def o115 (m:Nat):Orc:=⟨115,[none],[.row .iNode],0,(.one .B),fun v=>pS_TreeOk m v⟩
theorem c115:CC o115:=mq (cs c114 (cs c103 cn)) T115 Tryz.f115
def pS_l13First (m:Nat) (a1:Int) (a2:Int):Option Int:=
 gd (inK .i64 (a2-2)) <|
 br (decide (a2-2<a1)) (
 gd (inK .i64 (a2-2)) <|
 some (a2-2)) <|
 some a1
def o112 (m:Nat):Orc:=⟨112,[none,none],[.I .i64,.I .i64],0,(.one (.I .i64)),fun v=>pS_l13First m v.1 v.2⟩
theorem c112:CC o112:=mq cn tn Tryz.f112
def T116:Tab:=⟨[(20,⟨[],[.sl 6 (.own .iRect 83000000),.sl 7 .B]⟩)],[(18,true,⟨[(9,.ptr 1000 0),(10,.ptr 1100 0)],[.sto 1000 .iRect [],.sto 1100 .iRect [],.sl 0 (.row .iNode),.sl 1 (.I .i64)]⟩)],[]⟩
def pS_l13Place (m:Nat) (slf:List INode×Int×IRect→Option (List IRect×Bool)):List INode×Int×IRect→Option (List IRect×Bool):=fun(a1,a2,a3)=>
 gd (0≤a2∧a2<(↑a1.length:Int)) <|
 bd a1[a2.toNat]? fun x4=>
 br (decide (0<x4.Pane)) (
 some ([IRect.mk x4.Pane a3.X a3.Y a3.W a3.H],true)) <|
 jn (V:=IRect×IRect×List INode×Int) (
 br x4.Down (
 br (decide (a3.H<3)) (
 some (.inr ([],false))) <|
 bd (pS_l13First m x4.First a3.H) fun x5=>
 gd (inK .i64 (a3.Y+x5)) <|
 gd (inK .i64 (a3.Y+x5+1)) <|
 gd (inK .i64 (a3.H-x5)) <|
 gd (inK .i64 (a3.H-x5-1)) <|
 some (.inl (IRect.mk a3.Pane a3.X a3.Y a3.W x5,IRect.mk a3.Pane a3.X (a3.Y+x5+1) a3.W (a3.H-x5-1),a1,a2))) <|
 br (decide (a3.W<3)) (
 some (.inr ([],false))) <|
 bd (pS_l13First m x4.First a3.W) fun x6=>
 gd (inK .i64 (a3.X+x6)) <|
 gd (inK .i64 (a3.X+x6+1)) <|
 gd (inK .i64 (a3.W-x6)) <|
 gd (inK .i64 (a3.W-x6-1)) <|
 some (.inl (IRect.mk a3.Pane a3.X a3.Y x6 a3.H,IRect.mk a3.Pane (a3.X+x6+1) a3.Y (a3.W-x6-1) a3.H,a1,a2))) fun(v7,v8,v9,v10)=>
 gd (inK .i64 (v10+1)) <|
 bd (slf (v9,v10+1,v7)) fun(x11,x12)=>
 gd (inK .i64 (v10+1)) <|
 bd (pS_l13End m v9 (v10+1)) fun x13=>
 bd (slf (v9,x13,v8)) fun(x14,x15)=>
 bd (α:=List IRect×Bool) (
 gd (roomB .iRect (x11++x14).length) <|
 br x12 (
 some (x11++x14,x15)) <|
 some (x11++x14,false)) fun(x16,x17)=>
 some (x16,x17)
def o116 (m:Nat):Orc:=⟨116,[none,none,none],[.row .iNode,.I .i64,.st .iRect []],0,(.tup [.own .iRect 99,.B]),recF (pS_l13Place m) m⟩
theorem c116 {G:Nat} {E:World→Prop} (hcl:Cl G E) (m:Nat):Ctr Tryz.prog G E (o116 m):=Ctr.rec (fun slf h=>Ctr.mk (o:=⟨116,[none,none,none],[.row .iNode,.I .i64,.st .iRect []],0,(.tup [.own .iRect 99,.B]),pS_l13Place m slf⟩) (csc h (csc (c112 hcl m) (csc (c114 hcl m) csn))) facts mixed hcl.cl T116 m (fn:=Tryz.f116) (by kernel_rfl) rfl (by kernel_rfl) (fun _=>by kernel_rfl) (fun _ _=>by kernel_rfl) (fun _=>by kernel_rfl)) m
def T61:Tab:=⟨[(1,⟨[],[.sl 0 (.row .iNode),.sl 1 (.I .i64),.sl 2 (.I .i64),.sl 28 .B]⟩)],[],[]⟩
def pS_Places (m:Nat) (a1:List INode) (a2:Int) (a3:Int):Option (List IRect×Bool):=
 bd (α:=List INode×Int×Int×Bool) (
 bd (pS_TreeOk m a1) fun x4=>
 br (!x4) (
 some (a1,a2,a3,true)) <|
 br (decide (a2<1)) (
 some (a1,a2,a3,true)) <|
 br (decide (120<a2)) (
 some (a1,a2,a3,true)) <|
 br (decide (a3<1)) (
 some (a1,a2,a3,true)) <|
 some (a1,a2,a3,decide (120<a3))) fun(x5,x6,x7,x8)=>
 br x8 (
 some ([],false)) <|
 bd (recF (pS_l13Place m) m (x5,0,IRect.mk 0 0 0 x6 x7)) fun(x9,x10)=>
 br (!x10) (
 some ([],false)) <|
 some (x9,true)
def o61 (m:Nat):Orc:=⟨61,[none,none,none],[.row .iNode,.I .i64,.I .i64],0,(.tup [.own .iRect 99,.B]),fun v=>pS_Places m v.1 v.2.1 v.2.2⟩
theorem c61:CC o61:=mq (cs c115 (cs c116 cn)) T61 Tryz.f61
def T102:Tab:=⟨[(4,⟨[],[.sl 0 .S,.sl 3 (.I .i64),.sl 31 .B]⟩),(6,⟨[],[.sl 2 .B]⟩)],[],[(2,true,⟨[],[.sl 0 .S,.sl 3 (.I .i64)]⟩,0,⟨[],[.sl 0 .S]⟩)]⟩
def pS_WordOk_b1 (m:Nat):Lp (ByteArray×Int) (ByteArray⊕Bool):=fun(v5,v6)=>
 br (decide (v6<(↑v5.size:Int))) (
 bd (α:=ByteArray×Int×Bool) (
 gd (0≤v6) <|
 bd v5[v6.toNat]? fun x7=>
 br (decide ((↑x7.toNat:Int)<97)) (
 gd (0≤v6) <|
 bd v5[v6.toNat]? fun x8=>
 br (decide ((↑x8.toNat:Int)<48)) (
 some (v5,v6,true)) <|
 gd (0≤v6) <|
 bd v5[v6.toNat]? fun x9=>
 some (v5,v6,decide (57<(↑x9.toNat:Int)))) <|
 gd (0≤v6) <|
 bd v5[v6.toNat]? fun x10=>
 br (decide (122<(↑x10.toNat:Int))) (
 gd (0≤v6) <|
 bd v5[v6.toNat]? fun x11=>
 br (decide ((↑x11.toNat:Int)<48)) (
 some (v5,v6,true)) <|
 gd (0≤v6) <|
 bd v5[v6.toNat]? fun x12=>
 some (v5,v6,decide (57<(↑x12.toNat:Int)))) <|
 some (v5,v6,false)) fun(x13,x14,x15)=>
 br x15 (
 some (.inr (.inr false))) <|
 gd (inK .i64 (x14+1)) <|
 some (.inl (x13,x14+1))) <|
 some (.inr (.inl v5))
def pS_WordOk (m:Nat) (a1:ByteArray):Option Bool:=
 jn (V:=ByteArray) (
 loopF (pS_WordOk_b1 m) m (a1,0)) fun v3=>
 bd (α:=Bool) (
 br (decide (1≤(↑v3.size:Int))) (
 some (decide ((↑v3.size:Int)≤12))) <|
 some false) fun x4=>
 some x4
def o102 (m:Nat):Orc:=⟨102,[none],[.S],0,(.one .B),fun v=>pS_WordOk m v⟩
theorem c102:CC o102:=mq cn T102 Tryz.f102
def T104:Tab:=⟨[],[(9,false,⟨[],[.sl 3 (.own .int 700),.sl 11 (.row .iNode),.sl 12 (.I .i64),.sl 13 (.I .i64)]⟩)],[(5,false,⟨[],[.sl 3 (.own .int 700),.sl 11 (.row .iNode),.sl 12 (.I .i64),.sl 13 (.I .i64)]⟩,0,⟨[],[.sl 3 (.own .int 700)]⟩)]⟩
def pS_Leaves_b1 (m:Nat):Lp (List Int×List INode×Int×Int) (List Int):=fun(v5,v6,v7,v8)=>
 br (decide (v8<v7)) (
 bd (α:=List Int×List INode×Int×Int) (
 gd (0≤v8∧v8<(↑v6.length:Int)) <|
 bd v6[v8.toNat]? fun x9=>
 br (decide (0<x9.Pane)) (
 gd (roomB .int (v5++ [x9.Pane]).length) <|
 some (v5++ [x9.Pane],v6,v7,v8)) <|
 some (v5,v6,v7,v8)) fun(x10,x11,x12,x13)=>
 gd (inK .i64 (x13+1)) <|
 some (.inl (x10,x11,x12,x13+1))) <|
 some (.inr v5)
def pS_Leaves (m:Nat) (a1:List INode):Option (List Int):=
 bd (pS_TreeOk m a1) fun x2=>
 br (!x2) (
 some []) <|
 bd (α:=List Int) (
 loopF (pS_Leaves_b1 m) m ([],a1,(↑a1.length:Int),0)) fun x4=>
 some x4
def o104 (m:Nat):Orc:=⟨104,[none],[.row .iNode],0,(.one (.own .int 99)),fun v=>pS_Leaves m v⟩
theorem c104:CC o104:=mq (cs c115 cn) T104 Tryz.f104
def T53:Tab:=⟨[(6,⟨[(1,.ptr 200 0),(5,.ptr 600 0)],[.sto 200 .iState [],.sto 600 .iWin [],.sl 3 (.own .int 1100),.sl 12 (.row .iWin),.sl 13 (.I .i64),.sl 14 (.I .i64),.sl 80 .B]⟩),(13,⟨[(1,.ptr 200 0),(87,.ref 1100)],[.sto 200 .iState [],.sl 3 (.own .int 1100),.sl 88 (.I .i64),.sl 89 (.I .i64),.sl 104 .B]⟩)],[],[(3,true,⟨[(1,.ptr 200 0)],[.sto 200 .iState [],.sl 3 (.own .int 1100),.sl 12 (.row .iWin),.sl 13 (.I .i64),.sl 14 (.I .i64)]⟩,0,⟨[(1,.ptr 200 0)],[.sto 200 .iState [],.sl 3 (.own .int 1100)]⟩),(11,true,⟨[(1,.ptr 200 0),(87,.ref 1100)],[.sto 200 .iState [],.sl 3 (.own .int 1100),.sl 88 (.I .i64),.sl 89 (.I .i64)]⟩,2,⟨[(1,.ptr 200 0)],[.sto 200 .iState [],.sl 3 (.own .int 1100)]⟩)]⟩
def pS_l14Wins_b2 (m:Nat):Lp (IState×List Int×Int×Int) (IState×List Int⊕Bool):=fun(v33,v34,v35,v36)=>
 br (decide (v36<v35)) (
 gd (0≤v36∧v36<(↑v34.length:Int)) <|
 bd (v34[0+v36.toNat]?) fun x37=>
 bd (α:=IState×List Int×Int×Int×Bool) (
 gd (0≤v36∧v36≤(↑v34.length:Int)) <|
 bd (pS_l02HasInt m (viewL false v34 (0+0) (v36.toNat-0)) x37) fun x38=>
 br x38 (
 some (v33,v34,v35,v36,true)) <|
 bd (pS_PaneAt m v33 x37) fun x39=>
 some (v33,v34,v35,v36,decide (x39<0))) fun(x40,x41,x42,x43,x44)=>
 br x44 (
 some (.inr (.inr false))) <|
 gd (inK .i64 (x43+1)) <|
 some (.inl (x40,x41,x42,x43+1))) <|
 some (.inr (.inl (v33,v34)))
def pS_l14Wins_b1 (m:Nat):Lp (IState×List Int×List IWin×Int×Int) (IState×List Int⊕Bool):=fun(v8,v9,v10,v11,v12)=>
 br (decide (v12<v11)) (
 gd (0≤v12∧v12<(↑v10.length:Int)) <|
 bd v10[v12.toNat]? fun x13=>
 bd (pS_Places m x13.Tree v8.W v8.H) fun(x14,x15)=>
 bd (α:=IState×IWin×List Int×List IWin×Int×Int×Bool) (
 br (!x15) (
 some (v8,x13,v9,v10,v11,v12,true)) <|
 br (decide (x13.Id<1)) (
 some (v8,x13,v9,v10,v11,v12,true)) <|
 br (decide (v8.Next≤x13.Id)) (
 some (v8,x13,v9,v10,v11,v12,true)) <|
 br (decide (0<v12)) (
 gd (inK .i64 (v12-1)) <|
 gd (0≤v12-1∧v12-1<(↑v8.Wins.length:Int)) <|
 bd (v8.Wins[(v12-1).toNat]?) fun x16=>
 br (decide (x13.Id≤x16.Id)) (
 some (v8,x13,v9,v10,v11,v12,true)) <|
 bd (pS_PaneAt m v8 x13.Id) fun x17=>
 br (decide (0≤x17)) (
 some (v8,x13,v9,v10,v11,v12,true)) <|
 bd (pS_WordOk m x13.Name) fun x18=>
 br (!x18) (
 some (v8,x13,v9,v10,v11,v12,true)) <|
 bd (pS_Leaves m x13.Tree) fun x19=>
 bd (pS_l02HasInt m x19 x13.Active) fun x20=>
 some (v8,x13,v9,v10,v11,v12,!x20)) <|
 bd (pS_PaneAt m v8 x13.Id) fun x21=>
 br (decide (0≤x21)) (
 some (v8,x13,v9,v10,v11,v12,true)) <|
 bd (pS_WordOk m x13.Name) fun x22=>
 br (!x22) (
 some (v8,x13,v9,v10,v11,v12,true)) <|
 bd (pS_Leaves m x13.Tree) fun x23=>
 bd (pS_l02HasInt m x23 x13.Active) fun x24=>
 some (v8,x13,v9,v10,v11,v12,!x24)) fun(x25,x26,x27,x28,x29,x30,x31)=>
 br x31 (
 some (.inr (.inr false))) <|
 bd (pS_Leaves m x26.Tree) fun x32=>
 gd (roomB .int (x27++x32).length) <|
 gd (inK .i64 (x30+1)) <|
 some (.inl (x25,x27++x32,x28,x29,x30+1))) <|
 some (.inr (.inl (v8,v9)))
def pS_l14Wins (m:Nat) (a1:IState):Option Bool:=
 jn (V:=IState×List Int) (
 loopF (pS_l14Wins_b1 m) m (a1,[],a1.Wins,(↑a1.Wins.length:Int),0)) fun(v3,v4)=>
 jn (V:=IState×List Int) (
 loopF (pS_l14Wins_b2 m) m (v3,v4,(↑v4.length:Int),0)) fun(v6,v7)=>
 some ((↑v7.length:Int)==(↑v6.Panes.length:Int))
def o53 (m:Nat):Orc:=⟨53,[none],[.st .iState []],0,(.one .B),fun v=>pS_l14Wins m v⟩
theorem c53:CC o53:=mq (cs c61 (cs c23 (cs c102 (cs c104 (cs c103 cn))))) T53 Tryz.f53
def T19:Tab:=⟨[],[],[(2,true,⟨[],[.sl 1 (.I .i64),.sl 8 (.row .iWin),.sl 9 (.I .i64),.sl 10 (.I .i64)]⟩,0,⟨[],[]⟩)]⟩
def pS_WinAt_b1 (m:Nat):Lp (Int×List IWin×Int×Int) (Unit⊕Int):=fun(v4,v5,v6,v7)=>
 br (decide (v7<v6)) (
 gd (0≤v7∧v7<(↑v5.length:Int)) <|
 bd v5[v7.toNat]? fun x8=>
 br (x8.Id==v4) (
 some (.inr (.inr v7))) <|
 gd (inK .i64 (v7+1)) <|
 some (.inl (v4,v5,v6,v7+1))) <|
 some (.inr (.inl ()))
def pS_WinAt (m:Nat) (a1:IState) (a2:Int):Option Int:=
 jn (V:=Unit) (
 loopF (pS_WinAt_b1 m) m (a2,a1.Wins,(↑a1.Wins.length:Int),0)) fun _=>
 some (-1)
def o19 (m:Nat):Orc:=⟨19,[none,none],[.st .iState [],.I .i64],0,(.one (.I .i64)),fun v=>pS_WinAt m v.1 v.2⟩
theorem c19:CC o19:=mq cn T19 Tryz.f19
def T54:Tab:=⟨[(5,⟨[(1,.ptr 200 0),(5,.ptr 600 0)],[.sto 200 .iState [],.sto 600 .iSess [],.sl 3 (.own .int 900),.sl 10 (.row .iSess),.sl 11 (.I .i64),.sl 12 (.I .i64),.sl 36 .B]⟩),(12,⟨[(1,.ptr 200 0),(42,.ref 900)],[.sto 200 .iState [],.sl 3 (.own .int 900),.sl 43 (.I .i64),.sl 44 (.I .i64),.sl 59 .B]⟩)],[],[(3,true,⟨[(1,.ptr 200 0)],[.sto 200 .iState [],.sl 3 (.own .int 900),.sl 10 (.row .iSess),.sl 11 (.I .i64),.sl 12 (.I .i64)]⟩,0,⟨[(1,.ptr 200 0)],[.sto 200 .iState [],.sl 3 (.own .int 900)]⟩),(10,true,⟨[(1,.ptr 200 0),(42,.ref 900)],[.sto 200 .iState [],.sl 3 (.own .int 900),.sl 43 (.I .i64),.sl 44 (.I .i64)]⟩,2,⟨[(1,.ptr 200 0)],[.sto 200 .iState [],.sl 3 (.own .int 900)]⟩)]⟩
def pS_l14Sess_b2 (m:Nat):Lp (IState×List Int×Int×Int) (IState×List Int⊕Bool):=fun(v24,v25,v26,v27)=>
 br (decide (v27<v26)) (
 gd (0≤v27∧v27<(↑v25.length:Int)) <|
 bd (v25[0+v27.toNat]?) fun x28=>
 bd (α:=IState×List Int×Int×Int×Bool) (
 gd (0≤v27∧v27≤(↑v25.length:Int)) <|
 bd (pS_l02HasInt m (viewL false v25 (0+0) (v27.toNat-0)) x28) fun x29=>
 br x29 (
 some (v24,v25,v26,v27,true)) <|
 bd (pS_WinAt m v24 x28) fun x30=>
 some (v24,v25,v26,v27,decide (x30<0))) fun(x31,x32,x33,x34,x35)=>
 br x35 (
 some (.inr (.inr false))) <|
 gd (inK .i64 (x34+1)) <|
 some (.inl (x31,x32,x33,x34+1))) <|
 some (.inr (.inl (v24,v25)))
def pS_l14Sess_b1 (m:Nat):Lp (IState×List Int×List ISess×Int×Int) (IState×List Int⊕Bool):=fun(v8,v9,v10,v11,v12)=>
 br (decide (v12<v11)) (
 gd (0≤v12∧v12<(↑v10.length:Int)) <|
 bd v10[v12.toNat]? fun x13=>
 bd (α:=IState×ISess×List Int×List ISess×Int×Int×Bool) (
 bd (pS_WordOk m x13.Name) fun x14=>
 br (!x14) (
 some (v8,x13,v9,v10,v11,v12,true)) <|
 bd (pS_SessAt m v8 x13.Name) fun x15=>
 br (x15 !=v12) (
 some (v8,x13,v9,v10,v11,v12,true)) <|
 bd (pS_l02HasInt m x13.Wins x13.Active) fun x16=>
 some (v8,x13,v9,v10,v11,v12,!x16)) fun(x17,x18,x19,x20,x21,x22,x23)=>
 br x23 (
 some (.inr (.inr false))) <|
 gd (roomB .int (x19++x18.Wins).length) <|
 gd (inK .i64 (x22+1)) <|
 some (.inl (x17,x19++x18.Wins,x20,x21,x22+1))) <|
 some (.inr (.inl (v8,v9)))
def pS_l14Sess (m:Nat) (a1:IState):Option Bool:=
 jn (V:=IState×List Int) (
 loopF (pS_l14Sess_b1 m) m (a1,[],a1.Sess,(↑a1.Sess.length:Int),0)) fun(v3,v4)=>
 jn (V:=IState×List Int) (
 loopF (pS_l14Sess_b2 m) m (v3,v4,(↑v4.length:Int),0)) fun(v6,v7)=>
 some ((↑v7.length:Int)==(↑v6.Wins.length:Int))
def o54 (m:Nat):Orc:=⟨54,[none],[.st .iState []],0,(.one .B),fun v=>pS_l14Sess m v⟩
theorem c54:CC o54:=mq (cs c102 (cs c17 (cs c103 (cs c19 cn)))) T54 Tryz.f54
def T153:Tab:=⟨[(1,⟨[],[.sl 2 .B]⟩)],[],[]⟩
def pS_Shows (m:Nat) (a1:Int):Option Bool:=
 bd (α:=Bool) (
 br (decide (32≤a1)) (
 br (decide (a1≤126)) (
 some true) <|
 br (decide (160≤a1)) (
 br (decide (a1≤65535)) (
 br (decide (a1<55296)) (
 some true) <|
 some (decide (57343<a1))) <|
 some false) <|
 some false) <|
 br (decide (160≤a1)) (
 br (decide (a1≤65535)) (
 br (decide (a1<55296)) (
 some true) <|
 some (decide (57343<a1))) <|
 some false) <|
 some false) fun x2=>
 some x2
def o153 (m:Nat):Orc:=⟨153,[none],[.I .i64],0,(.one .B),fun v=>pS_Shows m v⟩
theorem c153:CC o153:=mq cn T153 Tryz.f153
def T154:Tab:=⟨[(1,⟨[],[.sl 2 .B]⟩)],[],[]⟩
def pS_AttrOk (m:Nat) (a1:IAttr):Option Bool:=
 bd (α:=Bool) (
 br (decide (0≤a1.Fg)) (
 br (decide (a1.Fg≤8)) (
 br (decide (0≤a1.Bg)) (
 some (decide (a1.Bg≤8))) <|
 some false) <|
 some false) <|
 some false) fun x2=>
 some x2
def o154 (m:Nat):Orc:=⟨154,[none],[.st .iAttr []],0,(.one .B),fun v=>pS_AttrOk m v⟩
theorem c154:CC o154:=mq cn T154 Tryz.f154
def T107:Tab:=⟨[(1,⟨[],[.sl 2 .B]⟩)],[],[]⟩
def pS_CellOk (m:Nat) (a1:ICell):Option Bool:=
 bd (α:=Bool) (
 bd (pS_Shows m a1.R) fun x2=>
 br x2 (
 bd (pS_AttrOk m a1.A) fun x3=>
 some x3) <|
 some false) fun x4=>
 some x4
def o107 (m:Nat):Orc:=⟨107,[none],[.st .iCell []],0,(.one .B),fun v=>pS_CellOk m v⟩
theorem c107:CC o107:=mq (cs c153 (cs c154 cn)) T107 Tryz.f107
def T56:Tab:=⟨[(1,⟨[(1,.ptr 200 0)],[.sto 200 .iGrid [],.sl 41 .B]⟩)],[],[(4,true,⟨[],[.sl 43 (.row .iCell),.sl 44 (.I .i64),.sl 45 (.I .i64)]⟩,0,⟨[],[]⟩)]⟩
def pS_GridOk_b1 (m:Nat):Lp (List ICell×Int×Int) (Unit⊕Bool):=fun(v5,v6,v7)=>
 br (decide (v7<v6)) (
 gd (0≤v7∧v7<(↑v5.length:Int)) <|
 bd v5[v7.toNat]? fun x8=>
 bd (pS_CellOk m x8) fun x9=>
 br (!x9) (
 some (.inr (.inr false))) <|
 gd (inK .i64 (v7+1)) <|
 some (.inl (v5,v6,v7+1))) <|
 some (.inr (.inl ()))
def pS_GridOk (m:Nat) (a1:IGrid):Option Bool:=
 bd (α:=IGrid×Bool) (
 br (decide (a1.W<1)) (
 some (a1,true)) <|
 br (decide (120<a1.W)) (
 some (a1,true)) <|
 br (decide (a1.H<1)) (
 some (a1,true)) <|
 br (decide (120<a1.H)) (
 some (a1,true)) <|
 gd (inK .i64 (a1.W*a1.H)) <|
 br (decide (4000<a1.W*a1.H)) (
 some (a1,true)) <|
 gd (inK .i64 (a1.W*a1.H)) <|
 some (a1,(↑a1.Cells.length:Int) !=a1.W*a1.H)) fun(x2,x3)=>
 br x3 (
 some false) <|
 jn (V:=Unit) (
 loopF (pS_GridOk_b1 m) m (x2.Cells,(↑x2.Cells.length:Int),0)) fun _=>
 some true
def o56 (m:Nat):Orc:=⟨56,[none],[.st .iGrid []],0,(.one .B),fun v=>pS_GridOk m v⟩
theorem c56:CC o56:=mq (cs c107 cn) T56 Tryz.f56
def T155:Tab:=⟨[(7,⟨[],[.sl 2 .B]⟩)],[],[(2,true,⟨[(1,.ptr 200 0)],[.sto 200 .iRow [],.sl 6 (.row .iCell),.sl 7 (.I .i64),.sl 8 (.I .i64)]⟩,0,⟨[(1,.ptr 200 0)],[.sto 200 .iRow []]⟩)]⟩
def pS_l09Row_b1 (m:Nat):Lp (IRow×List ICell×Int×Int) (IRow⊕Bool):=fun(v5,v6,v7,v8)=>
 br (decide (v8<v7)) (
 gd (0≤v8∧v8<(↑v6.length:Int)) <|
 bd v6[v8.toNat]? fun x9=>
 bd (pS_CellOk m x9) fun x10=>
 br (!x10) (
 some (.inr (.inr false))) <|
 gd (inK .i64 (v8+1)) <|
 some (.inl (v5,v6,v7,v8+1))) <|
 some (.inr (.inl v5))
def pS_l09Row (m:Nat) (a1:IRow):Option Bool:=
 jn (V:=IRow) (
 loopF (pS_l09Row_b1 m) m (a1,a1.Cells,(↑a1.Cells.length:Int),0)) fun v3=>
 bd (α:=Bool) (
 br (decide (1≤(↑v3.Cells.length:Int))) (
 some (decide ((↑v3.Cells.length:Int)≤120))) <|
 some false) fun x4=>
 some x4
def o155 (m:Nat):Orc:=⟨155,[none],[.st .iRow []],0,(.one .B),fun v=>pS_l09Row m v⟩
theorem c155:CC o155:=mq (cs c107 cn) T155 Tryz.f155
def T108:Tab:=⟨[(1,⟨[(1,.ptr 200 0)],[.sto 200 .iScr [],.sl 48 .B]⟩),(3,⟨[(1,.ptr 200 0)],[.sto 200 .iScr [],.sl 118 .B]⟩),(5,⟨[(1,.ptr 200 0)],[.sto 200 .iScr [],.sl 165 .B]⟩),(10,⟨[(1,.ptr 200 0)],[.sto 200 .iScr [],.sl 167 (.row .int),.sl 168 (.I .i64),.sl 169 (.I .i64),.sl 195 .B]⟩)],[],[(8,true,⟨[(1,.ptr 200 0)],[.sto 200 .iScr [],.sl 167 (.row .int),.sl 168 (.I .i64),.sl 169 (.I .i64)]⟩,0,⟨[(1,.ptr 200 0)],[.sto 200 .iScr []]⟩),(14,true,⟨[],[.sl 198 (.row .iRow),.sl 199 (.I .i64),.sl 200 (.I .i64)]⟩,2,⟨[],[]⟩)]⟩
def pS_ScrOk_b2 (m:Nat):Lp (List IRow×Int×Int) (Unit⊕Bool):=fun(v28,v29,v30)=>
 br (decide (v30<v29)) (
 gd (0≤v30∧v30<(↑v28.length:Int)) <|
 bd v28[v30.toNat]? fun x31=>
 bd (pS_l09Row m x31) fun x32=>
 br (!x32) (
 some (.inr (.inr false))) <|
 gd (inK .i64 (v30+1)) <|
 some (.inl (v28,v29,v30+1))) <|
 some (.inr (.inl ()))
def pS_ScrOk_b1 (m:Nat):Lp (IScr×List Int×Int×Int) (IScr⊕Bool):=fun(v17,v18,v19,v20)=>
 br (decide (v20<v19)) (
 gd (0≤v20∧v20<(↑v18.length:Int)) <|
 bd v18[v20.toNat]? fun x21=>
 bd (α:=IScr×List Int×Int×Int×Bool) (
 br (decide (x21<0)) (
 some (v17,v18,v19,v20,true)) <|
 br (decide (v17.W≤x21)) (
 some (v17,v18,v19,v20,true)) <|
 br (decide (0<v20)) (
 gd (inK .i64 (v20-1)) <|
 gd (0≤v20-1∧v20-1<(↑v17.Tabs.length:Int)) <|
 bd (v17.Tabs[(v20-1).toNat]?) fun x22=>
 some (v17,v18,v19,v20,decide (x21≤x22))) <|
 some (v17,v18,v19,v20,false)) fun(x23,x24,x25,x26,x27)=>
 br x27 (
 some (.inr (.inr false))) <|
 gd (inK .i64 (x26+1)) <|
 some (.inl (x23,x24,x25,x26+1))) <|
 some (.inr (.inl v17))
def pS_ScrOk (m:Nat) (a1:IScr):Option Bool:=
 bd (α:=IScr×Bool) (
 bd (pS_GridOk m a1.Main) fun x2=>
 br (!x2) (
 some (a1,true)) <|
 bd (pS_GridOk m a1.Alt) fun x3=>
 br (!x3) (
 some (a1,true)) <|
 br (a1.Main.W !=a1.W) (
 some (a1,true)) <|
 br (a1.Main.H !=a1.H) (
 some (a1,true)) <|
 br (a1.Alt.W !=a1.W) (
 some (a1,true)) <|
 some (a1,a1.Alt.H !=a1.H)) fun(x4,x5)=>
 br x5 (
 some false) <|
 bd (α:=IScr×Bool) (
 br (decide (x4.X<0)) (
 some (x4,true)) <|
 br (decide (x4.W≤x4.X)) (
 some (x4,true)) <|
 br (decide (x4.Y<0)) (
 some (x4,true)) <|
 br (decide (x4.H≤x4.Y)) (
 some (x4,true)) <|
 br x4.Wrap (
 gd (inK .i64 (x4.W-1)) <|
 br (x4.X !=x4.W-1) (
 some (x4,true)) <|
 br (decide (x4.SaveX<0)) (
 some (x4,true)) <|
 br (decide (x4.W≤x4.SaveX)) (
 some (x4,true)) <|
 br (decide (x4.SaveY<0)) (
 some (x4,true)) <|
 br (decide (x4.H≤x4.SaveY)) (
 some (x4,true)) <|
 bd (pS_AttrOk m x4.A) fun x6=>
 br (!x6) (
 some (x4,true)) <|
 bd (pS_AttrOk m x4.SaveA) fun x7=>
 some (x4,!x7)) <|
 br (decide (x4.SaveX<0)) (
 some (x4,true)) <|
 br (decide (x4.W≤x4.SaveX)) (
 some (x4,true)) <|
 br (decide (x4.SaveY<0)) (
 some (x4,true)) <|
 br (decide (x4.H≤x4.SaveY)) (
 some (x4,true)) <|
 bd (pS_AttrOk m x4.A) fun x8=>
 br (!x8) (
 some (x4,true)) <|
 bd (pS_AttrOk m x4.SaveA) fun x9=>
 some (x4,!x9)) fun(x10,x11)=>
 br x11 (
 some false) <|
 bd (α:=IScr×Bool) (
 br (decide (x10.Top<0)) (
 some (x10,true)) <|
 br (decide (x10.H≤x10.Bot)) (
 some (x10,true)) <|
 br (decide (x10.Bot<x10.Top)) (
 some (x10,true)) <|
 br (x10.Top==x10.Bot) (
 br (x10.H !=1) (
 some (x10,true)) <|
 br (decide (x10.Limit<0)) (
 some (x10,true)) <|
 br (decide (100<x10.Limit)) (
 some (x10,true)) <|
 some (x10,decide (x10.Limit<(↑x10.Back.length:Int)))) <|
 br (decide (x10.Limit<0)) (
 some (x10,true)) <|
 br (decide (100<x10.Limit)) (
 some (x10,true)) <|
 some (x10,decide (x10.Limit<(↑x10.Back.length:Int)))) fun(x12,x13)=>
 br x13 (
 some false) <|
 jn (V:=IScr) (
 loopF (pS_ScrOk_b1 m) m (x12,x12.Tabs,(↑x12.Tabs.length:Int),0)) fun v15=>
 jn (V:=Unit) (
 loopF (pS_ScrOk_b2 m) m (v15.Back,(↑v15.Back.length:Int),0)) fun _=>
 some true
def o108 (m:Nat):Orc:=⟨108,[none],[.st .iScr []],0,(.one .B),fun v=>pS_ScrOk m v⟩
theorem c108:CC o108:=mq (cs c56 (cs c154 (cs c155 cn))) T108 Tryz.f108
def T201:Tab:=⟨[(1,⟨[],[.sl 2 .B]⟩)],[],[]⟩
def pS_l08Keeps (m:Nat) (a1:Int):Option Bool:=
 bd (α:=Bool) (
 br (a1==2) (
 some true) <|
 some (a1==3)) fun x2=>
 some x2
def o201 (m:Nat):Orc:=⟨201,[none],[.I .i64],0,(.one .B),fun v=>pS_l08Keeps m v⟩
theorem c201:CC o201:=mq cn T201 Tryz.f201
def pS_RuneBytes (m:Nat) (a1:Int):Option (List UInt8):=
 bd (pS_Shows m a1) fun x2=>
 br (!x2) (
 some []) <|
 br (decide (a1<128)) (
 some ([UInt8.ofNat (IntKind.u8.wrap a1).toNat])) <|
 br (decide (a1<2048)) (
 gd ((64:Int)≠(0:Int)) <|
 gd (inK .i64 (a1.tdiv 64)) <|
 gd (inK .i64 (192+a1.tdiv 64)) <|
 gd ((64:Int)≠(0:Int)) <|
 gd (inK .i64 (128+a1.tmod 64)) <|
 some ([UInt8.ofNat (IntKind.u8.wrap (192+a1.tdiv 64)).toNat,UInt8.ofNat (IntKind.u8.wrap (128+a1.tmod 64)).toNat])) <|
 gd ((4096:Int)≠(0:Int)) <|
 gd (inK .i64 (a1.tdiv 4096)) <|
 gd (inK .i64 (224+a1.tdiv 4096)) <|
 gd ((64:Int)≠(0:Int)) <|
 gd (inK .i64 (a1.tdiv 64)) <|
 gd ((64:Int)≠(0:Int)) <|
 gd (inK .i64 (128+(a1.tdiv 64).tmod 64)) <|
 gd ((64:Int)≠(0:Int)) <|
 gd (inK .i64 (128+a1.tmod 64)) <|
 some ([UInt8.ofNat (IntKind.u8.wrap (224+a1.tdiv 4096)).toNat,UInt8.ofNat (IntKind.u8.wrap (128+(a1.tdiv 64).tmod 64)).toNat,UInt8.ofNat (IntKind.u8.wrap (128+a1.tmod 64)).toNat])
def o246 (m:Nat):Orc:=⟨246,[none],[.I .i64],0,(.one (.own .u8 99)),fun v=>pS_RuneBytes m v⟩
theorem c246:CC o246:=mq (cs c153 cn) tn Tryz.f246
def T228:Tab:=⟨[(1,⟨[],[.sl 0 (.row .u8),.sl 1 (.I .i64),.sl 17 .B]⟩),(4,⟨[],[.sl 0 (.row .u8),.sl 1 (.I .i64),.sl 6 (.I .i64),.sl 27 .B]⟩),(12,⟨[],[.sl 0 (.row .u8),.sl 1 (.I .i64),.sl 6 (.I .i64),.sl 7 (.I .i64),.sl 73 .B]⟩)],[],[(8,false,⟨[],[.sl 0 (.row .u8),.sl 1 (.I .i64),.sl 6 (.I .i64),.sl 7 (.I .i64),.sl 8 (.I .i64)]⟩,2,⟨[],[.sl 0 (.row .u8),.sl 1 (.I .i64),.sl 6 (.I .i64),.sl 7 (.I .i64)]⟩),(4,true,⟨[],[.sl 0 (.row .u8),.sl 1 (.I .i64),.sl 6 (.I .i64)]⟩,0,⟨[],[]⟩)]⟩
def pS_RuneRead_b2 (m:Nat):Lp (List UInt8×Int×Int×Int×Int) (List UInt8×Int×Int×Int):=fun(v27,v28,v29,v30,v31)=>
 br (decide (v31<v29)) (
 gd (inK .i64 (v30*64)) <|
 gd (inK .i64 (v28+v31)) <|
 gd (0≤v28+v31∧v28+v31<(↑v27.length:Int)) <|
 bd (v27[(v28+v31).toNat]?) fun x32=>
 gd (inK .i64 (v30*64+(↑x32.toNat:Int))) <|
 gd (inK .i64 (v30*64+(↑x32.toNat:Int)-128)) <|
 gd (inK .i64 (v31+1)) <|
 some (.inl (v27,v28,v29,v30*64+(↑x32.toNat:Int)-128,v31+1))) <|
 some (.inr (v27,v28,v29,v30))
def pS_RuneRead_b1 (m:Nat):Lp (List UInt8×Int×Int) (Unit⊕Int×Int):=fun(v7,v8,v9)=>
 bd (α:=List UInt8×Int×Int×Bool) (
 br (decide (v9≤3)) (
 gd (inK .i64 ((↑v7.length:Int)-v8)) <|
 some (v7,v8,v9,decide (v9≤(↑v7.length:Int)-v8))) <|
 some (v7,v8,v9,false)) fun(x10,x11,x12,x13)=>
 br x13 (
 gd (0≤x11∧x11<(↑x10.length:Int)) <|
 bd x10[x11.toNat]? fun x14=>
 gd (0≤x12∧x12<(↑4:Int)) <|
 bd ([0,0,192,224][0+x12.toNat]?) fun x15=>
 gd (inK .i64 ((↑x14.toNat:Int)-x15)) <|
 bd (α:=List UInt8×Int×Int×Int) (
 loopF (pS_RuneRead_b2 m) m (x10,x11,x12,(↑x14.toNat:Int)-x15,1)) fun(x17,x18,x19,x20)=>
 bd (pS_RuneBytes m x20) fun x21=>
 bd (α:=List UInt8×Int×Int×Int×Bool) (
 br ((↑x21.length:Int)==x19) (
 gd (inK .i64 (x18+x19)) <|
 gd (0≤x18+x19∧x18+x19≤(↑x17.length:Int)) <|
 gd (0≤x18∧x18≤(↑(x18+x19).toNat:Int)) <|
 some (x17,x18,x19,x20,decide (ByteArray.mk x21.toArray=ByteArray.mk (List.drop x18.toNat (List.take (x18+x19).toNat x17)).toArray))) <|
 some (x17,x18,x19,x20,false)) fun(x22,x23,x24,x25,x26)=>
 br x26 (
 some (.inr (.inr (x25,x24)))) <|
 gd (inK .i64 (x24+1)) <|
 some (.inl (x22,x23,x24+1))) <|
 some (.inr (.inl ()))
def pS_RuneRead (m:Nat) (a1:List UInt8) (a2:Int):Option (Int×Int):=
 bd (α:=List UInt8×Int×Bool) (
 br (decide (a2<0)) (
 some (a1,a2,true)) <|
 some (a1,a2,decide ((↑a1.length:Int)≤a2))) fun(x3,x4,x5)=>
 br x5 (
 some (0,0)) <|
 jn (V:=Unit) (
 loopF (pS_RuneRead_b1 m) m (x3,x4,1)) fun _=>
 some (0,0)
def o228 (m:Nat):Orc:=⟨228,[none,none],[.row .u8,.I .i64],0,(.tup [.I .i64,.I .i64]),fun v=>pS_RuneRead m v.1 v.2⟩
theorem c228:CC o228:=mq (cs c246 cn) T228 Tryz.f228
def T202:Tab:=⟨[(1,⟨[],[.sl 0 (.row .u8),.sl 17 .B]⟩)],[(5,true,⟨[],[.sl 0 (.row .u8),.sl 3 (.I .i64)]⟩)],[(4,true,⟨[],[.sl 0 (.row .u8),.sl 3 (.I .i64)]⟩,0,⟨[],[]⟩)]⟩
def pS_RuneBegin_b1 (m:Nat):Lp (List UInt8×Int) (Unit⊕Bool):=fun(v5,v6)=>
 br (decide (v6<192)) (
 jn (V:=List UInt8×Int) (
 gd (roomB .u8 ([]++v5).length) <|
 gd (roomB .u8 ([]++v5++ [UInt8.ofNat (IntKind.u8.wrap v6).toNat]).length) <|
 bd (pS_RuneRead m ([]++v5++ [UInt8.ofNat (IntKind.u8.wrap v6).toNat]) 0) fun(x7,x8)=>
 br (x8==(↑([]++v5++ [UInt8.ofNat (IntKind.u8.wrap v6).toNat]).length:Int)) (
 some (.inr (.inr (.inr true)))) <|
 br ((↑v5.length:Int)==1) (
 gd (roomB .u8 ([]++([]++v5++ [UInt8.ofNat (IntKind.u8.wrap v6).toNat])).length) <|
 gd (roomB .u8 ([]++([]++v5++ [UInt8.ofNat (IntKind.u8.wrap v6).toNat])++ [UInt8.ofNat (Int.toNat 129)]).length) <|
 bd (pS_RuneRead m ([]++([]++v5++ [UInt8.ofNat (IntKind.u8.wrap v6).toNat])++ [UInt8.ofNat (Int.toNat 129)]) 0) fun(x9,x10)=>
 br (x10==3) (
 some (.inr (.inr (.inr true)))) <|
 some (.inl (v5,v6))) <|
 some (.inl (v5,v6))) fun(v11,v12)=>
 gd (inK .i64 (v12+1)) <|
 some (.inl (v11,v12+1))) <|
 some (.inr (.inl ()))
def pS_RuneBegin (m:Nat) (a1:List UInt8):Option Bool:=
 bd (α:=List UInt8×Bool) (
 br (decide ((↑a1.length:Int)<1)) (
 some (a1,true)) <|
 some (a1,decide (2<(↑a1.length:Int)))) fun(x2,x3)=>
 br x3 (
 some false) <|
 jn (V:=Unit) (
 loopF (pS_RuneBegin_b1 m) m (x2,128)) fun _=>
 some false
def o202 (m:Nat):Orc:=⟨202,[none],[.row .u8],0,(.one .B),fun v=>pS_RuneBegin m v⟩
theorem c202:CC o202:=mq (cs c228 cn) T202 Tryz.f202
def T183:Tab:=⟨[(1,⟨[(1,.ptr 200 0)],[.sto 200 .iVp [],.sl 34 .B]⟩),(6,⟨[(1,.ptr 200 0)],[.sto 200 .iVp [],.sl 36 (.row .int),.sl 37 (.I .i64),.sl 38 (.I .i64),.sl 47 .B]⟩),(9,⟨[],[.sl 2 .B]⟩)],[],[(4,true,⟨[(1,.ptr 200 0)],[.sto 200 .iVp [],.sl 36 (.row .int),.sl 37 (.I .i64),.sl 38 (.I .i64)]⟩,0,⟨[(1,.ptr 200 0)],[.sto 200 .iVp []]⟩)]⟩
def pS_VpOk_b1 (m:Nat):Lp (IVp×List Int×Int×Int) (IVp⊕Bool):=fun(v9,v10,v11,v12)=>
 br (decide (v12<v11)) (
 gd (0≤v12∧v12<(↑v10.length:Int)) <|
 bd v10[v12.toNat]? fun x13=>
 bd (α:=IVp×List Int×Int×Int×Bool) (
 br (decide (x13<0)) (
 some (v9,v10,v11,v12,true)) <|
 some (v9,v10,v11,v12,decide (9999<x13))) fun(x14,x15,x16,x17,x18)=>
 br x18 (
 some (.inr (.inr false))) <|
 gd (inK .i64 (x17+1)) <|
 some (.inl (x14,x15,x16,x17+1))) <|
 some (.inr (.inl v9))
def pS_VpOk (m:Nat) (a1:IVp):Option Bool:=
 bd (α:=IVp×Bool) (
 br (decide (a1.State<0)) (
 some (a1,true)) <|
 br (decide (3<a1.State)) (
 some (a1,true)) <|
 br (decide (8<(↑a1.Args.length:Int))) (
 some (a1,true)) <|
 bd (pS_l08Keeps m a1.State) fun x2=>
 br (!x2) (
 br a1.Mark (
 some (a1,true)) <|
 some (a1,decide (0<(↑a1.Args.length:Int)))) <|
 some (a1,false)) fun(x3,x4)=>
 br x4 (
 some false) <|
 jn (V:=IVp) (
 loopF (pS_VpOk_b1 m) m (x3,x3.Args,(↑x3.Args.length:Int),0)) fun v6=>
 bd (α:=Bool) (
 br ((↑v6.Part.length:Int)==0) (
 some true) <|
 br (v6.State==0) (
 bd (pS_RuneBegin m v6.Part) fun x7=>
 some x7) <|
 some false) fun x8=>
 some x8
def o183 (m:Nat):Orc:=⟨183,[none],[.st .iVp []],0,(.one .B),fun v=>pS_VpOk m v⟩
theorem c183:CC o183:=mq (cs c201 (cs c202 cn)) T183 Tryz.f183
def T151:Tab:=⟨[(1,⟨[],[.sl 2 .B]⟩)],[],[]⟩
def pS_TermOk (m:Nat) (a1:ITerm):Option Bool:=
 bd (α:=Bool) (
 bd (pS_VpOk m a1.P) fun x2=>
 br x2 (
 bd (pS_ScrOk m a1.S) fun x3=>
 some x3) <|
 some false) fun x4=>
 some x4
def o151 (m:Nat):Orc:=⟨151,[none],[.st .iTerm []],0,(.one .B),fun v=>pS_TermOk m v⟩
theorem c151:CC o151:=mq (cs c183 (cs c108 cn)) T151 Tryz.f151
def T105:Tab:=⟨[(1,⟨[(1,.ptr 200 0)],[.sto 200 .iPane [],.sl 28 .B]⟩),(5,⟨[],[.sl 2 .B]⟩),(7,⟨[],[.sl 2 .B]⟩),(9,⟨[],[.sl 2 .B]⟩)],[],[]⟩
def pS_PaneOk (m:Nat) (a1:IPane):Option Bool:=
 bd (α:=IPane×Bool) (
 br (decide (a1.Id<1)) (
 some (a1,true)) <|
 br (decide (1000000<a1.Id)) (
 some (a1,true)) <|
 br (decide (60<(↑a1.Cmd.size:Int))) (
 some (a1,true)) <|
 br (decide (60<(↑a1.Dir.size:Int))) (
 some (a1,true)) <|
 bd (pS_TermOk m a1.Term) fun x2=>
 some (a1,!x2)) fun(x3,x4)=>
 br x4 (
 some false) <|
 br (x3.Life==1) (
 bd (α:=Bool) (
 br (decide (1≤x3.Pid)) (
 br (decide (x3.Pid≤1000000)) (
 some (x3.Code==0)) <|
 some false) <|
 some false) fun x5=>
 some x5) <|
 br (x3.Life==2) (
 bd (α:=Bool) (
 br (x3.Pid==0) (
 br (decide (0≤x3.Code)) (
 some (decide (x3.Code≤255))) <|
 some false) <|
 some false) fun x6=>
 some x6) <|
 br (x3.Life==3) (
 bd (α:=Bool) (
 br (x3.Pid==0) (
 some (x3.Code==0)) <|
 some false) fun x7=>
 some x7) <|
 some false
def o105 (m:Nat):Orc:=⟨105,[none],[.st .iPane []],0,(.one .B),fun v=>pS_PaneOk m v⟩
theorem c105:CC o105:=mq (cs c151 cn) T105 Tryz.f105
def T24:Tab:=⟨[],[],[(3,true,⟨[(8,.ptr 900 0)],[.sto 900 .iRect [],.sl 3 (.I .i64),.sl 21 (.own .iRect 19000000),.sl 22 (.I .i64),.sl 23 (.I .i64)]⟩,0,⟨[(8,.ptr 900 0)],[.sto 900 .iRect []]⟩)]⟩
def pS_PlaceOf_b1 (m:Nat):Lp (IRect×Int×List IRect×Int×Int) (IRect⊕IRect×Bool):=fun(v9,v10,v11,v12,v13)=>
 br (decide (v13<v12)) (
 gd (0≤v13∧v13<(↑v11.length:Int)) <|
 bd (v11[0+v13.toNat]?) fun x14=>
 br (x14.Pane==v10) (
 some (.inr (.inr (x14,true)))) <|
 gd (inK .i64 (v13+1)) <|
 some (.inl (v9,v10,v11,v12,v13+1))) <|
 some (.inr (.inl v9))
def pS_PlaceOf (m:Nat) (a1:List INode) (a2:Int) (a3:Int) (a4:Int):Option (IRect×Bool):=
 bd (pS_Places m a1 a2 a3) fun(x5,x6)=>
 jn (V:=IRect) (
 loopF (pS_PlaceOf_b1 m) m (IRect.mk 0 0 0 0 0,a4,x5,(↑x5.length:Int),0)) fun v8=>
 some (IRect.mk 0 0 0 0 0,false)
def o24 (m:Nat):Orc:=⟨24,[none,none,none,none],[.row .iNode,.I .i64,.I .i64,.I .i64],0,(.tup [.st .iRect [],.B]),fun v=>pS_PlaceOf m v.1 v.2.1 v.2.2.1 v.2.2.2⟩
theorem c24:CC o24:=mq (cs c61 cn) T24 Tryz.f24
def T152:Tab:=⟨[],[],[(2,true,⟨[],[.sl 1 (.I .i64),.sl 8 (.row .iWin),.sl 9 (.I .i64),.sl 10 (.I .i64)]⟩,0,⟨[],[]⟩)]⟩
def pS_WinOf_b1 (m:Nat):Lp (Int×List IWin×Int×Int) (Unit⊕Int):=fun(v4,v5,v6,v7)=>
 br (decide (v7<v6)) (
 gd (0≤v7∧v7<(↑v5.length:Int)) <|
 bd v5[v7.toNat]? fun x8=>
 bd (pS_Leaves m x8.Tree) fun x9=>
 bd (pS_l02HasInt m x9 v4) fun x10=>
 br x10 (
 some (.inr (.inr v7))) <|
 gd (inK .i64 (v7+1)) <|
 some (.inl (v4,v5,v6,v7+1))) <|
 some (.inr (.inl ()))
def pS_WinOf (m:Nat) (a1:IState) (a2:Int):Option Int:=
 jn (V:=Unit) (
 loopF (pS_WinOf_b1 m) m (a2,a1.Wins,(↑a1.Wins.length:Int),0)) fun _=>
 some (-1)
def o152 (m:Nat):Orc:=⟨152,[none,none],[.st .iState [],.I .i64],0,(.one (.I .i64)),fun v=>pS_WinOf m v.1 v.2⟩
theorem c152:CC o152:=mq (cs c104 (cs c103 cn)) T152 Tryz.f152
def T106:Tab:=⟨[(5,⟨[(2,.ptr 300 0),(7,.ptr 800 0)],[.sto 300 .iState [],.sto 800 .iWin [],.sl 1 (.I .i64),.sl 27 .B]⟩)],[],[]⟩
def pS_Area (m:Nat) (a1:IState) (a2:Int):Option (Int×Int):=
 bd (pS_WinOf m a1 a2) fun x3=>
 br (decide (x3<0)) (
 some (0,0)) <|
 gd (0≤x3∧x3<(↑a1.Wins.length:Int)) <|
 bd a1.Wins[x3.toNat]? fun x4=>
 bd (α:=IState×IWin×Int×Bool) (
 br x4.Zoom (
 some (a1,x4,a2,x4.Active==a2)) <|
 some (a1,x4,a2,false)) fun(x5,x6,x7,x8)=>
 br x8 (
 some (x5.W,x5.H)) <|
 bd (pS_PlaceOf m x6.Tree x5.W x5.H x7) fun(x9,x10)=>
 some (x9.W,x9.H)
def o106 (m:Nat):Orc:=⟨106,[none,none],[.st .iState [],.I .i64],0,(.tup [.I .i64,.I .i64]),fun v=>pS_Area m v.1 v.2⟩
theorem c106:CC o106:=mq (cs c152 (cs c24 cn)) T106 Tryz.f106
def T55:Tab:=⟨[(5,⟨[(1,.ptr 200 0),(5,.ptr 600 0)],[.sto 200 .iState [],.sto 600 .iPane [],.sl 3 (.own .int 900),.sl 10 (.row .iPane),.sl 11 (.I .i64),.sl 12 (.I .i64),.sl 42 .B]⟩),(8,⟨[(1,.ptr 200 0),(5,.ptr 600 0)],[.sto 200 .iState [],.sto 600 .iPane [],.sl 3 (.own .int 900),.sl 10 (.row .iPane),.sl 11 (.I .i64),.sl 12 (.I .i64),.sl 72 .B]⟩),(10,⟨[(1,.ptr 200 0),(5,.ptr 600 0)],[.sto 200 .iState [],.sto 600 .iPane [],.sl 3 (.own .int 900),.sl 10 (.row .iPane),.sl 11 (.I .i64),.sl 12 (.I .i64),.sl 81 .B]⟩)],[(14,true,⟨[(1,.ptr 200 0)],[.sto 200 .iState [],.sl 3 (.own .int 900),.sl 10 (.row .iPane),.sl 11 (.I .i64),.sl 12 (.I .i64)]⟩)],[(3,true,⟨[(1,.ptr 200 0)],[.sto 200 .iState [],.sl 3 (.own .int 900),.sl 10 (.row .iPane),.sl 11 (.I .i64),.sl 12 (.I .i64)]⟩,0,⟨[],[]⟩)]⟩
def pS_l14Panes_b1 (m:Nat):Lp (IState×List Int×List IPane×Int×Int) (Unit⊕Bool):=fun(v3,v4,v5,v6,v7)=>
 br (decide (v7<v6)) (
 jn (V:=IState×List Int×List IPane×Int×Int) (
 gd (0≤v7∧v7<(↑v5.length:Int)) <|
 bd v5[v7.toNat]? fun x8=>
 bd (α:=IState×IPane×List Int×List IPane×Int×Int×Bool) (
 bd (pS_PaneOk m x8) fun x9=>
 br (!x9) (
 some (v3,x8,v4,v5,v6,v7,true)) <|
 br (decide (v3.Next≤x8.Id)) (
 some (v3,x8,v4,v5,v6,v7,true)) <|
 br (decide (0<v7)) (
 gd (inK .i64 (v7-1)) <|
 gd (0≤v7-1∧v7-1<(↑v3.Panes.length:Int)) <|
 bd (v3.Panes[(v7-1).toNat]?) fun x10=>
 some (v3,x8,v4,v5,v6,v7,decide (x8.Id≤x10.Id))) <|
 some (v3,x8,v4,v5,v6,v7,false)) fun(x11,x12,x13,x14,x15,x16,x17)=>
 br x17 (
 some (.inr (.inr (.inr false)))) <|
 bd (pS_Area m x11 x12.Id) fun(x18,x19)=>
 bd (α:=IState×IPane×List Int×List IPane×Int×Int×Bool) (
 br (x12.Term.S.W !=x18) (
 some (x11,x12,x13,x14,x15,x16,true)) <|
 br (x12.Term.S.H !=x19) (
 some (x11,x12,x13,x14,x15,x16,true)) <|
 some (x11,x12,x13,x14,x15,x16,x12.Term.S.Limit !=x11.Limit)) fun(x20,x21,x22,x23,x24,x25,x26)=>
 br x26 (
 some (.inr (.inr (.inr false)))) <|
 bd (α:=IState×IPane×List Int×List IPane×Int×Int×Bool) (
 br (x21.Life==1) (
 bd (pS_l02HasInt m x22 x21.Pid) fun x27=>
 some (x20,x21,x22,x23,x24,x25,x27)) <|
 some (x20,x21,x22,x23,x24,x25,false)) fun(x28,x29,x30,x31,x32,x33,x34)=>
 br x34 (
 some (.inr (.inr (.inr false)))) <|
 br (x29.Life==1) (
 gd (roomB .int (x30++ [x29.Pid]).length) <|
 some (.inl (x28,x30++ [x29.Pid],x31,x32,x33))) <|
 some (.inl (x28,x30,x31,x32,x33))) fun(v35,v36,v37,v38,v39)=>
 gd (inK .i64 (v39+1)) <|
 some (.inl (v35,v36,v37,v38,v39+1))) <|
 some (.inr (.inl ()))
def pS_l14Panes (m:Nat) (a1:IState):Option Bool:=
 jn (V:=Unit) (
 loopF (pS_l14Panes_b1 m) m (a1,[],a1.Panes,(↑a1.Panes.length:Int),0)) fun _=>
 some true
def o55 (m:Nat):Orc:=⟨55,[none],[.st .iState []],0,(.one .B),fun v=>pS_l14Panes m v⟩
theorem c55:CC o55:=mq (cs c105 (cs c106 (cs c103 cn))) T55 Tryz.f55
def T18:Tab:=⟨[(2,⟨[(1,.ptr 200 0)],[.sto 200 .iState [],.sl 52 .B]⟩),(4,⟨[],[.sl 2 .B]⟩)],[],[]⟩
def pS_StateOk (m:Nat) (a1:IState):Option Bool:=
 bd (pS_GridNew m a1.W a1.H) fun(x2,x3)=>
 bd (α:=IState×Bool) (
 br (!x3) (
 some (a1,true)) <|
 br (decide (a1.Limit<0)) (
 some (a1,true)) <|
 br (decide (100<a1.Limit)) (
 some (a1,true)) <|
 br (decide (a1.Next<1)) (
 some (a1,true)) <|
 br (decide (1000000<a1.Next)) (
 some (a1,true)) <|
 br (decide (24<(↑a1.Panes.length:Int))) (
 some (a1,true)) <|
 br (decide (12<(↑a1.Wins.length:Int))) (
 some (a1,true)) <|
 some (a1,decide (8<(↑a1.Sess.length:Int)))) fun(x4,x5)=>
 br x5 (
 some false) <|
 bd (α:=Bool) (
 bd (pS_l14Wins m x4) fun x6=>
 br x6 (
 bd (pS_l14Sess m x4) fun x7=>
 br x7 (
 bd (pS_l14Panes m x4) fun x8=>
 some x8) <|
 some false) <|
 some false) fun x9=>
 some x9
def o18 (m:Nat):Orc:=⟨18,[none],[.st .iState []],0,(.one .B),fun v=>pS_StateOk m v⟩
theorem c18:CC o18:=mq (cs c16 (cs c53 (cs c54 (cs c55 cn)))) T18 Tryz.f18
def T57:Tab:=⟨[(1,⟨[],[.sl 2 .B]⟩)],[],[]⟩
def pS_l07Small (m:Nat) (a1:Int):Option Bool:=
 bd (α:=Bool) (
 br (decide (-100000≤a1)) (
 some (decide (a1≤100000))) <|
 some false) fun x2=>
 some x2
def o57 (m:Nat):Orc:=⟨57,[none],[.I .i64],0,(.one .B),fun v=>pS_l07Small m v⟩
theorem c57:CC o57:=mq cn T57 Tryz.f57
def pS_l07Copy (m:Nat) (a1:IGrid):Option IGrid:=
 gd (roomB .iCell ([]++a1.Cells).length) <|
 some (IGrid.mk a1.W a1.H ([]++a1.Cells))
def o58 (m:Nat):Orc:=⟨58,[none],[.st .iGrid []],0,(.one (.st .iGrid [(2,99)])),fun v=>pS_l07Copy m v⟩
theorem c58:CC o58:=mq cn tn Tryz.f58
def T20:Tab:=⟨[(1,⟨[(4,.ptr 500 0),(5,.ptr 600 0),(8,.ptr 900 0)],[.sto 500 .iGrid [],.sto 600 .iGrid [],.sto 900 .iGrid [(2,50000001)],.sl 2 (.I .i64),.sl 3 (.I .i64),.sl 31 .B]⟩),(9,⟨[(4,.ptr 500 0),(5,.ptr 600 0),(8,.ptr 900 0),(9,.ptr 1000 0),(11,.ptr 1200 0)],[.sto 500 .iGrid [],.sto 600 .iGrid [],.sto 900 .iGrid [(2,50000001)],.sto 1000 .iGrid [(2,35000002)],.sto 1200 .iCell [],.sl 2 (.I .i64),.sl 3 (.I .i64),.sl 12 (.I .i64),.sl 13 (.I .i64),.sl 36 (.row .iCell),.sl 37 (.I .i64),.sl 38 (.I .i64),.sl 72 .B]⟩)],[(11,false,⟨[(4,.ptr 500 0),(5,.ptr 600 0),(8,.ptr 900 0),(9,.ptr 1000 0)],[.sto 500 .iGrid [],.sto 600 .iGrid [],.sto 900 .iGrid [(2,50000001)],.sto 1000 .iGrid [(2,35000002)],.sl 2 (.I .i64),.sl 3 (.I .i64),.sl 36 (.row .iCell),.sl 37 (.I .i64),.sl 38 (.I .i64)]⟩)],[(5,false,⟨[(4,.ptr 500 0),(5,.ptr 600 0),(8,.ptr 900 0),(9,.ptr 1000 0)],[.sto 500 .iGrid [],.sto 600 .iGrid [],.sto 900 .iGrid [(2,50000001)],.sto 1000 .iGrid [(2,35000002)],.sl 2 (.I .i64),.sl 3 (.I .i64),.sl 36 (.row .iCell),.sl 37 (.I .i64),.sl 38 (.I .i64)]⟩,0,⟨[(8,.ptr 900 0),(9,.ptr 1000 0)],[.sto 900 .iGrid [(2,50000001)],.sto 1000 .iGrid [(2,35000002)]]⟩)]⟩
def pS_GridPaste_b1 (m:Nat):Lp (IGrid×IGrid×IGrid×IGrid×Int×Int×List ICell×Int×Int) (IGrid×IGrid):=fun(v19,v20,v21,v22,v23,v24,v25,v26,v27)=>
 br (decide (v27<v26)) (
 bd (α:=IGrid×IGrid×IGrid×IGrid×Int×Int×List ICell×Int×Int) (
 gd (0≤v27∧v27<(↑v25.length:Int)) <|
 bd v25[v27.toNat]? fun x28=>
 gd (v20.W≠0) <|
 gd (inK .i64 (v23+v27.tmod v20.W)) <|
 gd (v20.W≠0) <|
 gd (inK .i64 (v27.tdiv v20.W)) <|
 gd (inK .i64 (v24+v27.tdiv v20.W)) <|
 bd (α:=IGrid×IGrid×IGrid×IGrid×ICell×Int×Int×Int×Int×List ICell×Int×Int×Bool) (
 br (decide (0≤v23+v27.tmod v20.W)) (
 br (decide (v23+v27.tmod v20.W<v19.W)) (
 br (decide (0≤v24+v27.tdiv v20.W)) (
 some (v19,v20,v21,v22,x28,v23,v24,v23+v27.tmod v20.W,v24+v27.tdiv v20.W,v25,v26,v27,decide (v24+v27.tdiv v20.W<v19.H))) <|
 some (v19,v20,v21,v22,x28,v23,v24,v23+v27.tmod v20.W,v24+v27.tdiv v20.W,v25,v26,v27,false)) <|
 some (v19,v20,v21,v22,x28,v23,v24,v23+v27.tmod v20.W,v24+v27.tdiv v20.W,v25,v26,v27,false)) <|
 some (v19,v20,v21,v22,x28,v23,v24,v23+v27.tmod v20.W,v24+v27.tdiv v20.W,v25,v26,v27,false)) fun(x29,x30,x31,x32,x33,x34,x35,x36,x37,x38,x39,x40,x41)=>
 br x41 (
 gd (inK .i64 (x37*x29.W)) <|
 gd (inK .i64 (x37*x29.W+x36)) <|
 gd (0≤x37*x29.W+x36∧x37*x29.W+x36<(↑x32.Cells.length:Int)) <|
 bd (x32.Cells[0+(x37*x29.W+x36).toNat]?) fun x42=>
 some (x29,x30,x31,IGrid.mk x32.W x32.H (x32.Cells.set (0+(x37*x29.W+x36).toNat) x33),x34,x35,x38,x39,x40)) <|
 some (x29,x30,x31,x32,x34,x35,x38,x39,x40)) fun(x43,x44,x45,x46,x47,x48,x49,x50,x51)=>
 gd (inK .i64 (x51+1)) <|
 some (.inl (x43,x44,x45,x46,x47,x48,x49,x50,x51+1))) <|
 some (.inr (v21,v22))
def pS_GridPaste (m:Nat) (a1:IGrid) (a2:IGrid) (a3:Int) (a4:Int):Option IGrid:=
 bd (α:=IGrid×IGrid×IGrid×Int×Int×Bool) (
 bd (pS_GridOk m a1) fun x5=>
 br (!x5) (
 some (a1,a2,IGrid.mk 0 0 [],a3,a4,true)) <|
 bd (pS_GridOk m a2) fun x6=>
 br (!x6) (
 some (a1,a2,IGrid.mk 0 0 [],a3,a4,true)) <|
 bd (pS_l07Small m a3) fun x7=>
 br (!x7) (
 some (a1,a2,IGrid.mk 0 0 [],a3,a4,true)) <|
 bd (pS_l07Small m a4) fun x8=>
 some (a1,a2,IGrid.mk 0 0 [],a3,a4,!x8)) fun(x9,x10,x11,x12,x13,x14)=>
 br x14 (
 some (IGrid.mk 0 0 [])) <|
 bd (pS_l07Copy m x9) fun x15=>
 bd (α:=IGrid×IGrid) (
 loopF (pS_GridPaste_b1 m) m (x9,x10,x11,x15,x12,x13,x10.Cells,(↑x10.Cells.length:Int),0)) fun(x17,x18)=>
 some x18
def o20 (m:Nat):Orc:=⟨20,[none,none,none,none],[.st .iGrid [],.st .iGrid [],.I .i64,.I .i64],0,(.one (.st .iGrid [(2,99)])),fun v=>pS_GridPaste m v.1 v.2.1 v.2.2.1 v.2.2.2⟩
theorem c20:CC o20:=mq (cs c56 (cs c57 (cs c58 cn))) T20 Tryz.f20
def pS_l09Shown (m:Nat) (a1:IScr):Option IGrid:=
 br a1.OnAlt (
 some a1.Alt) <|
 some a1.Main
def o156 (m:Nat):Orc:=⟨156,[none],[.st .iScr []],0,(.one (.st .iGrid [])),fun v=>pS_l09Shown m v⟩
theorem c156:CC o156:=mq cn tn Tryz.f156
def pS_Shown (m:Nat) (a1:IScr):Option IGrid:=
 bd (pS_ScrOk m a1) fun x2=>
 br (!x2) (
 some (IGrid.mk 0 0 [])) <|
 bd (pS_l09Shown m a1) fun x3=>
 bd (pS_l07Copy m x3) fun x4=>
 some x4
def o109 (m:Nat):Orc:=⟨109,[none],[.st .iScr []],0,(.one (.st .iGrid [(2,99)])),fun v=>pS_Shown m v⟩
theorem c109:CC o109:=mq (cs c108 (cs c156 (cs c58 cn))) tn Tryz.f109
def T110:Tab:=⟨[],[(4,false,⟨[],[.sl 0 (.row .iCell),.sl 1 (.I .i64),.sl 5 (.own .iCell 800),.sl 6 (.I .i64)]⟩)],[(3,false,⟨[],[.sl 0 (.row .iCell),.sl 1 (.I .i64),.sl 5 (.own .iCell 800),.sl 6 (.I .i64)]⟩,0,⟨[],[.sl 5 (.own .iCell 800)]⟩)]⟩
def pS_l19Fill_b1 (m:Nat):Lp (List ICell×Int×List ICell×Int) (List ICell):=fun(v5,v6,v7,v8)=>
 br (decide (v8<v6)) (
 bd (α:=List ICell×Int×List ICell×Int) (
 br (decide (v8<(↑v5.length:Int))) (
 gd (0≤v8∧v8<(↑v5.length:Int)) <|
 bd v5[v8.toNat]? fun x9=>
 gd (roomB .iCell (v7++ [x9]).length) <|
 some (v5,v6,v7++ [x9],v8)) <|
 bd (pS_l07Blank m) fun x10=>
 gd (roomB .iCell (v7++ [x10]).length) <|
 some (v5,v6,v7++ [x10],v8)) fun(x11,x12,x13,x14)=>
 gd (inK .i64 (x14+1)) <|
 some (.inl (x11,x12,x13,x14+1))) <|
 some (.inr v7)
def pS_l19Fill (m:Nat) (a1:List ICell) (a2:Int):Option (List ICell):=
 bd (α:=List ICell) (
 loopF (pS_l19Fill_b1 m) m (a1,a2,[],0)) fun x4=>
 some x4
def o110 (m:Nat):Orc:=⟨110,[none,none],[.row .iCell,.I .i64],0,(.one (.own .iCell 99)),fun v=>pS_l19Fill m v.1 v.2⟩
theorem c110:CC o110:=mq (cs c52 cn) T110 Tryz.f110
def pS_l02Clamp (m:Nat) (a1:Int) (a2:Int):Option Int:=
 br (decide (a1<0)) (
 some 0) <|
 br (decide (a2<a1)) (
 some a2) <|
 some a1
def o111 (m:Nat):Orc:=⟨111,[none,none],[.I .i64,.I .i64],0,(.one (.I .i64)),fun v=>pS_l02Clamp m v.1 v.2⟩
theorem c111:CC o111:=mq cn tn Tryz.f111
def T59:Tab:=⟨[(3,⟨[(2,.ptr 300 0),(4,.ptr 500 0)],[.sto 300 .iScr [],.sto 500 .iGrid [(2,50000001)],.sl 1 (.I .i64),.sl 18 .B]⟩)],[],[(7,false,⟨[(2,.ptr 300 0),(4,.ptr 500 0)],[.sto 300 .iScr [],.sto 500 .iGrid [(2,50000001)],.sl 1 (.I .i64),.sl 5 (.own .iCell 2200),.sl 23 (.row .iRow),.sl 24 (.I .i64),.sl 25 (.I .i64)]⟩,0,⟨[(2,.ptr 300 0),(4,.ptr 500 0)],[.sto 300 .iScr [],.sto 500 .iGrid [(2,50000001)],.sl 1 (.I .i64),.sl 5 (.own .iCell 2200)]⟩)]⟩
def pS_Look_b1 (m:Nat):Lp (IScr×IGrid×Int×List ICell×List IRow×Int×Int) (IScr×IGrid×Int×List ICell):=fun(v15,v16,v17,v18,v19,v20,v21)=>
 br (decide (v21<v20)) (
 gd (0≤v21∧v21<(↑v19.length:Int)) <|
 bd v19[v21.toNat]? fun x22=>
 bd (pS_l19Fill m x22.Cells v15.W) fun x23=>
 gd (roomB .iCell (v18++x23).length) <|
 gd (inK .i64 (v21+1)) <|
 some (.inl (v15,v16,v17,v18++x23,v19,v20,v21+1))) <|
 some (.inr (v15,v16,v17,v18))
def pS_Look (m:Nat) (a1:IScr) (a2:Int):Option IGrid:=
 bd (pS_ScrOk m a1) fun x3=>
 br (!x3) (
 some (IGrid.mk 0 0 [])) <|
 bd (α:=IScr×IGrid×Int×Bool) (
 br a1.OnAlt (
 some (a1,IGrid.mk 0 0 [],a2,true)) <|
 some (a1,IGrid.mk 0 0 [],a2,decide (a2≤0))) fun(x4,x5,x6,x7)=>
 br x7 (
 bd (pS_Shown m x4) fun x8=>
 some x8) <|
 bd (α:=IScr×IGrid×Int×List ICell) (
 loopF (pS_Look_b1 m) m (x4,x5,x6,[],x4.Back,(↑x4.Back.length:Int),0)) fun(x10,x11,x12,x13)=>
 gd (roomB .iCell (x13++x10.Main.Cells).length) <|
 bd (pS_l02Clamp m x12 (↑x10.Back.length:Int)) fun x14=>
 gd (inK .i64 ((↑x10.Back.length:Int)-x14)) <|
 gd (inK .i64 (((↑x10.Back.length:Int)-x14)*x10.W)) <|
 gd (inK .i64 (x10.W*x10.H)) <|
 gd (inK .i64 (((↑x10.Back.length:Int)-x14)*x10.W+x10.W*x10.H)) <|
 gd (0≤((↑x10.Back.length:Int)-x14)*x10.W+x10.W*x10.H∧((↑x10.Back.length:Int)-x14)*x10.W+x10.W*x10.H≤(↑(x13++x10.Main.Cells).length:Int)) <|
 gd (0≤((↑x10.Back.length:Int)-x14)*x10.W∧((↑x10.Back.length:Int)-x14)*x10.W≤(↑(((↑x10.Back.length:Int)-x14)*x10.W+x10.W*x10.H).toNat:Int)) <|
 gd (roomB .iCell ([]++viewL false (x13++x10.Main.Cells) (0+(((↑x10.Back.length:Int)-x14)*x10.W).toNat) ((((↑x10.Back.length:Int)-x14)*x10.W+x10.W*x10.H).toNat-(((↑x10.Back.length:Int)-x14)*x10.W).toNat)).length) <|
 some (IGrid.mk x10.W x10.H ([]++viewL false (x13++x10.Main.Cells) (0+(((↑x10.Back.length:Int)-x14)*x10.W).toNat) ((((↑x10.Back.length:Int)-x14)*x10.W+x10.W*x10.H).toNat-(((↑x10.Back.length:Int)-x14)*x10.W).toNat)))
def o59 (m:Nat):Orc:=⟨59,[none,none],[.st .iScr [],.I .i64],0,(.one (.st .iGrid [(2,99)])),fun v=>pS_Look m v.1 v.2⟩
theorem c59:CC o59:=mq (cs c108 (cs c109 (cs c110 (cs c111 cn)))) T59 Tryz.f59
def T113:Tab:=⟨[(1,⟨[(6,.ptr 700 0),(11,.ptr 1200 0),(12,.ptr 1300 0)],[.sto 700 .iGrid [],.sto 1200 .iCell [],.sto 1300 .iGrid [(2,50000001)],.sl 1 (.I .i64),.sl 2 (.I .i64),.sl 3 (.I .i64),.sl 4 (.I .i64),.sl 44 .B]⟩),(9,⟨[(6,.ptr 700 0),(11,.ptr 1200 0),(12,.ptr 1300 0),(13,.ptr 1400 0)],[.sto 700 .iGrid [],.sto 1200 .iCell [],.sto 1300 .iGrid [(2,50000001)],.sto 1400 .iGrid [(2,48000002)],.sl 1 (.I .i64),.sl 2 (.I .i64),.sl 3 (.I .i64),.sl 4 (.I .i64),.sl 14 (.I .i64),.sl 50 (.I .i64),.sl 51 (.I .i64),.sl 83 .B]⟩)],[(11,false,⟨[(6,.ptr 700 0),(11,.ptr 1200 0),(12,.ptr 1300 0),(13,.ptr 1400 0)],[.sto 700 .iGrid [],.sto 1200 .iCell [],.sto 1300 .iGrid [(2,50000001)],.sto 1400 .iGrid [(2,48000002)],.sl 1 (.I .i64),.sl 2 (.I .i64),.sl 3 (.I .i64),.sl 4 (.I .i64),.sl 50 (.I .i64),.sl 51 (.I .i64)]⟩)],[(5,false,⟨[(6,.ptr 700 0),(11,.ptr 1200 0),(12,.ptr 1300 0),(13,.ptr 1400 0)],[.sto 700 .iGrid [],.sto 1200 .iCell [],.sto 1300 .iGrid [(2,50000001)],.sto 1400 .iGrid [(2,48000002)],.sl 1 (.I .i64),.sl 2 (.I .i64),.sl 3 (.I .i64),.sl 4 (.I .i64),.sl 50 (.I .i64),.sl 51 (.I .i64)]⟩,0,⟨[(12,.ptr 1300 0),(13,.ptr 1400 0)],[.sto 1300 .iGrid [(2,50000001)],.sto 1400 .iGrid [(2,48000002)]]⟩)]⟩
def pS_GridFill_b1 (m:Nat):Lp (IGrid×ICell×IGrid×IGrid×Int×Int×Int×Int×Int×Int) (IGrid×IGrid):=fun(v25,v26,v27,v28,v29,v30,v31,v32,v33,v34)=>
 br (decide (v34<v33)) (
 bd (α:=IGrid×ICell×IGrid×IGrid×Int×Int×Int×Int×Int×Int) (
 gd (v25.W≠0) <|
 gd (v25.W≠0) <|
 gd (inK .i64 (v34.tdiv v25.W)) <|
 bd (α:=IGrid×ICell×IGrid×IGrid×Int×Int×Int×Int×Int×Int×Int×Bool) (
 br (decide (v29≤v34.tmod v25.W)) (
 gd (inK .i64 (v29+v31)) <|
 br (decide (v34.tmod v25.W<v29+v31)) (
 br (decide (v30≤v34.tdiv v25.W)) (
 gd (inK .i64 (v30+v32)) <|
 some (v25,v26,v27,v28,v29,v30,v31,v32,v34,v33,v34,decide (v34.tdiv v25.W<v30+v32))) <|
 some (v25,v26,v27,v28,v29,v30,v31,v32,v34,v33,v34,false)) <|
 some (v25,v26,v27,v28,v29,v30,v31,v32,v34,v33,v34,false)) <|
 some (v25,v26,v27,v28,v29,v30,v31,v32,v34,v33,v34,false)) fun(x35,x36,x37,x38,x39,x40,x41,x42,x43,x44,x45,x46)=>
 br x46 (
 gd (0≤x43∧x43<(↑x38.Cells.length:Int)) <|
 bd (x38.Cells[0+x43.toNat]?) fun x47=>
 some (x35,x36,x37,IGrid.mk x38.W x38.H (x38.Cells.set (0+x43.toNat) x36),x39,x40,x41,x42,x44,x45)) <|
 some (x35,x36,x37,x38,x39,x40,x41,x42,x44,x45)) fun(x48,x49,x50,x51,x52,x53,x54,x55,x56,x57)=>
 gd (inK .i64 (x57+1)) <|
 some (.inl (x48,x49,x50,x51,x52,x53,x54,x55,x56,x57+1))) <|
 some (.inr (v27,v28))
def pS_GridFill (m:Nat) (a1:IGrid) (a2:Int) (a3:Int) (a4:Int) (a5:Int) (a6:ICell):Option IGrid:=
 bd (α:=IGrid×ICell×IGrid×Int×Int×Int×Int×Bool) (
 bd (pS_GridOk m a1) fun x7=>
 br (!x7) (
 some (a1,a6,IGrid.mk 0 0 [],a2,a3,a4,a5,true)) <|
 bd (pS_CellOk m a6) fun x8=>
 br (!x8) (
 some (a1,a6,IGrid.mk 0 0 [],a2,a3,a4,a5,true)) <|
 bd (pS_l07Small m a2) fun x9=>
 br (!x9) (
 some (a1,a6,IGrid.mk 0 0 [],a2,a3,a4,a5,true)) <|
 bd (pS_l07Small m a3) fun x10=>
 br (!x10) (
 some (a1,a6,IGrid.mk 0 0 [],a2,a3,a4,a5,true)) <|
 bd (pS_l07Small m a4) fun x11=>
 br (!x11) (
 some (a1,a6,IGrid.mk 0 0 [],a2,a3,a4,a5,true)) <|
 bd (pS_l07Small m a5) fun x12=>
 some (a1,a6,IGrid.mk 0 0 [],a2,a3,a4,a5,!x12)) fun(x13,x14,x15,x16,x17,x18,x19,x20)=>
 br x20 (
 some (IGrid.mk 0 0 [])) <|
 bd (pS_l07Copy m x13) fun x21=>
 bd (α:=IGrid×IGrid) (
 loopF (pS_GridFill_b1 m) m (x13,x14,x15,x21,x16,x17,x18,x19,(↑x21.Cells.length:Int),0)) fun(x23,x24)=>
 some x24
def o113 (m:Nat):Orc:=⟨113,[none,none,none,none,none,none],[.st .iGrid [],.I .i64,.I .i64,.I .i64,.I .i64,.st .iCell []],0,(.one (.st .iGrid [(2,99)])),fun v=>pS_GridFill m v.1 v.2.1 v.2.2.1 v.2.2.2.1 v.2.2.2.2.1 v.2.2.2.2.2⟩
theorem c113:CC o113:=mq (cs c56 (cs c107 (cs c57 (cs c58 cn)))) T113 Tryz.f113
def T60:Tab:=⟨[],[(15,false,⟨[(4,.ptr 500 0),(8,.ptr 900 0),(10,.ptr 1100 0),(11,.ptr 1200 0)],[.sto 500 .iGrid [(2,56000002)],.sto 900 .iGrid [(2,50000001)],.sto 1100 .iRect [],.sto 1200 .iRect [],.sl 1 (.row .iNode),.sl 2 (.I .i64)]⟩)],[]⟩
def pS_l19Lines (m:Nat) (slf:IGrid×List INode×Int×IRect→Option IGrid):IGrid×List INode×Int×IRect→Option IGrid:=fun(a1,a2,a3,a4)=>
 gd (0≤a3∧a3<(↑a2.length:Int)) <|
 bd a2[a3.toNat]? fun x5=>
 br (decide (0<x5.Pane)) (
 some a1) <|
 bd (α:=IGrid×IGrid×IRect×IRect×List INode×Int) (
 br x5.Down (
 bd (pS_l13First m x5.First a4.H) fun x6=>
 gd (inK .i64 (a4.Y+x6)) <|
 gd (inK .i64 (a4.Y+x6+1)) <|
 gd (inK .i64 (a4.H-x6)) <|
 gd (inK .i64 (a4.H-x6-1)) <|
 gd (inK .i64 (a4.Y+x6)) <|
 bd (pS_GridFill m a1 a4.X (a4.Y+x6) a4.W 1 (ICell.mk 45 (IAttr.mk 0 0 false false false))) fun x7=>
 some (x7,IGrid.mk 0 0 [],IRect.mk a4.Pane a4.X a4.Y a4.W x6,IRect.mk a4.Pane a4.X (a4.Y+x6+1) a4.W (a4.H-x6-1),a2,a3)) <|
 bd (pS_l13First m x5.First a4.W) fun x8=>
 gd (inK .i64 (a4.X+x8)) <|
 gd (inK .i64 (a4.X+x8+1)) <|
 gd (inK .i64 (a4.W-x8)) <|
 gd (inK .i64 (a4.W-x8-1)) <|
 gd (inK .i64 (a4.X+x8)) <|
 bd (pS_GridFill m a1 (a4.X+x8) a4.Y 1 a4.H (ICell.mk 124 (IAttr.mk 0 0 false false false))) fun x9=>
 some (x9,IGrid.mk 0 0 [],IRect.mk a4.Pane a4.X a4.Y x8 a4.H,IRect.mk a4.Pane (a4.X+x8+1) a4.Y (a4.W-x8-1) a4.H,a2,a3)) fun(x10,x11,x12,x13,x14,x15)=>
 gd (inK .i64 (x15+1)) <|
 bd (slf (x10,x14,x15+1,x12)) fun x16=>
 gd (inK .i64 (x15+1)) <|
 bd (pS_l13End m x14 (x15+1)) fun x17=>
 bd (slf (x16,x14,x17,x13)) fun x18=>
 some x18
def o60 (m:Nat):Orc:=⟨60,[none,none,none,none],[.st .iGrid [],.row .iNode,.I .i64,.st .iRect []],0,(.one (.st .iGrid [])),recF (pS_l19Lines m) m⟩
theorem c60 {G:Nat} {E:World→Prop} (hcl:Cl G E) (m:Nat):Ctr Tryz.prog G E (o60 m):=Ctr.rec (fun slf h=>Ctr.mk (o:=⟨60,[none,none,none,none],[.st .iGrid [],.row .iNode,.I .i64,.st .iRect []],0,(.one (.st .iGrid [])),pS_l19Lines m slf⟩) (csc h (csc (c112 hcl m) (csc (c113 hcl m) (csc (c114 hcl m) csn)))) facts mixed hcl.cl T60 m (fn:=Tryz.f60) (by kernel_rfl) rfl (by kernel_rfl) (fun _=>by kernel_rfl) (fun _ _=>by kernel_rfl) (fun _=>by kernel_rfl)) m
def T21:Tab:=⟨[(2,⟨[(3,.ptr 400 0),(6,.ptr 700 0)],[.sto 400 .iState [],.sto 700 .iGrid [(2,50000001)],.sl 2 (.I .i64),.sl 7 (.I .i64),.sl 25 .B]⟩)],[(16,false,⟨[(3,.ptr 400 0),(6,.ptr 700 0),(8,.ptr 900 0),(9,.ptr 1000 0),(14,.ptr 1500 0)],[.sto 400 .iState [],.sto 700 .iGrid [(2,50000001)],.sto 900 .iWin [],.sto 1000 .iGrid [],.sto 1500 .iRect [],.sl 2 (.I .i64),.sl 15 (.I .i64),.sl 73 (.own .iRect 71000000),.sl 74 (.I .i64),.sl 75 (.I .i64)]⟩)],[(11,false,⟨[(3,.ptr 400 0),(6,.ptr 700 0),(8,.ptr 900 0),(9,.ptr 1000 0)],[.sto 400 .iState [],.sto 700 .iGrid [(2,50000001)],.sto 900 .iWin [],.sto 1000 .iGrid [],.sl 2 (.I .i64),.sl 73 (.own .iRect 71000000),.sl 74 (.I .i64),.sl 75 (.I .i64)]⟩,0,⟨[(6,.ptr 700 0),(9,.ptr 1000 0)],[.sto 700 .iGrid [(2,50000001)],.sto 1000 .iGrid []]⟩)]⟩
def pS_Window_b1 (m:Nat):Lp (IState×IGrid×IWin×IGrid×Int×List IRect×Int×Int) (IGrid×IGrid):=fun(v23,v24,v25,v26,v27,v28,v29,v30)=>
 br (decide (v30<v29)) (
 gd (0≤v30∧v30<(↑v28.length:Int)) <|
 bd (v28[0+v30.toNat]?) fun x31=>
 bd (α:=IState×IGrid×IWin×IGrid×IRect×Int×Int×List IRect×Int×Int) (
 br (x31.Pane==v25.Active) (
 some (v23,v24,v25,v26,x31,v27,v27,v28,v29,v30)) <|
 some (v23,v24,v25,v26,x31,v27,0,v28,v29,v30)) fun(x32,x33,x34,x35,x36,x37,x38,x39,x40,x41)=>
 bd (pS_PaneAt m x32 x36.Pane) fun x42=>
 gd (0≤x42∧x42<(↑x32.Panes.length:Int)) <|
 bd x32.Panes[x42.toNat]? fun x43=>
 bd (pS_Look m x43.Term.S x38) fun x44=>
 bd (pS_GridPaste m x35 x44 x36.X x36.Y) fun x45=>
 gd (inK .i64 (x41+1)) <|
 some (.inl (x32,x33,x34,x45,x37,x39,x40,x41+1))) <|
 some (.inr (v24,v26))
def pS_Window (m:Nat) (a1:IState) (a2:Int) (a3:Int):Option IGrid:=
 bd (pS_WinAt m a1 a2) fun x4=>
 bd (α:=IState×IGrid×Int×Int×Bool) (
 bd (pS_StateOk m a1) fun x5=>
 br (!x5) (
 some (a1,IGrid.mk 0 0 [],a3,x4,true)) <|
 some (a1,IGrid.mk 0 0 [],a3,x4,decide (x4<0))) fun(x6,x7,x8,x9,x10)=>
 br x10 (
 some (IGrid.mk 0 0 [])) <|
 gd (0≤x9∧x9<(↑x6.Wins.length:Int)) <|
 bd x6.Wins[x9.toNat]? fun x11=>
 br x11.Zoom (
 bd (pS_PaneAt m x6 x11.Active) fun x12=>
 gd (0≤x12∧x12<(↑x6.Panes.length:Int)) <|
 bd x6.Panes[x12.toNat]? fun x13=>
 bd (pS_Look m x13.Term.S x8) fun x14=>
 some x14) <|
 bd (pS_GridNew m x6.W x6.H) fun(x15,x16)=>
 bd (recF (pS_l19Lines m) m (x15,x11.Tree,0,IRect.mk 0 0 0 x6.W x6.H)) fun x17=>
 bd (pS_Places m x11.Tree x6.W x6.H) fun(x18,x19)=>
 bd (α:=IGrid×IGrid) (
 loopF (pS_Window_b1 m) m (x6,x7,x11,x17,x8,x18,(↑x18.length:Int),0)) fun(x21,x22)=>
 some x22
def o21 (m:Nat):Orc:=⟨21,[none,none,none],[.st .iState [],.I .i64,.I .i64],0,(.one (.st .iGrid [])),fun v=>pS_Window m v.1 v.2.1 v.2.2⟩
theorem c21:CC o21:=mq (cs c19 (cs c18 (cs c23 (cs c59 (cs c16 (cs c60 (cs c61 (cs c20 cn)))))))) T21 Tryz.f21
def T117:Tab:=⟨[(1,⟨[],[.sl 2 .B]⟩)],[],[]⟩
def pS_l01Num (m:Nat) (a1:Int):Option Bool:=
 bd (α:=Bool) (
 br (decide (0≤a1)) (
 some (decide (a1≤4294967295))) <|
 some false) fun x2=>
 some x2
def o117 (m:Nat):Orc:=⟨117,[none],[.I .i64],0,(.one .B),fun v=>pS_l01Num m v⟩
theorem c117:CC o117:=mq cn T117 Tryz.f117
def pS_NumText (m:Nat) (slf:Int→Option ByteArray):Int→Option ByteArray:=fun a1=>
 bd (pS_l01Num m a1) fun x2=>
 br (!x2) (
 some (ByteArray.mk #[])) <|
 br (decide (a1<10)) (
 gd (inK .i64 (48+a1)) <|
 some (ByteArray.mk #[UInt8.ofNat (IntKind.u8.wrap (48+a1)).toNat])) <|
 gd ((10:Int)≠(0:Int)) <|
 gd (inK .i64 (a1.tdiv 10)) <|
 bd (slf (a1.tdiv 10)) fun x3=>
 gd ((10:Int)≠(0:Int)) <|
 gd (inK .i64 (48+a1.tmod 10)) <|
 gd (x3.size+(ByteArray.mk #[UInt8.ofNat (IntKind.u8.wrap (48+a1.tmod 10)).toNat]).size≤9223372036854775807) <|
 some (x3++ByteArray.mk #[UInt8.ofNat (IntKind.u8.wrap (48+a1.tmod 10)).toNat])
def o62 (m:Nat):Orc:=⟨62,[none],[.I .i64],0,(.one .S),recF (pS_NumText m) m⟩
theorem c62 {G:Nat} {E:World→Prop} (hcl:Cl G E) (m:Nat):Ctr Tryz.prog G E (o62 m):=Ctr.rec (fun slf h=>Ctr.mk (o:=⟨62,[none],[.I .i64],0,(.one .S),pS_NumText m slf⟩) (csc h (csc (c117 hcl m) csn)) facts mixed hcl.cl tn m (fn:=Tryz.f62) (by kernel_rfl) rfl (by kernel_rfl) (fun _=>by kernel_rfl) (fun _ _=>by kernel_rfl) (fun _=>by kernel_rfl)) m
def T22:Tab:=⟨[(2,⟨[(2,.ptr 300 0)],[.sto 300 .iState [],.sl 1 .S,.sl 5 (.I .i64),.sl 18 .B]⟩)],[(11,false,⟨[(2,.ptr 300 0)],[.sto 300 .iState [],.sl 5 (.I .i64),.sl 6 .S,.sl 27 (.row .int),.sl 28 (.I .i64),.sl 29 (.I .i64)]⟩)],[(6,false,⟨[(2,.ptr 300 0)],[.sto 300 .iState [],.sl 5 (.I .i64),.sl 6 .S,.sl 27 (.row .int),.sl 28 (.I .i64),.sl 29 (.I .i64)]⟩,0,⟨[],[.sl 6 .S]⟩)]⟩
def pS_Status_b1 (m:Nat):Lp (IState×Int×ByteArray×List Int×Int×Int) ByteArray:=fun(v12,v13,v14,v15,v16,v17)=>
 br (decide (v17<v16)) (
 bd (α:=IState×Int×ByteArray×List Int×Int×Int) (
 gd (0≤v17∧v17<(↑v15.length:Int)) <|
 bd v15[v17.toNat]? fun x18=>
 gd (v14.size+(ByteArray.mk #[32]).size≤9223372036854775807) <|
 bd (recF (pS_NumText m) m x18) fun x19=>
 gd ((v14++ByteArray.mk #[32]).size+x19.size≤9223372036854775807) <|
 gd ((v14++ByteArray.mk #[32]++x19).size+(ByteArray.mk #[58]).size≤9223372036854775807) <|
 bd (pS_WinAt m v12 x18) fun x20=>
 gd (0≤x20∧x20<(↑v12.Wins.length:Int)) <|
 bd v12.Wins[x20.toNat]? fun x21=>
 gd ((v14++ByteArray.mk #[32]++x19++ByteArray.mk #[58]).size+x21.Name.size≤9223372036854775807) <|
 gd (0≤v13∧v13<(↑v12.Sess.length:Int)) <|
 bd v12.Sess[v13.toNat]? fun x22=>
 br (x18==x22.Active) (
 gd ((v14++ByteArray.mk #[32]++x19++ByteArray.mk #[58]++x21.Name).size+(ByteArray.mk #[42]).size≤9223372036854775807) <|
 some (v12,v13,v14++ByteArray.mk #[32]++x19++ByteArray.mk #[58]++x21.Name++ByteArray.mk #[42],v15,v16,v17)) <|
 some (v12,v13,v14++ByteArray.mk #[32]++x19++ByteArray.mk #[58]++x21.Name,v15,v16,v17)) fun(x23,x24,x25,x26,x27,x28)=>
 gd (inK .i64 (x28+1)) <|
 some (.inl (x23,x24,x25,x26,x27,x28+1))) <|
 some (.inr v14)
def pS_Status (m:Nat) (a1:IState) (a2:ByteArray):Option ByteArray:=
 bd (pS_SessAt m a1 a2) fun x3=>
 bd (α:=IState×ByteArray×Int×Bool) (
 bd (pS_StateOk m a1) fun x4=>
 br (!x4) (
 some (a1,a2,x3,true)) <|
 some (a1,a2,x3,decide (x3<0))) fun(x5,x6,x7,x8)=>
 br x8 (
 some (ByteArray.mk #[])) <|
 gd ((ByteArray.mk #[91]).size+x6.size≤9223372036854775807) <|
 gd ((ByteArray.mk #[91]++x6).size+(ByteArray.mk #[93]).size≤9223372036854775807) <|
 gd (0≤x7∧x7<(↑x5.Sess.length:Int)) <|
 bd x5.Sess[x7.toNat]? fun x9=>
 bd (α:=ByteArray) (
 loopF (pS_Status_b1 m) m (x5,x7,ByteArray.mk #[91]++x6++ByteArray.mk #[93],x9.Wins,(↑x9.Wins.length:Int),0)) fun x11=>
 some x11
def o22 (m:Nat):Orc:=⟨22,[none,none],[.st .iState [],.S],0,(.one .S),fun v=>pS_Status m v.1 v.2⟩
theorem c22:CC o22:=mq (cs c17 (cs c18 (cs c62 (cs c19 cn)))) T22 Tryz.f22
def T5:Tab:=⟨[(3,⟨[(5,.ptr 600 0),(10,.ptr 1100 0),(12,.ptr 1300 0)],[.sto 600 .iState [],.sto 1100 .iView [(2,50000001)],.sto 1300 .iGrid [(2,29000002)],.sl 1 .S,.sl 2 (.I .i64),.sl 3 (.I .i64),.sl 4 (.I .i64),.sl 14 (.I .i64),.sl 44 .B]⟩),(22,⟨[(10,.ptr 1100 0),(19,.ptr 2000 0)],[.sto 1100 .iView [(2,50000001)],.sto 2000 .iView [(2,65000002)],.sl 23 (.I .i64),.sl 24 (.I .i64),.sl 148 .B]⟩)],[(14,false,⟨[(5,.ptr 600 0),(10,.ptr 1100 0),(12,.ptr 1300 0),(15,.ptr 1600 0),(18,.ptr 1900 0)],[.sto 600 .iState [],.sto 1100 .iView [(2,50000001)],.sto 1300 .iGrid [(2,65000002)],.sto 1600 .iWin [],.sto 1900 .iCell [],.sl 2 (.I .i64),.sl 3 (.I .i64),.sl 4 (.I .i64),.sl 16 .S,.sl 17 (.I .i64)]⟩),(20,false,⟨[(10,.ptr 1100 0),(19,.ptr 2000 0),(20,.ptr 2100 0),(21,.ptr 2200 0)],[.sto 1100 .iView [(2,50000001)],.sto 2000 .iView [(2,65000002)],.sto 2100 .iScr [],.sto 2200 .iRect [],.sl 2 (.I .i64),.sl 3 (.I .i64),.sl 4 (.I .i64)]⟩),(26,false,⟨[(10,.ptr 1100 0),(19,.ptr 2000 0)],[.sto 1100 .iView [(2,50000001)],.sto 2000 .iView [(2,65000002)]]⟩)],[(9,false,⟨[(5,.ptr 600 0),(10,.ptr 1100 0),(12,.ptr 1300 0),(15,.ptr 1600 0)],[.sto 600 .iState [],.sto 1100 .iView [(2,50000001)],.sto 1300 .iGrid [(2,65000002)],.sto 1600 .iWin [],.sl 2 (.I .i64),.sl 3 (.I .i64),.sl 4 (.I .i64),.sl 16 .S,.sl 17 (.I .i64)]⟩,0,⟨[(5,.ptr 600 0),(10,.ptr 1100 0),(12,.ptr 1300 0),(15,.ptr 1600 0)],[.sto 600 .iState [],.sto 1100 .iView [(2,50000001)],.sto 1300 .iGrid [(2,65000002)],.sto 1600 .iWin [],.sl 2 (.I .i64),.sl 3 (.I .i64),.sl 4 (.I .i64)]⟩)]⟩
def pS_Picture_b1 (m:Nat):Lp (IState×IView×IGrid×IWin×Int×Int×Int×ByteArray×Int) (IState×IView×IGrid×IWin×Int×Int×Int):=fun(v51,v52,v53,v54,v55,v56,v57,v58,v59)=>
 br (decide (v59<v55)) (
 bd (α:=IState×IView×IGrid×IWin×ICell×Int×Int×Int×ByteArray×Int) (
 br (decide (v59<(↑v58.size:Int))) (
 gd (0≤v59) <|
 bd v58[v59.toNat]? fun x60=>
 some (v51,v52,v53,v54,ICell.mk (↑x60.toNat:Int) (IAttr.mk 0 0 false false true),v55,v56,v57,v58,v59)) <|
 some (v51,v52,v53,v54,ICell.mk 32 (IAttr.mk 0 0 false false true),v55,v56,v57,v58,v59)) fun(x61,x62,x63,x64,x65,x66,x67,x68,x69,x70)=>
 gd (inK .i64 (x67-1)) <|
 gd (inK .i64 ((x67-1)*x66)) <|
 gd (inK .i64 ((x67-1)*x66+x70)) <|
 gd (0≤(x67-1)*x66+x70∧(x67-1)*x66+x70<(↑x63.Cells.length:Int)) <|
 bd (x63.Cells[0+((x67-1)*x66+x70).toNat]?) fun x71=>
 gd (inK .i64 (x70+1)) <|
 some (.inl (x61,x62,IGrid.mk x63.W x63.H (x63.Cells.set (0+((x67-1)*x66+x70).toNat) x65),x64,x66,x67,x68,x69,x70+1))) <|
 some (.inr (v51,v52,v53,v54,v55,v56,v57))
def pS_Picture (m:Nat) (a1:IState) (a2:ByteArray) (a3:Int) (a4:Int) (a5:Int):Option (IView×Bool):=
 bd (pS_GridNew m a3 a4) fun(x6,x7)=>
 bd (pS_SessAt m a1 a2) fun x8=>
 bd (α:=IState×IView×IGrid×ByteArray×Int×Int×Int×Int×Bool) (
 bd (pS_StateOk m a1) fun x9=>
 br (!x9) (
 some (a1,IView.mk (IGrid.mk 0 0 []) 0 0 false,x6,a2,a3,a4,a5,x8,true)) <|
 br (decide (x8<0)) (
 some (a1,IView.mk (IGrid.mk 0 0 []) 0 0 false,x6,a2,a3,a4,a5,x8,true)) <|
 some (a1,IView.mk (IGrid.mk 0 0 []) 0 0 false,x6,a2,a3,a4,a5,x8,!x7)) fun(x10,x11,x12,x13,x14,x15,x16,x17,x18)=>
 br x18 (
 some (IView.mk (IGrid.mk 0 0 []) 0 0 false,false)) <|
 gd (0≤x17∧x17<(↑x10.Sess.length:Int)) <|
 bd x10.Sess[x17.toNat]? fun x19=>
 bd (pS_WinAt m x10 x19.Active) fun x20=>
 gd (0≤x20∧x20<(↑x10.Wins.length:Int)) <|
 bd x10.Wins[x20.toNat]? fun x21=>
 bd (pS_Window m x10 x21.Id x16) fun x22=>
 bd (pS_GridPaste m x12 x22 0 0) fun x23=>
 bd (pS_Status m x10 x13) fun x24=>
 bd (α:=IState×IView×IGrid×IWin×Int×Int×Int) (
 loopF (pS_Picture_b1 m) m (x10,x11,x23,x21,x14,x15,x16,x24,0)) fun(x26,x27,x28,x29,x30,x31,x32)=>
 bd (pS_PaneAt m x26 x29.Active) fun x33=>
 gd (0≤x33∧x33<(↑x26.Panes.length:Int)) <|
 bd x26.Panes[x33.toNat]? fun x34=>
 bd (pS_PlaceOf m x29.Tree x26.W x26.H x29.Active) fun(x35,x36)=>
 bd (α:=IView×IView×IScr×IRect×Int×Int×Int) (
 br x29.Zoom (
 some (x27,IView.mk x28 0 0 true,x34.Term.S,IRect.mk 0 0 0 0 0,x30,x31,x32)) <|
 some (x27,IView.mk x28 0 0 true,x34.Term.S,x35,x30,x31,x32)) fun(x37,x38,x39,x40,x41,x42,x43)=>
 gd (inK .i64 (x40.X+x39.X)) <|
 gd (inK .i64 (x40.Y+x39.Y)) <|
 bd (α:=IView×IView) (
 bd (α:=IView×IView×Int×Int×Bool) (
 br (decide (x43≤0)) (
 br (!x39.Hide) (
 br (decide (x40.X+x39.X<x41)) (
 gd (inK .i64 (x42-1)) <|
 some (x37,x38,x40.X+x39.X,x40.Y+x39.Y,decide (x40.Y+x39.Y<x42-1))) <|
 some (x37,x38,x40.X+x39.X,x40.Y+x39.Y,false)) <|
 some (x37,x38,x40.X+x39.X,x40.Y+x39.Y,false)) <|
 some (x37,x38,x40.X+x39.X,x40.Y+x39.Y,false)) fun(x44,x45,x46,x47,x48)=>
 br x48 (
 some (x44,IView.mk x45.Grid x46 x47 false)) <|
 some (x44,x45)) fun(x49,x50)=>
 some (x50,true)
def o5 (m:Nat):Orc:=⟨5,[none,none,none,none,none],[.st .iState [],.S,.I .i64,.I .i64,.I .i64],0,(.tup [.st .iView [(2,99)],.B]),fun v=>pS_Picture m v.1 v.2.1 v.2.2.1 v.2.2.2.1 v.2.2.2.2⟩
theorem c5:CC o5:=mq (cs c16 (cs c17 (cs c18 (cs c19 (cs c21 (cs c20 (cs c22 (cs c23 (cs c24 cn))))))))) T5 Tryz.f5
def T120:Tab:=⟨[],[],[(3,false,⟨[],[.sl 0 (.row .int),.sl 3 (.own .int 800),.sl 4 (.I .i64)]⟩,0,⟨[],[.sl 3 (.own .int 800)]⟩)]⟩
def pL_toIntS_b1 (m:Nat):Lp (List Int×List Int×Int) (List Int):=fun(v4,v5,v6)=>
 br (decide (v6<(↑v4.length:Int))) (
 gd (0≤v6∧v6<(↑v4.length:Int)) <|
 bd v4[v6.toNat]? fun x7=>
 gd (0≤v6∧v6<(↑v5.length:Int)) <|
 bd (v5[0+v6.toNat]?) fun x8=>
 gd (inK .i64 (v6+1)) <|
 some (.inl (v4,v5.set (0+v6.toNat) x7,v6+1))) <|
 some (.inr v5)
def pL_toIntS (m:Nat) (a1:List Int):Option (List Int):=
 gd (0≤(↑a1.length:Int)∧(↑a1.length:Int)≤(↑a1.length:Int)) <|
 gd (roomB .int (↑a1.length:Int).toNat) <|
 bd (α:=List Int) (
 loopF (pL_toIntS_b1 m) m (a1,List.replicate (↑a1.length:Int).toNat (zK K.int),0)) fun x3=>
 some x3
def o120 (m:Nat):Orc:=⟨120,[none],[.row .int],0,(.one (.own .int 99)),fun v=>pL_toIntS m v⟩
theorem c120:CC o120:=mq cn T120 Tryz.f120
def T184:Tab:=⟨[],[],[(3,false,⟨[],[.sl 0 (.row .u8),.sl 3 (.own .u8 800),.sl 4 (.I .i64)]⟩,0,⟨[],[.sl 3 (.own .u8 800)]⟩)]⟩
def pL_toByteS_b1 (m:Nat):Lp (List UInt8×List UInt8×Int) (List UInt8):=fun(v4,v5,v6)=>
 br (decide (v6<(↑v4.length:Int))) (
 gd (0≤v6∧v6<(↑v4.length:Int)) <|
 bd v4[v6.toNat]? fun x7=>
 gd (0≤v6∧v6<(↑v5.length:Int)) <|
 bd (v5[0+v6.toNat]?) fun x8=>
 gd (inK .i64 (v6+1)) <|
 some (.inl (v4,v5.set (0+v6.toNat) (UInt8.ofNat (↑x7.toNat:Int).toNat),v6+1))) <|
 some (.inr v5)
def pL_toByteS (m:Nat) (a1:List UInt8):Option (List UInt8):=
 gd (0≤(↑a1.length:Int)∧(↑a1.length:Int)≤(↑a1.length:Int)) <|
 gd (roomB .u8 (↑a1.length:Int).toNat) <|
 bd (α:=List UInt8) (
 loopF (pL_toByteS_b1 m) m (a1,List.replicate (↑a1.length:Int).toNat (zK K.u8),0)) fun x3=>
 some x3
def o184 (m:Nat):Orc:=⟨184,[none],[.row .u8],0,(.one (.own .u8 99)),fun v=>pL_toByteS m v⟩
theorem c184:CC o184:=mq cn T184 Tryz.f184
def pL_toVp (m:Nat) (a1:LVp):Option IVp:=
 bd (pL_toIntS m a1.Args) fun x2=>
 bd (pL_toByteS m a1.Part) fun x3=>
 some (IVp.mk a1.State a1.Mark x2 x3)
def o157 (m:Nat):Orc:=⟨157,[none],[.st .lVp []],0,(.one (.st .iVp [(2,99),(3,99)])),fun v=>pL_toVp m v⟩
theorem c157:CC o157:=mq (cs c120 (cs c184 cn)) tn Tryz.f157
def pL_toAttr (m:Nat) (a1:LAttr):Option IAttr:=
 some (IAttr.mk a1.Fg a1.Bg a1.Bold a1.Under a1.Turn)
def o186 (m:Nat):Orc:=⟨186,[none],[.st .lAttr []],0,(.one (.st .iAttr [])),fun v=>pL_toAttr m v⟩
theorem c186:CC o186:=mq cn tn Tryz.f186
def pL_toCell (m:Nat) (a1:LCell):Option ICell:=
 bd (pL_toAttr m a1.A) fun x2=>
 some (ICell.mk a1.R x2)
def o229 (m:Nat):Orc:=⟨229,[none],[.st .lCell []],0,(.one (.st .iCell [])),fun v=>pL_toCell m v⟩
theorem c229:CC o229:=mq (cs c186 cn) tn Tryz.f229
def T203:Tab:=⟨[],[],[(3,false,⟨[],[.sl 0 (.row .lCell),.sl 3 (.own .iCell 800),.sl 4 (.I .i64)]⟩,0,⟨[],[.sl 3 (.own .iCell 800)]⟩)]⟩
def pL_toCellS_b1 (m:Nat):Lp (List LCell×List ICell×Int) (List ICell):=fun(v4,v5,v6)=>
 br (decide (v6<(↑v4.length:Int))) (
 gd (0≤v6∧v6<(↑v4.length:Int)) <|
 bd v4[v6.toNat]? fun x7=>
 bd (pL_toCell m x7) fun x8=>
 gd (0≤v6∧v6<(↑v5.length:Int)) <|
 bd (v5[0+v6.toNat]?) fun x9=>
 gd (inK .i64 (v6+1)) <|
 some (.inl (v4,v5.set (0+v6.toNat) x8,v6+1))) <|
 some (.inr v5)
def pL_toCellS (m:Nat) (a1:List LCell):Option (List ICell):=
 gd (0≤(↑a1.length:Int)∧(↑a1.length:Int)≤(↑a1.length:Int)) <|
 gd (roomB .iCell (↑a1.length:Int).toNat) <|
 bd (α:=List ICell) (
 loopF (pL_toCellS_b1 m) m (a1,List.replicate (↑a1.length:Int).toNat (zK K.iCell),0)) fun x3=>
 some x3
def o203 (m:Nat):Orc:=⟨203,[none],[.row .lCell],0,(.one (.own .iCell 99)),fun v=>pL_toCellS m v⟩
theorem c203:CC o203:=mq (cs c229 cn) T203 Tryz.f203
def pL_toGrid (m:Nat) (a1:LGrid):Option IGrid:=
 bd (pL_toCellS m a1.Cells) fun x2=>
 some (IGrid.mk a1.W a1.H x2)
def o185 (m:Nat):Orc:=⟨185,[none],[.st .lGrid []],0,(.one (.st .iGrid [(2,99)])),fun v=>pL_toGrid m v⟩
theorem c185:CC o185:=mq (cs c203 cn) tn Tryz.f185
def pL_toRow (m:Nat) (a1:LRow):Option IRow:=
 bd (pL_toCellS m a1.Cells) fun x2=>
 some (IRow.mk x2)
def o204 (m:Nat):Orc:=⟨204,[none],[.st .lRow []],0,(.one (.st .iRow [(0,99)])),fun v=>pL_toRow m v⟩
theorem c204:CC o204:=mq (cs c203 cn) tn Tryz.f204
def T187:Tab:=⟨[],[],[(3,false,⟨[],[.sl 0 (.row .lRow),.sl 3 (.own .iRow 1000000800),.sl 4 (.I .i64)]⟩,0,⟨[],[.sl 3 (.own .iRow 1000000800)]⟩)]⟩
def pL_toRowS_b1 (m:Nat):Lp (List LRow×List IRow×Int) (List IRow):=fun(v4,v5,v6)=>
 br (decide (v6<(↑v4.length:Int))) (
 gd (0≤v6∧v6<(↑v4.length:Int)) <|
 bd v4[v6.toNat]? fun x7=>
 bd (pL_toRow m x7) fun x8=>
 gd (0≤v6∧v6<(↑v5.length:Int)) <|
 bd (v5[0+v6.toNat]?) fun x9=>
 gd (inK .i64 (v6+1)) <|
 some (.inl (v4,v5.set (0+v6.toNat) x8,v6+1))) <|
 some (.inr v5)
def pL_toRowS (m:Nat) (a1:List LRow):Option (List IRow):=
 gd (0≤(↑a1.length:Int)∧(↑a1.length:Int)≤(↑a1.length:Int)) <|
 gd (roomB .iRow (↑a1.length:Int).toNat) <|
 bd (α:=List IRow) (
 loopF (pL_toRowS_b1 m) m (a1,List.replicate (↑a1.length:Int).toNat (zK K.iRow),0)) fun x3=>
 some x3
def o187 (m:Nat):Orc:=⟨187,[none],[.row .lRow],0,(.one (.own .iRow 1000000000)),fun v=>pL_toRowS m v⟩
theorem c187:CC o187:=mq (cs c204 cn) T187 Tryz.f187
def pL_toScr (m:Nat) (a1:LScr):Option IScr:=
 bd (pL_toGrid m a1.Main) fun x2=>
 bd (pL_toGrid m a1.Alt) fun x3=>
 bd (pL_toAttr m a1.A) fun x4=>
 bd (pL_toAttr m a1.SaveA) fun x5=>
 bd (pL_toIntS m a1.Tabs) fun x6=>
 bd (pL_toRowS m a1.Back) fun x7=>
 some (IScr.mk a1.W a1.H x2 x3 a1.OnAlt a1.X a1.Y a1.Wrap x4 a1.Top a1.Bot a1.NoWrap a1.Hide a1.SaveX a1.SaveY x5 x6 a1.Limit x7)
def o158 (m:Nat):Orc:=⟨158,[none],[.st .lScr []],0,(.one (.st .iScr [(4,99),(7,99),(28,99),(30,1000000000)])),fun v=>pL_toScr m v⟩
theorem c158:CC o158:=mq (cs c185 (cs c186 (cs c120 (cs c187 cn)))) tn Tryz.f158
def pL_toTerm (m:Nat) (a1:LTerm):Option ITerm:=
 bd (pL_toVp m a1.P) fun x2=>
 bd (pL_toScr m a1.S) fun x3=>
 some (ITerm.mk x2 x3)
def o118 (m:Nat):Orc:=⟨118,[none],[.st .lTerm []],0,(.one (.st .iTerm [(2,99),(3,99),(8,99),(11,99),(32,99),(34,1000000000)])),fun v=>pL_toTerm m v⟩
theorem c118:CC o118:=mq (cs c157 (cs c158 cn)) tn Tryz.f118
def pL_toPane (m:Nat) (a1:LPane):Option IPane:=
 bd (pL_toTerm m a1.Term) fun x2=>
 some (IPane.mk a1.Id a1.Cmd a1.Dir a1.Life a1.Code a1.Pid x2)
def o63 (m:Nat):Orc:=⟨63,[none],[.st .lPane []],0,(.one (.st .iPane [(8,99),(9,99),(14,99),(17,99),(38,99),(40,1000000000)])),fun v=>pL_toPane m v⟩
theorem c63:CC o63:=mq (cs c118 cn) tn Tryz.f63
def T25:Tab:=⟨[],[],[(3,false,⟨[],[.sl 0 (.row .lPane),.sl 3 (.own .iPane 1000000800),.sl 4 (.I .i64)]⟩,0,⟨[],[.sl 3 (.own .iPane 1000000800)]⟩)]⟩
def pL_toPaneS_b1 (m:Nat):Lp (List LPane×List IPane×Int) (List IPane):=fun(v4,v5,v6)=>
 br (decide (v6<(↑v4.length:Int))) (
 gd (0≤v6∧v6<(↑v4.length:Int)) <|
 bd v4[v6.toNat]? fun x7=>
 bd (pL_toPane m x7) fun x8=>
 gd (0≤v6∧v6<(↑v5.length:Int)) <|
 bd (v5[0+v6.toNat]?) fun x9=>
 gd (inK .i64 (v6+1)) <|
 some (.inl (v4,v5.set (0+v6.toNat) x8,v6+1))) <|
 some (.inr v5)
def pL_toPaneS (m:Nat) (a1:List LPane):Option (List IPane):=
 gd (0≤(↑a1.length:Int)∧(↑a1.length:Int)≤(↑a1.length:Int)) <|
 gd (roomB .iPane (↑a1.length:Int).toNat) <|
 bd (α:=List IPane) (
 loopF (pL_toPaneS_b1 m) m (a1,List.replicate (↑a1.length:Int).toNat (zK K.iPane),0)) fun x3=>
 some x3
def o25 (m:Nat):Orc:=⟨25,[none],[.row .lPane],0,(.one (.own .iPane 1000000000)),fun v=>pL_toPaneS m v⟩
theorem c25:CC o25:=mq (cs c63 cn) T25 Tryz.f25
def pL_toNode (m:Nat) (a1:LNode):Option INode:=
 some (INode.mk a1.Pane a1.Down a1.First)
def o159 (m:Nat):Orc:=⟨159,[none],[.st .lNode []],0,(.one (.st .iNode [])),fun v=>pL_toNode m v⟩
theorem c159:CC o159:=mq cn tn Tryz.f159
def T119:Tab:=⟨[],[],[(3,false,⟨[],[.sl 0 (.row .lNode),.sl 3 (.own .iNode 800),.sl 4 (.I .i64)]⟩,0,⟨[],[.sl 3 (.own .iNode 800)]⟩)]⟩
def pL_toNodeS_b1 (m:Nat):Lp (List LNode×List INode×Int) (List INode):=fun(v4,v5,v6)=>
 br (decide (v6<(↑v4.length:Int))) (
 gd (0≤v6∧v6<(↑v4.length:Int)) <|
 bd v4[v6.toNat]? fun x7=>
 bd (pL_toNode m x7) fun x8=>
 gd (0≤v6∧v6<(↑v5.length:Int)) <|
 bd (v5[0+v6.toNat]?) fun x9=>
 gd (inK .i64 (v6+1)) <|
 some (.inl (v4,v5.set (0+v6.toNat) x8,v6+1))) <|
 some (.inr v5)
def pL_toNodeS (m:Nat) (a1:List LNode):Option (List INode):=
 gd (0≤(↑a1.length:Int)∧(↑a1.length:Int)≤(↑a1.length:Int)) <|
 gd (roomB .iNode (↑a1.length:Int).toNat) <|
 bd (α:=List INode) (
 loopF (pL_toNodeS_b1 m) m (a1,List.replicate (↑a1.length:Int).toNat (zK K.iNode),0)) fun x3=>
 some x3
def o119 (m:Nat):Orc:=⟨119,[none],[.row .lNode],0,(.one (.own .iNode 99)),fun v=>pL_toNodeS m v⟩
theorem c119:CC o119:=mq (cs c159 cn) T119 Tryz.f119
def pL_toWin (m:Nat) (a1:LWin):Option IWin:=
 bd (pL_toNodeS m a1.Tree) fun x2=>
 some (IWin.mk a1.Id a1.Name x2 a1.Active a1.Zoom)
def o64 (m:Nat):Orc:=⟨64,[none],[.st .lWin []],0,(.one (.st .iWin [(2,99)])),fun v=>pL_toWin m v⟩
theorem c64:CC o64:=mq (cs c119 cn) tn Tryz.f64
def T26:Tab:=⟨[],[],[(3,false,⟨[],[.sl 0 (.row .lWin),.sl 3 (.own .iWin 1000000800),.sl 4 (.I .i64)]⟩,0,⟨[],[.sl 3 (.own .iWin 1000000800)]⟩)]⟩
def pL_toWinS_b1 (m:Nat):Lp (List LWin×List IWin×Int) (List IWin):=fun(v4,v5,v6)=>
 br (decide (v6<(↑v4.length:Int))) (
 gd (0≤v6∧v6<(↑v4.length:Int)) <|
 bd v4[v6.toNat]? fun x7=>
 bd (pL_toWin m x7) fun x8=>
 gd (0≤v6∧v6<(↑v5.length:Int)) <|
 bd (v5[0+v6.toNat]?) fun x9=>
 gd (inK .i64 (v6+1)) <|
 some (.inl (v4,v5.set (0+v6.toNat) x8,v6+1))) <|
 some (.inr v5)
def pL_toWinS (m:Nat) (a1:List LWin):Option (List IWin):=
 gd (0≤(↑a1.length:Int)∧(↑a1.length:Int)≤(↑a1.length:Int)) <|
 gd (roomB .iWin (↑a1.length:Int).toNat) <|
 bd (α:=List IWin) (
 loopF (pL_toWinS_b1 m) m (a1,List.replicate (↑a1.length:Int).toNat (zK K.iWin),0)) fun x3=>
 some x3
def o26 (m:Nat):Orc:=⟨26,[none],[.row .lWin],0,(.one (.own .iWin 1000000000)),fun v=>pL_toWinS m v⟩
theorem c26:CC o26:=mq (cs c64 cn) T26 Tryz.f26
def pL_toSess (m:Nat) (a1:LSess):Option ISess:=
 bd (pL_toIntS m a1.Wins) fun x2=>
 some (ISess.mk a1.Name x2 a1.Active)
def o65 (m:Nat):Orc:=⟨65,[none],[.st .lSess []],0,(.one (.st .iSess [(1,99)])),fun v=>pL_toSess m v⟩
theorem c65:CC o65:=mq (cs c120 cn) tn Tryz.f65
def T27:Tab:=⟨[],[],[(3,false,⟨[],[.sl 0 (.row .lSess),.sl 3 (.own .iSess 1000000800),.sl 4 (.I .i64)]⟩,0,⟨[],[.sl 3 (.own .iSess 1000000800)]⟩)]⟩
def pL_toSessS_b1 (m:Nat):Lp (List LSess×List ISess×Int) (List ISess):=fun(v4,v5,v6)=>
 br (decide (v6<(↑v4.length:Int))) (
 gd (0≤v6∧v6<(↑v4.length:Int)) <|
 bd v4[v6.toNat]? fun x7=>
 bd (pL_toSess m x7) fun x8=>
 gd (0≤v6∧v6<(↑v5.length:Int)) <|
 bd (v5[0+v6.toNat]?) fun x9=>
 gd (inK .i64 (v6+1)) <|
 some (.inl (v4,v5.set (0+v6.toNat) x8,v6+1))) <|
 some (.inr v5)
def pL_toSessS (m:Nat) (a1:List LSess):Option (List ISess):=
 gd (0≤(↑a1.length:Int)∧(↑a1.length:Int)≤(↑a1.length:Int)) <|
 gd (roomB .iSess (↑a1.length:Int).toNat) <|
 bd (α:=List ISess) (
 loopF (pL_toSessS_b1 m) m (a1,List.replicate (↑a1.length:Int).toNat (zK K.iSess),0)) fun x3=>
 some x3
def o27 (m:Nat):Orc:=⟨27,[none],[.row .lSess],0,(.one (.own .iSess 1000000000)),fun v=>pL_toSessS m v⟩
theorem c27:CC o27:=mq (cs c65 cn) T27 Tryz.f27
def pL_toState (m:Nat) (a1:LState):Option IState:=
 bd (pL_toPaneS m a1.Panes) fun x2=>
 bd (pL_toWinS m a1.Wins) fun x3=>
 bd (pL_toSessS m a1.Sess) fun x4=>
 some (IState.mk a1.W a1.H a1.Limit a1.Next x2 x3 x4)
def o6 (m:Nat):Orc:=⟨6,[none],[.st .lState []],0,(.one (.st .iState [(4,1000000000),(5,1000000000),(6,1000000000)])),fun v=>pL_toState m v⟩
theorem c6:CC o6:=mq (cs c25 (cs c26 (cs c27 cn))) tn Tryz.f6
def pI_SessAt_1 (m:Nat) (a1:ISess) (a2:ByteArray):Option (Bool×ByteArray):=
 some (decide (a1.Name=a2),a2)
def o1006700 (m:Nat):Orc:=⟨67,[none,some (.ptr 0 0 0 0)],[.st .iSess [],.S],1,(.tup [.B,.S]),fun v=>pI_SessAt_1 m v.1 v.2⟩
theorem c1006700:CC o1006700:=mq cn tn Tryz.f67
def T1006600:Tab:=⟨[],[],[(2,true,⟨[(1,.fn 67 [(0,0)])],[.bxl 0 [.S],.sl 0 (.row .iSess),.sl 7 (.I .i64),.sl 8 (.I .i64)]⟩,0,⟨[],[.bxl 0 [.S]]⟩)]⟩
def pG_slices_IndexFunc_ISess_I_SessAt_1_b1 (m:Nat):Lp (ByteArray×List ISess×Int×Int) (ByteArray⊕Int×ByteArray):=fun(v5,v6,v7,v8)=>
 br (decide (v8<v7)) (
 gd (0≤v8∧v8<(↑v6.length:Int)) <|
 bd v6[v8.toNat]? fun x9=>
 bd (pI_SessAt_1 m x9 v5) fun(x10,x11)=>
 br x10 (
 some (.inr (.inr (v8,x11)))) <|
 gd (inK .i64 (v8+1)) <|
 some (.inl (x11,v6,v7,v8+1))) <|
 some (.inr (.inl v5))
def pG_slices_IndexFunc_ISess_I_SessAt_1 (m:Nat) (a1:List ISess) (a2:ByteArray):Option (Int×ByteArray):=
 jn (V:=ByteArray) (
 loopF (pG_slices_IndexFunc_ISess_I_SessAt_1_b1 m) m (a2,a1,(↑a1.length:Int),0)) fun v4=>
 some (-1,v4)
def o1006600 (m:Nat):Orc:=⟨66,[none,some (.fn 67 [.ptr 0 0 0 0])],[.row .iSess,.S],1,(.tup [.I .i64,.S]),fun v=>pG_slices_IndexFunc_ISess_I_SessAt_1 m v.1 v.2⟩
theorem c1006600:CC o1006600:=mq (cs c1006700 cn) T1006600 Tryz.f66
def pI_SessAt (m:Nat) (a1:IState) (a2:ByteArray):Option Int:=
 bd (pG_slices_IndexFunc_ISess_I_SessAt_1 m a1.Sess a2) fun(x3,x4)=>
 some x3
def o28 (m:Nat):Orc:=⟨28,[none,none],[.st .iState [],.S],0,(.one (.I .i64)),fun v=>pI_SessAt m v.1 v.2⟩
theorem c28:CC o28:=mq (cs c1006600 cn) tn Tryz.f28
def T68:Tab:=⟨[(1,⟨[],[.sl 6 .B]⟩)],[],[]⟩
def pI_within (m:Nat) (a1:Int) (a2:Int) (a3:Int):Option Bool:=
 bd (α:=Bool) (
 br (decide (a2≤a1)) (
 some (decide (a1≤a3))) <|
 some false) fun x4=>
 some x4
def o68 (m:Nat):Orc:=⟨68,[none,none,none],[.I .i64,.I .i64,.I .i64],0,(.one .B),fun v=>pI_within m v.1 v.2.1 v.2.2⟩
theorem c68:CC o68:=mq cn T68 Tryz.f68
def T30:Tab:=⟨[(1,⟨[],[.sl 4 .B]⟩)],[],[]⟩
def pI_isSize (m:Nat) (a1:Int) (a2:Int):Option Bool:=
 bd (α:=Bool) (
 bd (pI_within m a1 1 120) fun x3=>
 br x3 (
 bd (pI_within m a2 1 120) fun x4=>
 br x4 (
 gd (inK .i64 (a1*a2)) <|
 some (decide (a1*a2≤4000))) <|
 some false) <|
 some false) fun x5=>
 some x5
def o30 (m:Nat):Orc:=⟨30,[none,none],[.I .i64,.I .i64],0,(.one .B),fun v=>pI_isSize m v.1 v.2⟩
theorem c30:CC o30:=mq (cs c68 cn) T30 Tryz.f30
def pI_isId (m:Nat) (a1:Int):Option Bool:=
 bd (pI_within m a1 1 1000000) fun x2=>
 some x2
def o69 (m:Nat):Orc:=⟨69,[none],[.I .i64],0,(.one .B),fun v=>pI_isId m v⟩
theorem c69:CC o69:=mq (cs c68 cn) tn Tryz.f69
def pI_WinAt_1 (m:Nat) (a1:IWin) (a2:Int):Option (Bool×Int):=
 some (a1.Id==a2,a2)
def o1007700 (m:Nat):Orc:=⟨77,[none,some (.ptr 0 0 0 0)],[.st .iWin [],.I .i64],1,(.tup [.B,.I .i64]),fun v=>pI_WinAt_1 m v.1 v.2⟩
theorem c1007700:CC o1007700:=mq cn tn Tryz.f77
def T1007600:Tab:=⟨[],[],[(2,true,⟨[(1,.fn 77 [(0,0)])],[.bxl 0 [.I .i64],.sl 0 (.row .iWin),.sl 7 (.I .i64),.sl 8 (.I .i64)]⟩,0,⟨[],[.bxl 0 [.I .i64]]⟩)]⟩
def pG_slices_IndexFunc_IWin_I_WinAt_1_b1 (m:Nat):Lp (Int×List IWin×Int×Int) (Int⊕Int×Int):=fun(v5,v6,v7,v8)=>
 br (decide (v8<v7)) (
 gd (0≤v8∧v8<(↑v6.length:Int)) <|
 bd v6[v8.toNat]? fun x9=>
 bd (pI_WinAt_1 m x9 v5) fun(x10,x11)=>
 br x10 (
 some (.inr (.inr (v8,x11)))) <|
 gd (inK .i64 (v8+1)) <|
 some (.inl (x11,v6,v7,v8+1))) <|
 some (.inr (.inl v5))
def pG_slices_IndexFunc_IWin_I_WinAt_1 (m:Nat) (a1:List IWin) (a2:Int):Option (Int×Int):=
 jn (V:=Int) (
 loopF (pG_slices_IndexFunc_IWin_I_WinAt_1_b1 m) m (a2,a1,(↑a1.length:Int),0)) fun v4=>
 some (-1,v4)
def o1007600 (m:Nat):Orc:=⟨76,[none,some (.fn 77 [.ptr 0 0 0 0])],[.row .iWin,.I .i64],1,(.tup [.I .i64,.I .i64]),fun v=>pG_slices_IndexFunc_IWin_I_WinAt_1 m v.1 v.2⟩
theorem c1007600:CC o1007600:=mq (cs c1007700 cn) T1007600 Tryz.f76
def pI_WinAt (m:Nat) (a1:IState) (a2:Int):Option Int:=
 bd (pG_slices_IndexFunc_IWin_I_WinAt_1 m a1.Wins a2) fun(x3,x4)=>
 some x3
def o31 (m:Nat):Orc:=⟨31,[none,none],[.st .iState [],.I .i64],0,(.one (.I .i64)),fun v=>pI_WinAt m v.1 v.2⟩
theorem c31:CC o31:=mq (cs c1007600 cn) tn Tryz.f31
def pI_isCmd (m:Nat) (a1:ByteArray):Option Bool:=
 some (decide ((↑a1.size:Int)≤60))
def o160 (m:Nat):Orc:=⟨160,[none],[.S],0,(.one .B),fun v=>pI_isCmd m v⟩
theorem c160:CC o160:=mq cn tn Tryz.f160
def T173:Tab:=⟨[(1,⟨[],[.sl 2 .B]⟩)],[],[]⟩
def pI_Shows (m:Nat) (a1:Int):Option Bool:=
 bd (α:=Bool) (
 bd (pI_within m a1 32 126) fun x2=>
 br x2 (
 some true) <|
 bd (pI_within m a1 160 65535) fun x3=>
 br x3 (
 bd (pI_within m a1 55296 57343) fun x4=>
 some (!x4)) <|
 some false) fun x5=>
 some x5
def o173 (m:Nat):Orc:=⟨173,[none],[.I .i64],0,(.one .B),fun v=>pI_Shows m v⟩
theorem c173:CC o173:=mq (cs c68 cn) T173 Tryz.f173
def T230:Tab:=⟨[],[],[(3,true,⟨[],[.sl 4 (.I .i64),.sl 7 (.row .u8),.sl 8 (.I .i64),.sl 9 (.I .i64)]⟩,0,⟨[],[.sl 4 (.I .i64)]⟩)]⟩
def pI_tails_b1 (m:Nat):Lp (Int×List UInt8×Int×Int) (Int⊕Int×Bool):=fun(v4,v5,v6,v7)=>
 br (decide (v7<v6)) (
 gd (0≤v7∧v7<(↑v5.length:Int)) <|
 bd v5[v7.toNat]? fun x8=>
 gd ((64:Int)≠(0:Int)) <|
 br (IntKind.u8.wrap ((↑x8.toNat:Int).tdiv 64) !=(2:Int)) (
 some (.inr (.inr (0,false)))) <|
 gd (inK .i64 (64*v4)) <|
 gd ((64:Int)≠(0:Int)) <|
 gd (inK .i64 (64*v4+(↑x8.toNat:Int).tmod 64)) <|
 gd (inK .i64 (v7+1)) <|
 some (.inl (64*v4+(↑x8.toNat:Int).tmod 64,v5,v6,v7+1))) <|
 some (.inr (.inl v4))
def pI_tails (m:Nat) (a1:List UInt8):Option (Int×Bool):=
 jn (V:=Int) (
 loopF (pI_tails_b1 m) m (0,a1,(↑a1.length:Int),0)) fun v3=>
 some (v3,true)
def o230 (m:Nat):Orc:=⟨230,[none],[.row .u8],0,(.tup [.I .i64,.B]),fun v=>pI_tails m v⟩
theorem c230:CC o230:=mq cn T230 Tryz.f230
def T205:Tab:=⟨[(7,⟨[],[.sl 2 .B]⟩)],[],[]⟩
def pI_RuneBegin (m:Nat) (a1:List UInt8):Option Bool:=
 br ((↑a1.length:Int)==1) (
 gd ((0:Int)≤(0:Int)∧(0:Int)<(↑a1.length:Int)) <|
 bd (a1[Int.toNat 0]?) fun x2=>
 bd (pI_within m (↑x2.toNat:Int) 194 239) fun x3=>
 some x3) <|
 br ((↑a1.length:Int)==2) (
 gd ((0:Int)≤(1:Int)∧(1:Int)≤(↑a1.length:Int)) <|
 bd (pI_tails m (List.drop (Int.toNat 1) a1)) fun(x4,x5)=>
 gd ((0:Int)≤(0:Int)∧(0:Int)<(↑a1.length:Int)) <|
 bd (a1[Int.toNat 0]?) fun x6=>
 gd (inK .i64 ((↑x6.toNat:Int)-224)) <|
 gd (inK .i64 (((↑x6.toNat:Int)-224)*4096)) <|
 gd (inK .i64 (x4*64)) <|
 gd (inK .i64 (((↑x6.toNat:Int)-224)*4096+x4*64)) <|
 bd (α:=Bool) (
 br x5 (
 gd ((0:Int)≤(0:Int)∧(0:Int)<(↑a1.length:Int)) <|
 bd (a1[Int.toNat 0]?) fun x7=>
 br (decide (224≤(↑x7.toNat:Int))) (
 br (decide (2048≤((↑x6.toNat:Int)-224)*4096+x4*64)) (
 bd (pI_Shows m (((↑x6.toNat:Int)-224)*4096+x4*64)) fun x8=>
 some x8) <|
 some false) <|
 some false) <|
 some false) fun x9=>
 some x9) <|
 some false
def o205 (m:Nat):Orc:=⟨205,[none],[.row .u8],0,(.one .B),fun v=>pI_RuneBegin m v⟩
theorem c205:CC o205:=mq (cs c68 (cs c230 (cs c173 cn))) T205 Tryz.f205
def pI_areArgs_1 (m:Nat) (a1:Int):Option Bool:=
 bd (pI_within m a1 0 9999) fun x2=>
 some (!x2)
def o232 (m:Nat):Orc:=⟨232,[none],[.I .i64],0,(.one .B),fun v=>pI_areArgs_1 m v⟩
theorem c232:CC o232:=mq (cs c68 cn) tn Tryz.f232
def T1024700:Tab:=⟨[],[],[(2,true,⟨[(1,.fn 232 [])],[.sl 0 (.row .int),.sl 7 (.I .i64),.sl 8 (.I .i64)]⟩,0,⟨[],[]⟩)]⟩
def pG_slices_IndexFunc_int_I_areArgs_1_b1 (m:Nat):Lp (List Int×Int×Int) (Unit⊕Int):=fun(v3,v4,v5)=>
 br (decide (v5<v4)) (
 gd (0≤v5∧v5<(↑v3.length:Int)) <|
 bd v3[v5.toNat]? fun x6=>
 bd (pI_areArgs_1 m x6) fun x7=>
 br x7 (
 some (.inr (.inr v5))) <|
 gd (inK .i64 (v5+1)) <|
 some (.inl (v3,v4,v5+1))) <|
 some (.inr (.inl ()))
def pG_slices_IndexFunc_int_I_areArgs_1 (m:Nat) (a1:List Int):Option Int:=
 jn (V:=Unit) (
 loopF (pG_slices_IndexFunc_int_I_areArgs_1_b1 m) m (a1,(↑a1.length:Int),0)) fun _=>
 some (-1)
def o1024700 (m:Nat):Orc:=⟨247,[none,some (.fn 232 [])],[.row .int],0,(.one (.I .i64)),fun v=>pG_slices_IndexFunc_int_I_areArgs_1 m v⟩
theorem c1024700:CC o1024700:=mq (cs c232 cn) T1024700 Tryz.f247
def pG_slices_ContainsFunc_int_I_areArgs_1 (m:Nat) (a1:List Int):Option Bool:=
 bd (pG_slices_IndexFunc_int_I_areArgs_1 m a1) fun x2=>
 some (decide (0≤x2))
def o1023100 (m:Nat):Orc:=⟨231,[none,some (.fn 232 [])],[.row .int],0,(.one .B),fun v=>pG_slices_ContainsFunc_int_I_areArgs_1 m v⟩
theorem c1023100:CC o1023100:=mq (cs c1024700 cn) tn Tryz.f231
def T206:Tab:=⟨[(1,⟨[],[.sl 2 .B]⟩)],[],[]⟩
def pI_areArgs (m:Nat) (a1:List Int):Option Bool:=
 bd (α:=Bool) (
 br (decide ((↑a1.length:Int)≤8)) (
 bd (pG_slices_ContainsFunc_int_I_areArgs_1 m a1) fun x2=>
 some (!x2)) <|
 some false) fun x3=>
 some x3
def o206 (m:Nat):Orc:=⟨206,[none],[.row .int],0,(.one .B),fun v=>pI_areArgs m v⟩
theorem c206:CC o206:=mq (cs c1023100 cn) T206 Tryz.f206
def T188:Tab:=⟨[(3,⟨[],[.sl 2 .B]⟩),(5,⟨[],[.sl 2 .B]⟩),(8,⟨[],[.sl 2 .B]⟩)],[(8,false,⟨[(1,.ptr 200 0)],[.sto 200 .iVp [],.sl 44 .B]⟩)],[]⟩
def pI_VpOk (m:Nat) (a1:IVp):Option Bool:=
 br (a1.State==0) (
 bd (α:=Bool) (
 br (!a1.Mark) (
 br ((↑a1.Args.length:Int)==0) (
 br ((↑a1.Part.length:Int)==0) (
 some true) <|
 bd (pI_RuneBegin m a1.Part) fun x2=>
 some x2) <|
 some false) <|
 some false) fun x3=>
 some x3) <|
 br (a1.State==1) (
 bd (α:=Bool) (
 br (!a1.Mark) (
 br ((↑a1.Args.length:Int)==0) (
 some ((↑a1.Part.length:Int)==0)) <|
 some false) <|
 some false) fun x4=>
 some x4) <|
 bd (α:=IVp×Bool) (
 br (a1.State==2) (
 some (a1,a1.State==2)) <|
 some (a1,a1.State==3)) fun(x5,x6)=>
 br x6 (
 bd (α:=Bool) (
 bd (pI_areArgs m x5.Args) fun x7=>
 br x7 (
 some ((↑x5.Part.length:Int)==0)) <|
 some false) fun x8=>
 some x8) <|
 some false
def o188 (m:Nat):Orc:=⟨188,[none],[.st .iVp []],0,(.one .B),fun v=>pI_VpOk m v⟩
theorem c188:CC o188:=mq (cs c205 (cs c206 cn)) T188 Tryz.f188
def T80:Tab:=⟨[(1,⟨[],[.sl 6 .B]⟩)],[],[]⟩
def pI_Grid_has (m:Nat) (a1:IGrid) (a2:Int) (a3:Int):Option Bool:=
 bd (α:=Bool) (
 gd (inK .i64 (a1.W-1)) <|
 bd (pI_within m a2 0 (a1.W-1)) fun x4=>
 br x4 (
 gd (inK .i64 (a1.H-1)) <|
 bd (pI_within m a3 0 (a1.H-1)) fun x5=>
 some x5) <|
 some false) fun x6=>
 some x6
def o80 (m:Nat):Orc:=⟨80,[none,none,none],[.st .iGrid [],.I .i64,.I .i64],0,(.one .B),fun v=>pI_Grid_has m v.1 v.2.1 v.2.2⟩
theorem c80:CC o80:=mq (cs c68 cn) T80 Tryz.f80
def T174:Tab:=⟨[(1,⟨[],[.sl 2 .B]⟩)],[],[]⟩
def pI_AttrOk (m:Nat) (a1:IAttr):Option Bool:=
 bd (α:=Bool) (
 bd (pI_within m a1.Fg 0 8) fun x2=>
 br x2 (
 bd (pI_within m a1.Bg 0 8) fun x3=>
 some x3) <|
 some false) fun x4=>
 some x4
def o174 (m:Nat):Orc:=⟨174,[none],[.st .iAttr []],0,(.one .B),fun v=>pI_AttrOk m v⟩
theorem c174:CC o174:=mq (cs c68 cn) T174 Tryz.f174
def T136:Tab:=⟨[(1,⟨[],[.sl 2 .B]⟩)],[],[]⟩
def pI_CellOk (m:Nat) (a1:ICell):Option Bool:=
 bd (α:=Bool) (
 bd (pI_Shows m a1.R) fun x2=>
 br x2 (
 bd (pI_AttrOk m a1.A) fun x3=>
 some x3) <|
 some false) fun x4=>
 some x4
def o136 (m:Nat):Orc:=⟨136,[none],[.st .iCell []],0,(.one .B),fun v=>pI_CellOk m v⟩
theorem c136:CC o136:=mq (cs c173 (cs c174 cn)) T136 Tryz.f136
def pI_areCells_1 (m:Nat) (a1:ICell):Option Bool:=
 bd (pI_CellOk m a1) fun x2=>
 some (!x2)
def o195 (m:Nat):Orc:=⟨195,[none],[.st .iCell []],0,(.one .B),fun v=>pI_areCells_1 m v⟩
theorem c195:CC o195:=mq (cs c136 cn) tn Tryz.f195
def T1022200:Tab:=⟨[],[],[(2,true,⟨[(1,.fn 195 [])],[.sl 0 (.row .iCell),.sl 7 (.I .i64),.sl 8 (.I .i64)]⟩,0,⟨[],[]⟩)]⟩
def pG_slices_IndexFunc_ICell_I_areCells_1_b1 (m:Nat):Lp (List ICell×Int×Int) (Unit⊕Int):=fun(v3,v4,v5)=>
 br (decide (v5<v4)) (
 gd (0≤v5∧v5<(↑v3.length:Int)) <|
 bd v3[v5.toNat]? fun x6=>
 bd (pI_areCells_1 m x6) fun x7=>
 br x7 (
 some (.inr (.inr v5))) <|
 gd (inK .i64 (v5+1)) <|
 some (.inl (v3,v4,v5+1))) <|
 some (.inr (.inl ()))
def pG_slices_IndexFunc_ICell_I_areCells_1 (m:Nat) (a1:List ICell):Option Int:=
 jn (V:=Unit) (
 loopF (pG_slices_IndexFunc_ICell_I_areCells_1_b1 m) m (a1,(↑a1.length:Int),0)) fun _=>
 some (-1)
def o1022200 (m:Nat):Orc:=⟨222,[none,some (.fn 195 [])],[.row .iCell],0,(.one (.I .i64)),fun v=>pG_slices_IndexFunc_ICell_I_areCells_1 m v⟩
theorem c1022200:CC o1022200:=mq (cs c195 cn) T1022200 Tryz.f222
def pG_slices_ContainsFunc_ICell_I_areCells_1 (m:Nat) (a1:List ICell):Option Bool:=
 bd (pG_slices_IndexFunc_ICell_I_areCells_1 m a1) fun x2=>
 some (decide (0≤x2))
def o1019400 (m:Nat):Orc:=⟨194,[none,some (.fn 195 [])],[.row .iCell],0,(.one .B),fun v=>pG_slices_ContainsFunc_ICell_I_areCells_1 m v⟩
theorem c1019400:CC o1019400:=mq (cs c1022200 cn) tn Tryz.f194
def pI_areCells (m:Nat) (a1:List ICell):Option Bool:=
 bd (pG_slices_ContainsFunc_ICell_I_areCells_1 m a1) fun x2=>
 some (!x2)
def o172 (m:Nat):Orc:=⟨172,[none],[.row .iCell],0,(.one .B),fun v=>pI_areCells m v⟩
theorem c172:CC o172:=mq (cs c1019400 cn) tn Tryz.f172
def T135:Tab:=⟨[(1,⟨[],[.sl 2 .B]⟩)],[],[]⟩
def pI_GridOk (m:Nat) (a1:IGrid):Option Bool:=
 bd (α:=Bool) (
 bd (pI_isSize m a1.W a1.H) fun x2=>
 br x2 (
 gd (inK .i64 (a1.W*a1.H)) <|
 br ((↑a1.Cells.length:Int)==a1.W*a1.H) (
 bd (pI_areCells m a1.Cells) fun x3=>
 some x3) <|
 some false) <|
 some false) fun x4=>
 some x4
def o135 (m:Nat):Orc:=⟨135,[none],[.st .iGrid []],0,(.one .B),fun v=>pI_GridOk m v⟩
theorem c135:CC o135:=mq (cs c30 (cs c172 cn)) T135 Tryz.f135
def T207:Tab:=⟨[(4,⟨[],[.sl 0 (.row .int),.sl 1 (.I .i64),.sl 2 (.I .i64),.sl 9 (.row .int),.sl 10 (.I .i64),.sl 11 (.I .i64),.sl 33 .B]⟩)],[],[(2,true,⟨[],[.sl 0 (.row .int),.sl 1 (.I .i64),.sl 2 (.I .i64),.sl 9 (.row .int),.sl 10 (.I .i64),.sl 11 (.I .i64)]⟩,0,⟨[],[]⟩)]⟩
def pI_isAscending_b1 (m:Nat):Lp (List Int×Int×Int×List Int×Int×Int) (Unit⊕Bool):=fun(v5,v6,v7,v8,v9,v10)=>
 br (decide (v10<v9)) (
 gd (0≤v10∧v10<(↑v8.length:Int)) <|
 bd v8[v10.toNat]? fun x11=>
 bd (α:=List Int×Int×Int×List Int×Int×Int×Bool) (
 bd (pI_within m x11 v6 v7) fun x12=>
 br (!x12) (
 some (v5,v6,v7,v8,v9,v10,true)) <|
 br (decide (0<v10)) (
 gd (inK .i64 (v10-1)) <|
 gd (0≤v10-1∧v10-1<(↑v5.length:Int)) <|
 bd (v5[(v10-1).toNat]?) fun x13=>
 some (v5,v6,v7,v8,v9,v10,decide (x11≤x13))) <|
 some (v5,v6,v7,v8,v9,v10,false)) fun(x14,x15,x16,x17,x18,x19,x20)=>
 br x20 (
 some (.inr (.inr false))) <|
 gd (inK .i64 (x19+1)) <|
 some (.inl (x14,x15,x16,x17,x18,x19+1))) <|
 some (.inr (.inl ()))
def pI_isAscending (m:Nat) (a1:List Int) (a2:Int) (a3:Int):Option Bool:=
 jn (V:=Unit) (
 loopF (pI_isAscending_b1 m) m (a1,a2,a3,a1,(↑a1.length:Int),0)) fun _=>
 some true
def o207 (m:Nat):Orc:=⟨207,[none,none,none],[.row .int,.I .i64,.I .i64],0,(.one .B),fun v=>pI_isAscending m v.1 v.2.1 v.2.2⟩
theorem c207:CC o207:=mq (cs c68 cn) T207 Tryz.f207
def T234:Tab:=⟨[(1,⟨[],[.sl 2 .B]⟩)],[],[]⟩
def pI_backOk_1 (m:Nat) (a1:IRow):Option Bool:=
 bd (α:=Bool) (
 bd (pI_within m (↑a1.Cells.length:Int) 1 120) fun x2=>
 br (!x2) (
 some true) <|
 bd (pI_areCells m a1.Cells) fun x3=>
 some (!x3)) fun x4=>
 some x4
def o234 (m:Nat):Orc:=⟨234,[none],[.st .iRow []],0,(.one .B),fun v=>pI_backOk_1 m v⟩
theorem c234:CC o234:=mq (cs c68 (cs c172 cn)) T234 Tryz.f234
def T1024800:Tab:=⟨[],[],[(2,true,⟨[(1,.fn 234 [])],[.sl 0 (.row .iRow),.sl 7 (.I .i64),.sl 8 (.I .i64)]⟩,0,⟨[],[]⟩)]⟩
def pG_slices_IndexFunc_IRow_I_backOk_1_b1 (m:Nat):Lp (List IRow×Int×Int) (Unit⊕Int):=fun(v3,v4,v5)=>
 br (decide (v5<v4)) (
 gd (0≤v5∧v5<(↑v3.length:Int)) <|
 bd v3[v5.toNat]? fun x6=>
 bd (pI_backOk_1 m x6) fun x7=>
 br x7 (
 some (.inr (.inr v5))) <|
 gd (inK .i64 (v5+1)) <|
 some (.inl (v3,v4,v5+1))) <|
 some (.inr (.inl ()))
def pG_slices_IndexFunc_IRow_I_backOk_1 (m:Nat) (a1:List IRow):Option Int:=
 jn (V:=Unit) (
 loopF (pG_slices_IndexFunc_IRow_I_backOk_1_b1 m) m (a1,(↑a1.length:Int),0)) fun _=>
 some (-1)
def o1024800 (m:Nat):Orc:=⟨248,[none,some (.fn 234 [])],[.row .iRow],0,(.one (.I .i64)),fun v=>pG_slices_IndexFunc_IRow_I_backOk_1 m v⟩
theorem c1024800:CC o1024800:=mq (cs c234 cn) T1024800 Tryz.f248
def pG_slices_ContainsFunc_IRow_I_backOk_1 (m:Nat) (a1:List IRow):Option Bool:=
 bd (pG_slices_IndexFunc_IRow_I_backOk_1 m a1) fun x2=>
 some (decide (0≤x2))
def o1023300 (m:Nat):Orc:=⟨233,[none,some (.fn 234 [])],[.row .iRow],0,(.one .B),fun v=>pG_slices_ContainsFunc_IRow_I_backOk_1 m v⟩
theorem c1023300:CC o1023300:=mq (cs c1024800 cn) tn Tryz.f233
def T208:Tab:=⟨[(1,⟨[],[.sl 4 .B]⟩)],[],[]⟩
def pI_backOk (m:Nat) (a1:List IRow) (a2:Int):Option Bool:=
 bd (α:=Bool) (
 br (decide ((↑a1.length:Int)≤a2)) (
 bd (pG_slices_ContainsFunc_IRow_I_backOk_1 m a1) fun x3=>
 some (!x3)) <|
 some false) fun x4=>
 some x4
def o208 (m:Nat):Orc:=⟨208,[none,none],[.row .iRow,.I .i64],0,(.one .B),fun v=>pI_backOk m v.1 v.2⟩
theorem c208:CC o208:=mq (cs c1023300 cn) T208 Tryz.f208
def T189:Tab:=⟨[(4,⟨[(1,.ptr 200 0)],[.sto 200 .iScr [],.sl 9 (.own .iGrid 1000),.sl 10 (.I .i64),.sl 11 (.I .i64),.sl 31 .B]⟩),(7,⟨[(1,.ptr 200 0)],[.sto 200 .iScr [],.sl 74 .B]⟩),(9,⟨[(1,.ptr 200 0)],[.sto 200 .iScr [],.sl 103 .B]⟩),(11,⟨[],[.sl 2 .B]⟩)],[],[(2,true,⟨[(1,.ptr 200 0)],[.sto 200 .iScr [],.sl 9 (.own .iGrid 1000),.sl 10 (.I .i64),.sl 11 (.I .i64)]⟩,0,⟨[(1,.ptr 200 0)],[.sto 200 .iScr []]⟩)]⟩
def pI_ScrOk_b1 (m:Nat):Lp (IScr×List IGrid×Int×Int) (IScr⊕Bool):=fun(v18,v19,v20,v21)=>
 br (decide (v21<v20)) (
 gd (0≤v21∧v21<(↑v19.length:Int)) <|
 bd (v19[0+v21.toNat]?) fun x22=>
 bd (α:=IScr×List IGrid×Int×Int×Bool) (
 bd (pI_GridOk m x22) fun x23=>
 br (!x23) (
 some (v18,v19,v20,v21,true)) <|
 br (x22.W !=v18.W) (
 some (v18,v19,v20,v21,true)) <|
 some (v18,v19,v20,v21,x22.H !=v18.H)) fun(x24,x25,x26,x27,x28)=>
 br x28 (
 some (.inr (.inr false))) <|
 gd (inK .i64 (x27+1)) <|
 some (.inl (x24,x25,x26,x27+1))) <|
 some (.inr (.inl v18))
def pI_ScrOk (m:Nat) (a1:IScr):Option Bool:=
 jn (V:=IScr) (
 loopF (pI_ScrOk_b1 m) m (a1,[a1.Main,a1.Alt],(↑2:Int),0)) fun v3=>
 bd (α:=IScr×Bool) (
 bd (pI_Grid_has m v3.Main v3.X v3.Y) fun x4=>
 br (!x4) (
 some (v3,true)) <|
 bd (pI_Grid_has m v3.Main v3.SaveX v3.SaveY) fun x5=>
 br (!x5) (
 some (v3,true)) <|
 br v3.Wrap (
 gd (inK .i64 (v3.W-1)) <|
 br (v3.X !=v3.W-1) (
 some (v3,true)) <|
 bd (pI_AttrOk m v3.A) fun x6=>
 br (!x6) (
 some (v3,true)) <|
 bd (pI_AttrOk m v3.SaveA) fun x7=>
 some (v3,!x7)) <|
 bd (pI_AttrOk m v3.A) fun x8=>
 br (!x8) (
 some (v3,true)) <|
 bd (pI_AttrOk m v3.SaveA) fun x9=>
 some (v3,!x9)) fun(x10,x11)=>
 br x11 (
 some false) <|
 bd (α:=IScr×Bool) (
 br (decide (x10.Top<0)) (
 some (x10,true)) <|
 br (decide (x10.Bot<x10.Top)) (
 some (x10,true)) <|
 br (decide (x10.H≤x10.Bot)) (
 some (x10,true)) <|
 br (x10.Top==x10.Bot) (
 some (x10,x10.H !=1)) <|
 some (x10,false)) fun(x12,x13)=>
 br x13 (
 some false) <|
 bd (α:=Bool) (
 gd (inK .i64 (x12.W-1)) <|
 bd (pI_isAscending m x12.Tabs 0 (x12.W-1)) fun x14=>
 br x14 (
 bd (pI_within m x12.Limit 0 100) fun x15=>
 br x15 (
 bd (pI_backOk m x12.Back x12.Limit) fun x16=>
 some x16) <|
 some false) <|
 some false) fun x17=>
 some x17
def o189 (m:Nat):Orc:=⟨189,[none],[.st .iScr []],0,(.one .B),fun v=>pI_ScrOk m v⟩
theorem c189:CC o189:=mq (cs c135 (cs c80 (cs c174 (cs c207 (cs c68 (cs c208 cn)))))) T189 Tryz.f189
def T161:Tab:=⟨[(1,⟨[],[.sl 2 .B]⟩)],[],[]⟩
def pI_TermOk (m:Nat) (a1:ITerm):Option Bool:=
 bd (α:=Bool) (
 bd (pI_VpOk m a1.P) fun x2=>
 br x2 (
 bd (pI_ScrOk m a1.S) fun x3=>
 some x3) <|
 some false) fun x4=>
 some x4
def o161 (m:Nat):Orc:=⟨161,[none],[.st .iTerm []],0,(.one .B),fun v=>pI_TermOk m v⟩
theorem c161:CC o161:=mq (cs c188 (cs c189 cn)) T161 Tryz.f161
def T121:Tab:=⟨[(1,⟨[(1,.ptr 200 0)],[.sto 200 .iPane [],.sl 24 .B]⟩),(5,⟨[],[.sl 2 .B]⟩),(7,⟨[],[.sl 2 .B]⟩),(9,⟨[],[.sl 2 .B]⟩)],[],[]⟩
def pI_PaneOk (m:Nat) (a1:IPane):Option Bool:=
 bd (α:=IPane×Bool) (
 bd (pI_isId m a1.Id) fun x2=>
 br (!x2) (
 some (a1,true)) <|
 bd (pI_isCmd m a1.Cmd) fun x3=>
 br (!x3) (
 some (a1,true)) <|
 bd (pI_isCmd m a1.Dir) fun x4=>
 br (!x4) (
 some (a1,true)) <|
 bd (pI_TermOk m a1.Term) fun x5=>
 some (a1,!x5)) fun(x6,x7)=>
 br x7 (
 some false) <|
 br (x6.Life==1) (
 bd (α:=Bool) (
 bd (pI_isId m x6.Pid) fun x8=>
 br x8 (
 some (x6.Code==0)) <|
 some false) fun x9=>
 some x9) <|
 br (x6.Life==2) (
 bd (α:=Bool) (
 bd (pI_within m x6.Code 0 255) fun x10=>
 br x10 (
 some (x6.Pid==0)) <|
 some false) fun x11=>
 some x11) <|
 br (x6.Life==3) (
 bd (α:=Bool) (
 br (x6.Code==0) (
 some (x6.Pid==0)) <|
 some false) fun x12=>
 some x12) <|
 some false
def o121 (m:Nat):Orc:=⟨121,[none],[.st .iPane []],0,(.one .B),fun v=>pI_PaneOk m v⟩
theorem c121:CC o121:=mq (cs c69 (cs c160 (cs c161 (cs c68 cn)))) T121 Tryz.f121
def T70:Tab:=⟨[(5,⟨[(1,.ptr 200 0),(3,.ptr 700 0),(5,.ptr 600 0)],[.sto 200 .iState [],.sto 600 .iPane [],.ob 700,.sl 8 (.row .iPane),.sl 9 (.I .i64),.sl 10 (.I .i64),.sl 56 .B]⟩),(7,⟨[(1,.ptr 200 0),(3,.ptr 700 0),(5,.ptr 600 0)],[.sto 200 .iState [],.sto 600 .iPane [],.ob 700,.sl 8 (.row .iPane),.sl 9 (.I .i64),.sl 10 (.I .i64),.sl 65 .B]⟩),(9,⟨[(1,.ptr 200 0),(3,.ptr 700 0)],[.sto 200 .iState [],.ob 700,.sl 8 (.row .iPane),.sl 9 (.I .i64),.sl 10 (.I .i64)]⟩)],[],[(3,true,⟨[(1,.ptr 200 0),(3,.ptr 700 0)],[.sto 200 .iState [],.ob 700,.sl 8 (.row .iPane),.sl 9 (.I .i64),.sl 10 (.I .i64)]⟩,0,⟨[(1,.ptr 200 0)],[.sto 200 .iState []]⟩)]⟩
def pI_State_panesOk_b1 (m:Nat):Lp (IState×Obj×List IPane×Int×Int) (IState⊕Bool):=fun(v4,v5,v6,v7,v8)=>
 br (decide (v8<v7)) (
 gd (0≤v8∧v8<(↑v6.length:Int)) <|
 bd v6[v8.toNat]? fun x9=>
 bd (α:=IState×IPane×Obj×List IPane×Int×Int×Bool) (
 bd (pI_PaneOk m x9) fun x10=>
 br (!x10) (
 some (v4,x9,v5,v6,v7,v8,true)) <|
 br (decide (v4.Next≤x9.Id)) (
 some (v4,x9,v5,v6,v7,v8,true)) <|
 br (decide (0<v8)) (
 gd (inK .i64 (v8-1)) <|
 gd (0≤v8-1∧v8-1<(↑v4.Panes.length:Int)) <|
 bd (v4.Panes[(v8-1).toNat]?) fun x11=>
 br (decide (x9.Id≤x11.Id)) (
 some (v4,x9,v5,v6,v7,v8,true)) <|
 bd (pI_WinAt m v4 x9.Id) fun x12=>
 br (decide (0≤x12)) (
 some (v4,x9,v5,v6,v7,v8,true)) <|
 some (v4,x9,v5,v6,v7,v8,x9.Term.S.Limit !=v4.Limit)) <|
 bd (pI_WinAt m v4 x9.Id) fun x13=>
 br (decide (0≤x13)) (
 some (v4,x9,v5,v6,v7,v8,true)) <|
 some (v4,x9,v5,v6,v7,v8,x9.Term.S.Limit !=v4.Limit)) fun(x14,x15,x16,x17,x18,x19,x20)=>
 br x20 (
 some (.inr (.inr false))) <|
 bd (α:=IState×IPane×Obj×List IPane×Int×Int×Bool) (
 br (x15.Life==1) (
 bd (mpB MK.i x16 (Value.int IntKind.i64 x15.Pid)) fun x21=>
 some (x14,x15,x16,x17,x18,x19,x21)) <|
 some (x14,x15,x16,x17,x18,x19,false)) fun(x22,x23,x24,x25,x26,x27,x28)=>
 br x28 (
 some (.inr (.inr false))) <|
 bd (α:=IState×Obj×List IPane×Int×Int) (
 bd (mpB MK.i x24 (Value.int IntKind.i64 x23.Pid)) fun x29=>
 br x29 (
 bd (mpPut MK.i x24 (Value.int IntKind.i64 x23.Pid) (Value.bool true)) fun x30=>
 some (x22,x30,x25,x26,x27)) <|
 bd (mpPut MK.i x24 (Value.int IntKind.i64 x23.Pid) (Value.bool (x23.Life==1))) fun x31=>
 some (x22,x31,x25,x26,x27)) fun(x32,x33,x34,x35,x36)=>
 gd (inK .i64 (x36+1)) <|
 some (.inl (x32,x33,x34,x35,x36+1))) <|
 some (.inr (.inl v4))
def pI_State_panesOk (m:Nat) (a1:IState):Option Bool:=
 jn (V:=IState) (
 loopF (pI_State_panesOk_b1 m) m (a1,emptyM,a1.Panes,(↑a1.Panes.length:Int),0)) fun v3=>
 some (decide ((↑v3.Panes.length:Int)≤24))
def o70 (m:Nat):Orc:=⟨70,[none],[.st .iState []],0,(.one .B),fun v=>pI_State_panesOk m v⟩
theorem c70:CC o70:=mq (cs c121 (cs c31 cn)) T70 Tryz.f70
def pI_Node_isLeaf (m:Nat) (a1:INode):Option Bool:=
 some (a1.Pane !=0)
def o132 (m:Nat):Orc:=⟨132,[none],[.st .iNode []],0,(.one .B),fun v=>pI_Node_isLeaf m v⟩
theorem c132:CC o132:=mq cn tn Tryz.f132
def T133:Tab:=⟨[],[(5,false,⟨[(2,.ptr 300 0),(3,.ptr 400 0),(4,.ptr 500 0),(5,.ptr 600 0),(7,.ptr 800 0),(8,.ptr 900 0)],[.sto 300 .iNode [],.sto 400 .iRect [],.sto 500 .iRect [],.sto 600 .iRect [],.sto 800 .iRect [],.sto 900 .iRect [],.sl 9 (.I .i64)]⟩),(9,false,⟨[(4,.ptr 500 0),(5,.ptr 600 0),(7,.ptr 800 0),(8,.ptr 900 0)],[.sto 500 .iRect [],.sto 600 .iRect [],.sto 800 .iRect [],.sto 900 .iRect [],.sl 9 (.I .i64)]⟩)],[]⟩
def pI_partsOf (m:Nat) (a1:INode) (a2:IRect):Option (IRect×IRect×Bool):=
 bd (α:=INode×IRect×IRect×IRect×IRect×IRect×Int) (
 br a1.Down (
 some (a1,a2,IRect.mk 0 0 0 0 0,IRect.mk 0 0 0 0 0,a2,a2,a2.H)) <|
 some (a1,a2,IRect.mk 0 0 0 0 0,IRect.mk 0 0 0 0 0,a2,a2,a2.W)) fun(x3,x4,x5,x6,x7,x8,x9)=>
 gd (inK .i64 (x9-2)) <|
 bd (α:=IRect×IRect×IRect×IRect×Int) (
 br x3.Down (
 gd (inK .i64 (x4.Y+if x9-2<x3.First then x9-2 else x3.First)) <|
 gd (inK .i64 ((x4.Y+if x9-2<x3.First then x9-2 else x3.First)+1)) <|
 gd (inK .i64 (x9-if x9-2<x3.First then x9-2 else x3.First)) <|
 gd (inK .i64 ((x9-if x9-2<x3.First then x9-2 else x3.First)-1)) <|
 some (x5,x6,IRect.mk x7.Pane x7.X x7.Y x7.W (if x9-2<x3.First then x9-2 else x3.First),IRect.mk x8.Pane x8.X ((x4.Y+if x9-2<x3.First then x9-2 else x3.First)+1) x8.W ((x9-if x9-2<x3.First then x9-2 else x3.First)-1),x9)) <|
 gd (inK .i64 (x4.X+if x9-2<x3.First then x9-2 else x3.First)) <|
 gd (inK .i64 ((x4.X+if x9-2<x3.First then x9-2 else x3.First)+1)) <|
 gd (inK .i64 (x9-if x9-2<x3.First then x9-2 else x3.First)) <|
 gd (inK .i64 ((x9-if x9-2<x3.First then x9-2 else x3.First)-1)) <|
 some (x5,x6,IRect.mk x7.Pane x7.X x7.Y (if x9-2<x3.First then x9-2 else x3.First) x7.H,IRect.mk x8.Pane ((x4.X+if x9-2<x3.First then x9-2 else x3.First)+1) x8.Y ((x9-if x9-2<x3.First then x9-2 else x3.First)-1) x8.H,x9)) fun(x10,x11,x12,x13,x14)=>
 some (x12,x13,decide (3≤x14))
def o133 (m:Nat):Orc:=⟨133,[none,none],[.st .iNode [],.st .iRect []],0,(.tup [.st .iRect [],.st .iRect [],.B]),fun v=>pI_partsOf m v.1 v.2⟩
theorem c133:CC o133:=mq cn T133 Tryz.f133
def T134:Tab:=⟨[(1,⟨[],[.sl 0 (.row .iNode),.sl 1 (.I .i64),.sl 13 .B]⟩),(5,⟨[],[.sl 1 (.I .i64),.sl 33 .B]⟩)],[],[]⟩
def pI_endOf (m:Nat) (slf:List INode×Int→Option Int):List INode×Int→Option Int:=fun(a1,a2)=>
 bd (α:=List INode×Int×Bool) (
 br (decide (a2<0)) (
 some (a1,a2,true)) <|
 some (a1,a2,decide ((↑a1.length:Int)≤a2))) fun(x3,x4,x5)=>
 br x5 (
 some (-1)) <|
 gd (0≤x4∧x4<(↑x3.length:Int)) <|
 bd x3[x4.toNat]? fun x6=>
 bd (pI_Node_isLeaf m x6) fun x7=>
 br x7 (
 bd (α:=Int×Bool) (
 bd (pI_isId m x6.Pane) fun x8=>
 br (!x8) (
 some (x4,true)) <|
 br x6.Down (
 some (x4,true)) <|
 some (x4,x6.First !=0)) fun(x9,x10)=>
 br x10 (
 some (-1)) <|
 gd (inK .i64 (x9+1)) <|
 some (x9+1)) <|
 bd (pI_within m x6.First 1 120) fun x11=>
 br (!x11) (
 some (-1)) <|
 gd (inK .i64 (x4+1)) <|
 bd (slf (x3,x4+1)) fun x12=>
 bd (slf (x3,x12)) fun x13=>
 some x13
def o134 (m:Nat):Orc:=⟨134,[none,none],[.row .iNode,.I .i64],0,(.one (.I .i64)),recF (pI_endOf m) m⟩
theorem c134 {G:Nat} {E:World→Prop} (hcl:Cl G E) (m:Nat):Ctr Tryz.prog G E (o134 m):=Ctr.rec (fun slf h=>Ctr.mk (o:=⟨134,[none,none],[.row .iNode,.I .i64],0,(.one (.I .i64)),pI_endOf m slf⟩) (csc h (csc (c132 hcl m) (csc (c69 hcl m) (csc (c68 hcl m) csn)))) facts mixed hcl.cl T134 m (fn:=Tryz.f134) (by kernel_rfl) rfl (by kernel_rfl) (fun _=>by kernel_rfl) (fun _ _=>by kernel_rfl) (fun _=>by kernel_rfl)) m
def T1013100:Tab:=⟨[(3,⟨[(2,.ptr 0 0),(4,.ptr 2 0),(5,.ptr 3 0),(7,.ptr 800 0)],[.bxl 0 [.row .iNode],.bxl 2 [.B],.bxl 3 [.cfn 131 [(0,0),(1,0),(2,0),(3,0)]],.sto 800 .iRect [],.bxl 1 [.own .iRect 80001000],.sl 0 (.I .i64),.sl 29 .B]⟩)],[],[]⟩
def pI_areasOf_1 (m:Nat) (slf:Int×IRect×List INode×List IRect×Bool×Unit→Option (List INode×List IRect×Bool×Unit)):Int×IRect×List INode×List IRect×Bool×Unit→Option (List INode×List IRect×Bool×Unit):=fun(a1,a2,a3,a4,a5,a6)=>
 gd (0≤a1∧a1<(↑a3.length:Int)) <|
 bd a3[a1.toNat]? fun x7=>
 gd (roomB .iRect (a4++ [IRect.mk x7.Pane a2.X a2.Y a2.W a2.H]).length) <|
 bd (α:=List INode×Bool×Unit×IRect×List IRect×Int×Bool) (
 gd (0≤a1∧a1<(↑a3.length:Int)) <|
 bd a3[a1.toNat]? fun x8=>
 bd (pI_Node_isLeaf m x8) fun x9=>
 br x9 (
 some (a3,a5,(),IRect.mk x7.Pane a2.X a2.Y a2.W a2.H,a4++ [IRect.mk x7.Pane a2.X a2.Y a2.W a2.H],a1,true)) <|
 some (a3,a5,(),IRect.mk x7.Pane a2.X a2.Y a2.W a2.H,a4++ [IRect.mk x7.Pane a2.X a2.Y a2.W a2.H],a1,!a5)) fun(x10,x11,x12,x13,x14,x15,x16)=>
 br x16 (
 some (x10,x14,x11,())) <|
 gd (0≤x15∧x15<(↑x10.length:Int)) <|
 bd x10[x15.toNat]? fun x17=>
 bd (pI_partsOf m x17 x13) fun(x18,x19,x20)=>
 br (!x20) (
 some (x10,x14,x20,())) <|
 gd (inK .i64 (x15+1)) <|
 bd (slf (x15+1,x18,x10,x14,x20,())) fun(x21,x22,x23,x24)=>
 br x23 (
 gd (inK .i64 (x15+1)) <|
 bd (recF (pI_endOf m) m (x21,x15+1)) fun x25=>
 bd (slf (x25,x19,x21,x22,x23,())) fun(x26,x27,x28,x29)=>
 some (x26,x27,x28,())) <|
 some (x21,x22,x23,())
def o1013100 (m:Nat):Orc:=⟨131,[none,none,some (.ptr 0 0 0 0),some (.ptr 1 0 0 0),some (.ptr 2 0 0 0),some (.ptr 3 0 0 0)],[.I .i64,.st .iRect [],.row .iNode,.own .iRect 99,.B,.cfn 131 [(0,0),(1,0),(2,0),(3,0)]],4,(.tup [.row .iNode,.own .iRect 99,.B,.cfn 131 [(0,0),(1,0),(2,0),(3,0)]]),recF (pI_areasOf_1 m) m⟩
theorem c1013100 {G:Nat} {E:World→Prop} (hcl:Cl G E) (m:Nat):Ctr Tryz.prog G E (o1013100 m):=Ctr.rec (fun slf h=>Ctr.mk (o:=⟨131,[none,none,some (.ptr 0 0 0 0),some (.ptr 1 0 0 0),some (.ptr 2 0 0 0),some (.ptr 3 0 0 0)],[.I .i64,.st .iRect [],.row .iNode,.own .iRect 99,.B,.cfn 131 [(0,0),(1,0),(2,0),(3,0)]],4,(.tup [.row .iNode,.own .iRect 99,.B,.cfn 131 [(0,0),(1,0),(2,0),(3,0)]]),pI_areasOf_1 m slf⟩) (csc h (csc (c132 hcl m) (csc (c133 hcl m) (csc (c134 hcl m) csn)))) facts mixed hcl.cl T1013100 m (fn:=Tryz.f131) (by kernel_rfl) rfl (by kernel_rfl) (fun _=>by kernel_rfl) (fun _ _=>by kernel_rfl) (fun _=>by kernel_rfl)) m
def pI_areasOf (m:Nat) (a1:List INode) (a2:Int) (a3:Int):Option (List IRect×Bool):=
 bd (recF (pI_areasOf_1 m) m (0,IRect.mk 0 0 0 a2 a3,a1,[],true,())) fun(x4,x5,x6,x7)=>
 some (x5,x6)
def o82 (m:Nat):Orc:=⟨82,[none,none,none],[.row .iNode,.I .i64,.I .i64],0,(.tup [.own .iRect 99,.B]),fun v=>pI_areasOf m v.1 v.2.1 v.2.2⟩
theorem c82:CC o82:=mq (cs c1013100 cn) tn Tryz.f82
def T125:Tab:=⟨[],[(7,false,⟨[],[.sl 3 (.own .int 700),.sl 7 (.row .iNode),.sl 8 (.I .i64),.sl 9 (.I .i64)]⟩)],[(3,false,⟨[],[.sl 3 (.own .int 700),.sl 7 (.row .iNode),.sl 8 (.I .i64),.sl 9 (.I .i64)]⟩,0,⟨[],[.sl 3 (.own .int 700)]⟩)]⟩
def pI_leaves_b1 (m:Nat):Lp (List Int×List INode×Int×Int) (List Int):=fun(v4,v5,v6,v7)=>
 br (decide (v7<v6)) (
 bd (α:=List Int×List INode×Int×Int) (
 gd (0≤v7∧v7<(↑v5.length:Int)) <|
 bd v5[v7.toNat]? fun x8=>
 bd (pI_Node_isLeaf m x8) fun x9=>
 br x9 (
 gd (roomB .int (v4++ [x8.Pane]).length) <|
 some (v4++ [x8.Pane],v5,v6,v7)) <|
 some (v4,v5,v6,v7)) fun(x10,x11,x12,x13)=>
 gd (inK .i64 (x13+1)) <|
 some (.inl (x10,x11,x12,x13+1))) <|
 some (.inr v4)
def pI_leaves (m:Nat) (a1:List INode):Option (List Int):=
 bd (α:=List Int) (
 loopF (pI_leaves_b1 m) m ([],a1,(↑a1.length:Int),0)) fun x3=>
 some x3
def o125 (m:Nat):Orc:=⟨125,[none],[.row .iNode],0,(.one (.own .int 99)),fun v=>pI_leaves m v⟩
theorem c125:CC o125:=mq (cs c132 cn) T125 Tryz.f125
def pG_slices_Clone_int (m:Nat) (a1:List Int):Option (List Int):=
 cmpN a1 (
 some []) <|
 gd (roomB .int ([]++a1).length) <|
 some ([]++a1)
def o167 (m:Nat):Orc:=⟨167,[none],[.row .int],0,(.one (.own .int 99)),fun v=>pG_slices_Clone_int m v⟩
theorem c167:CC o167:=mq cn tn Tryz.f167
def T209:Tab:=⟨[],[(10,false,⟨[],[.sl 0 (.own .int 90000000),.sl 3 (.I .i64),.sl 4 (.view 90000000),.sl 5 (.I .i64)]⟩)],[(9,false,⟨[],[.sl 0 (.own .int 90000000),.sl 3 (.I .i64),.sl 4 (.view 90000000),.sl 5 (.I .i64)]⟩,2,⟨[],[.sl 0 (.own .int 90000000),.sl 3 (.I .i64)]⟩),(4,true,⟨[],[.sl 0 (.own .int 90000000),.sl 3 (.I .i64)]⟩,0,⟨[],[.sl 0 (.own .int 90000000)]⟩)]⟩
def pG_slices_Compact_int_b2 (m:Nat):Lp (List Int×Int×(Nat×Nat)×Int) (List Int×Int):=fun(v11,v12,v13,v14)=>
 br (decide (v14<(↑v13.snd:Int))) (
 bd (α:=List Int×Int×(Nat×Nat)×Int) (
 gd (0≤v14∧v14<(↑v13.snd:Int)) <|
 bd (v11[v13.fst+v14.toNat]?) fun x15=>
 gd (inK .i64 (v14-1)) <|
 gd (0≤v14-1∧v14-1<(↑v13.snd:Int)) <|
 bd (v11[v13.fst+(v14-1).toNat]?) fun x16=>
 br (x15 !=x16) (
 gd (0≤v14∧v14<(↑v13.snd:Int)) <|
 bd (v11[v13.fst+v14.toNat]?) fun x17=>
 gd (0≤v12∧v12<(↑v11.length:Int)) <|
 bd (v11[0+v12.toNat]?) fun x18=>
 gd (inK .i64 (v12+1)) <|
 some (v11.set (0+v12.toNat) x17,v12+1,v13,v14)) <|
 some (v11,v12,v13,v14)) fun(x19,x20,x21,x22)=>
 gd (inK .i64 (x22+1)) <|
 some (.inl (x19,x20,x21,x22+1))) <|
 some (.inr (v11,v12))
def pG_slices_Compact_int_b1 (m:Nat):Lp (List Int×Int) (List Int⊕List Int):=fun(v4,v5)=>
 br (decide (v5<(↑v4.length:Int))) (
 gd (0≤v5∧v5<(↑v4.length:Int)) <|
 bd (v4[0+v5.toNat]?) fun x6=>
 gd (inK .i64 (v5-1)) <|
 gd (0≤v5-1∧v5-1<(↑v4.length:Int)) <|
 bd (v4[0+(v5-1).toNat]?) fun x7=>
 br (x6==x7) (
 gd (0≤v5∧v5≤(↑v4.length:Int)) <|
 bd (α:=List Int×Int) (
 loopF (pG_slices_Compact_int_b2 m) m (v4,v5,(0+v5.toNat,v4.length-v5.toNat),1)) fun(x9,x10)=>
 gd (0≤x10∧x10≤(↑x9.length:Int)) <|
 gd (0≤x10∧x10≤(↑x9.length:Int)) <|
 some (.inr (.inr (List.take (x10.toNat-0) (List.drop (0+0) (putL x9 (0+x10.toNat) (List.replicate (x9.length-x10.toNat) (zK K.int)))))))) <|
 gd (inK .i64 (v5+1)) <|
 some (.inl (v4,v5+1))) <|
 some (.inr (.inl v4))
def pG_slices_Compact_int (m:Nat) (a1:List Int):Option (List Int):=
 br (decide ((↑a1.length:Int)<2)) (
 some a1) <|
 jn (V:=List Int) (
 loopF (pG_slices_Compact_int_b1 m) m (a1,1)) fun v3=>
 some v3
def o209 (m:Nat):Orc:=⟨209,[none],[.own .int 99],0,(.one (.row .int)),fun v=>pG_slices_Compact_int m v⟩
theorem c209:CC o209:=mq cn T209 Tryz.f209
def T190:Tab:=⟨[(1,⟨[],[.sl 0 (.row .iNode),.sl 13 .B]⟩)],[],[]⟩
def pI_TreeOk (m:Nat) (a1:List INode):Option Bool:=
 bd (α:=List INode×Bool) (
 br (decide (31<(↑a1.length:Int))) (
 some (a1,true)) <|
 bd (recF (pI_endOf m) m (a1,0)) fun x2=>
 some (a1,x2 !=(↑a1.length:Int))) fun(x3,x4)=>
 br x4 (
 some false) <|
 bd (pI_leaves m x3) fun x5=>
 bd (pG_slices_Sort_int x5) fun x6=>
 bd (pG_slices_Clone_int m x6) fun x7=>
 bd (pG_slices_Compact_int m x7) fun x8=>
 some ((↑x8.length:Int)==(↑x5.length:Int))
def o190 (m:Nat):Orc:=⟨190,[none],[.row .iNode],0,(.one .B),fun v=>pI_TreeOk m v⟩
theorem c190:CC o190:=mq (cs c134 (cs c125 (cs c168 (cs c167 (cs c209 cn))))) T190 Tryz.f190
def T162:Tab:=⟨[(1,⟨[],[.sl 0 (.row .iNode),.sl 1 (.I .i64),.sl 2 (.I .i64),.sl 20 .B]⟩)],[],[]⟩
def pI_places (m:Nat) (a1:List INode) (a2:Int) (a3:Int):Option (List IRect×Bool):=
 bd (α:=List INode×Int×Int×Bool) (
 bd (pI_TreeOk m a1) fun x4=>
 br (!x4) (
 some (a1,a2,a3,true)) <|
 bd (pI_within m a2 1 120) fun x5=>
 br (!x5) (
 some (a1,a2,a3,true)) <|
 bd (pI_within m a3 1 120) fun x6=>
 some (a1,a2,a3,!x6)) fun(x7,x8,x9,x10)=>
 br x10 (
 some ([],false)) <|
 bd (pI_areasOf m x7 x8 x9) fun(x11,x12)=>
 some (x11,x12)
def o162 (m:Nat):Orc:=⟨162,[none,none,none],[.row .iNode,.I .i64,.I .i64],0,(.tup [.own .iRect 99,.B]),fun v=>pI_places m v.1 v.2.1 v.2.2⟩
theorem c162:CC o162:=mq (cs c190 (cs c68 (cs c82 cn))) T162 Tryz.f162
def pI_Places_1 (m:Nat) (a1:IRect):Option Bool:=
 some (a1.Pane==0)
def o164 (m:Nat):Orc:=⟨164,[none],[.st .iRect []],0,(.one .B),fun v=>pI_Places_1 m v⟩
theorem c164:CC o164:=mq cn tn Tryz.f164
def T1014200:Tab:=⟨[],[],[(2,true,⟨[(1,.fn 164 [])],[.sl 0 (.row .iRect),.sl 7 (.I .i64),.sl 8 (.I .i64)]⟩,0,⟨[],[]⟩)]⟩
def pG_slices_IndexFunc_IRect_I_Places_1_b1 (m:Nat):Lp (List IRect×Int×Int) (Unit⊕Int):=fun(v3,v4,v5)=>
 br (decide (v5<v4)) (
 gd (0≤v5∧v5<(↑v3.length:Int)) <|
 bd v3[v5.toNat]? fun x6=>
 bd (pI_Places_1 m x6) fun x7=>
 br x7 (
 some (.inr (.inr v5))) <|
 gd (inK .i64 (v5+1)) <|
 some (.inl (v3,v4,v5+1))) <|
 some (.inr (.inl ()))
def pG_slices_IndexFunc_IRect_I_Places_1 (m:Nat) (a1:List IRect):Option Int:=
 jn (V:=Unit) (
 loopF (pG_slices_IndexFunc_IRect_I_Places_1_b1 m) m (a1,(↑a1.length:Int),0)) fun _=>
 some (-1)
def o1014200 (m:Nat):Orc:=⟨142,[none,some (.fn 164 [])],[.row .iRect],0,(.one (.I .i64)),fun v=>pG_slices_IndexFunc_IRect_I_Places_1 m v⟩
theorem c1014200:CC o1014200:=mq (cs c164 cn) T1014200 Tryz.f142
def T1016300:Tab:=⟨[],[(6,false,⟨[(1,.fn 164 [])],[.sl 0 (.own .iRect 90000000),.sl 5 (.I .i64),.sl 6 (.I .i64)]⟩)],[(5,false,⟨[(1,.fn 164 [])],[.sl 0 (.own .iRect 90000000),.sl 5 (.I .i64),.sl 6 (.I .i64)]⟩,0,⟨[],[.sl 0 (.own .iRect 90000000),.sl 5 (.I .i64)]⟩)]⟩
def pG_slices_DeleteFunc_IRect_I_Places_1_b1 (m:Nat):Lp (List IRect×Int×Int) (List IRect×Int):=fun(v6,v7,v8)=>
 br (decide (v8<(↑v6.length:Int))) (
 bd (α:=List IRect×Int×Int) (
 gd (0≤v8∧v8<(↑v6.length:Int)) <|
 bd (v6[0+v8.toNat]?) fun x9=>
 bd (pI_Places_1 m x9) fun x10=>
 br (!x10) (
 gd (0≤v7∧v7<(↑v6.length:Int)) <|
 bd (v6[0+v7.toNat]?) fun x11=>
 gd (inK .i64 (v7+1)) <|
 some (v6.set (0+v7.toNat) x9,v7+1,v8)) <|
 some (v6,v7,v8)) fun(x12,x13,x14)=>
 gd (inK .i64 (x14+1)) <|
 some (.inl (x12,x13,x14+1))) <|
 some (.inr (v6,v7))
def pG_slices_DeleteFunc_IRect_I_Places_1 (m:Nat) (a1:List IRect):Option (List IRect):=
 bd (pG_slices_IndexFunc_IRect_I_Places_1 m a1) fun x2=>
 br (x2== -1) (
 some a1) <|
 gd (inK .i64 (x2+1)) <|
 bd (α:=List IRect×Int) (
 loopF (pG_slices_DeleteFunc_IRect_I_Places_1_b1 m) m (a1,x2,x2+1)) fun(x4,x5)=>
 gd (0≤x5∧x5≤(↑x4.length:Int)) <|
 gd (0≤x5∧x5≤(↑x4.length:Int)) <|
 some (List.take (x5.toNat-0) (List.drop (0+0) (putL x4 (0+x5.toNat) (List.replicate (x4.length-x5.toNat) (zK K.iRect)))))
def o1016300 (m:Nat):Orc:=⟨163,[none,some (.fn 164 [])],[.own .iRect 99],0,(.one (.row .iRect)),fun v=>pG_slices_DeleteFunc_IRect_I_Places_1 m v⟩
theorem c1016300:CC o1016300:=mq (cs c1014200 (cs c164 cn)) T1016300 Tryz.f163
def pI_Places (m:Nat) (a1:List INode) (a2:Int) (a3:Int):Option (List IRect×Bool):=
 bd (pI_places m a1 a2 a3) fun(x4,x5)=>
 br (!x5) (
 some ([],false)) <|
 bd (pG_slices_DeleteFunc_IRect_I_Places_1 m x4) fun x6=>
 some (x6,true)
def o122 (m:Nat):Orc:=⟨122,[none,none,none],[.row .iNode,.I .i64,.I .i64],0,(.tup [.row .iRect,.B]),fun v=>pI_Places m v.1 v.2.1 v.2.2⟩
theorem c122:CC o122:=mq (cs c162 (cs c1016300 cn)) tn Tryz.f122
def T165:Tab:=⟨[(5,⟨[],[.sl 0 .S,.sl 1 (.I .i64),.sl 2 .S,.sl 10 (.I .i64),.sl 11 (.I .i64),.sl 37 .B]⟩)],[],[(2,true,⟨[],[.sl 0 .S,.sl 1 (.I .i64),.sl 2 .S,.sl 10 (.I .i64),.sl 11 (.I .i64)]⟩,0,⟨[],[.sl 0 .S,.sl 1 (.I .i64)]⟩)]⟩
def pI_isPlain_b1 (m:Nat):Lp (ByteArray×Int×ByteArray×Int×Int) (ByteArray×Int⊕Bool):=fun(v8,v9,v10,v11,v12)=>
 br (decide (v12<v11)) (
 gd (0≤v12) <|
 bd v8[v12.toNat]? fun x13=>
 bd (α:=ByteArray×Int×ByteArray×Int×Int×Bool) (
 br (decide (97≤(↑x13.toNat:Int))) (
 br (decide ((↑x13.toNat:Int)≤122)) (
 some (v8,v9,v10,v11,v12,!true)) <|
 br (decide (48≤(↑x13.toNat:Int))) (
 br (decide ((↑x13.toNat:Int)≤57)) (
 some (v8,v9,v10,v11,v12,!true)) <|
 bd (pG_strings_IndexByte v10 (↑x13.toNat:Int)) fun x14=>
 some (v8,v9,v10,v11,v12,!decide (0≤x14))) <|
 bd (pG_strings_IndexByte v10 (↑x13.toNat:Int)) fun x15=>
 some (v8,v9,v10,v11,v12,!decide (0≤x15))) <|
 br (decide (48≤(↑x13.toNat:Int))) (
 br (decide ((↑x13.toNat:Int)≤57)) (
 some (v8,v9,v10,v11,v12,!true)) <|
 bd (pG_strings_IndexByte v10 (↑x13.toNat:Int)) fun x16=>
 some (v8,v9,v10,v11,v12,!decide (0≤x16))) <|
 bd (pG_strings_IndexByte v10 (↑x13.toNat:Int)) fun x17=>
 some (v8,v9,v10,v11,v12,!decide (0≤x17))) fun(x18,x19,x20,x21,x22,x23)=>
 br x23 (
 some (.inr (.inr false))) <|
 gd (inK .i64 (x22+1)) <|
 some (.inl (x18,x19,x20,x21,x22+1))) <|
 some (.inr (.inl (v8,v9)))
def pI_isPlain (m:Nat) (a1:ByteArray) (a2:Int) (a3:ByteArray):Option Bool:=
 jn (V:=ByteArray×Int) (
 loopF (pI_isPlain_b1 m) m (a1,a2,a3,(↑a1.size:Int),0)) fun(v5,v6)=>
 bd (pI_within m (↑v5.size:Int) 1 v6) fun x7=>
 some x7
def o165 (m:Nat):Orc:=⟨165,[none,none,none],[.S,.I .i64,.S],0,(.one .B),fun v=>pI_isPlain m v.1 v.2.1 v.2.2⟩
theorem c165:CC o165:=mq (cs c191 (cs c68 cn)) T165 Tryz.f165
def pI_WordOk (m:Nat) (a1:ByteArray):Option Bool:=
 bd (pI_isPlain m a1 12 (ByteArray.mk #[])) fun x2=>
 some x2
def o123 (m:Nat):Orc:=⟨123,[none],[.S],0,(.one .B),fun v=>pI_WordOk m v⟩
theorem c123:CC o123:=mq (cs c165 cn) tn Tryz.f123
def T166:Tab:=⟨[],[],[(2,true,⟨[],[.sl 0 (.row .int),.sl 1 (.I .i64),.sl 7 (.I .i64),.sl 8 (.I .i64)]⟩,0,⟨[],[]⟩)]⟩
def pG_slices_Index_int_b1 (m:Nat):Lp (List Int×Int×Int×Int) (Unit⊕Int):=fun(v4,v5,v6,v7)=>
 br (decide (v7<v6)) (
 gd (0≤v7∧v7<(↑v4.length:Int)) <|
 bd v4[v7.toNat]? fun x8=>
 br (v5==x8) (
 some (.inr (.inr v7))) <|
 gd (inK .i64 (v7+1)) <|
 some (.inl (v4,v5,v6,v7+1))) <|
 some (.inr (.inl ()))
def pG_slices_Index_int (m:Nat) (a1:List Int) (a2:Int):Option Int:=
 jn (V:=Unit) (
 loopF (pG_slices_Index_int_b1 m) m (a1,a2,(↑a1.length:Int),0)) fun _=>
 some (-1)
def o166 (m:Nat):Orc:=⟨166,[none,none],[.row .int,.I .i64],0,(.one (.I .i64)),fun v=>pG_slices_Index_int m v.1 v.2⟩
theorem c166:CC o166:=mq cn T166 Tryz.f166
def pG_slices_Contains_int (m:Nat) (a1:List Int) (a2:Int):Option Bool:=
 bd (pG_slices_Index_int m a1 a2) fun x3=>
 some (decide (0≤x3))
def o124 (m:Nat):Orc:=⟨124,[none,none],[.row .int,.I .i64],0,(.one .B),fun v=>pG_slices_Contains_int m v.1 v.2⟩
theorem c124:CC o124:=mq (cs c166 cn) tn Tryz.f124
def T169:Tab:=⟨[],[],[(4,true,⟨[],[.sl 0 (.row .int),.sl 1 (.row .int),.sl 12 (.I .i64),.sl 13 (.I .i64)]⟩,0,⟨[],[]⟩)]⟩
def pG_slices_Equal_int_b1 (m:Nat):Lp (List Int×List Int×Int×Int) (Unit⊕Bool):=fun(v4,v5,v6,v7)=>
 br (decide (v7<v6)) (
 gd (0≤v7∧v7<(↑v4.length:Int)) <|
 bd v4[v7.toNat]? fun x8=>
 gd (0≤v7∧v7<(↑v5.length:Int)) <|
 bd v5[v7.toNat]? fun x9=>
 br (x8 !=x9) (
 some (.inr (.inr false))) <|
 gd (inK .i64 (v7+1)) <|
 some (.inl (v4,v5,v6,v7+1))) <|
 some (.inr (.inl ()))
def pG_slices_Equal_int (m:Nat) (a1:List Int) (a2:List Int):Option Bool:=
 br ((↑a1.length:Int) !=(↑a2.length:Int)) (
 some false) <|
 jn (V:=Unit) (
 loopF (pG_slices_Equal_int_b1 m) m (a1,a2,(↑a1.length:Int),0)) fun _=>
 some true
def o169 (m:Nat):Orc:=⟨169,[none,none],[.row .int,.row .int],0,(.one .B),fun v=>pG_slices_Equal_int m v.1 v.2⟩
theorem c169:CC o169:=mq cn T169 Tryz.f169
def pI_once (m:Nat) (a1:List Int) (a2:List Int):Option Bool:=
 bd (pG_slices_Clone_int m a1) fun x3=>
 bd (pG_slices_Clone_int m a2) fun x4=>
 bd (pG_slices_Sort_int x3) fun x5=>
 bd (pG_slices_Sort_int x4) fun x6=>
 bd (pG_slices_Equal_int m x5 x6) fun x7=>
 some x7
def o126 (m:Nat):Orc:=⟨126,[none,none],[.row .int,.row .int],0,(.one .B),fun v=>pI_once m v.1 v.2⟩
theorem c126:CC o126:=mq (cs c167 (cs c168 (cs c169 cn))) tn Tryz.f126
def T71:Tab:=⟨[(6,⟨[(1,.ptr 200 0),(6,.ptr 700 0)],[.sto 200 .iState [],.sto 700 .iWin [],.sl 3 (.own .int 1200),.sl 4 (.own .int 1300),.sl 14 (.row .iWin),.sl 15 (.I .i64),.sl 16 (.I .i64),.sl 75 .B]⟩),(15,⟨[],[.sl 2 .B]⟩)],[],[(3,true,⟨[(1,.ptr 200 0)],[.sto 200 .iState [],.sl 3 (.own .int 1200),.sl 4 (.own .int 1300),.sl 14 (.row .iWin),.sl 15 (.I .i64),.sl 16 (.I .i64)]⟩,0,⟨[(1,.ptr 200 0)],[.sto 200 .iState [],.sl 3 (.own .int 1200),.sl 4 (.own .int 1300)]⟩),(11,false,⟨[(1,.ptr 200 0)],[.sto 200 .iState [],.sl 3 (.own .int 1200),.sl 4 (.own .int 1300),.sl 83 (.row .iPane),.sl 84 (.I .i64),.sl 85 (.I .i64)]⟩,2,⟨[(1,.ptr 200 0)],[.sto 200 .iState [],.sl 3 (.own .int 1200),.sl 4 (.own .int 1300)]⟩)]⟩
def pI_State_winsOk_b2 (m:Nat):Lp (IState×List Int×List Int×List IPane×Int×Int) (IState×List Int×List Int):=fun(v37,v38,v39,v40,v41,v42)=>
 br (decide (v42<v41)) (
 gd (0≤v42∧v42<(↑v40.length:Int)) <|
 bd v40[v42.toNat]? fun x43=>
 gd (roomB .int (v39++ [x43.Id]).length) <|
 gd (inK .i64 (v42+1)) <|
 some (.inl (v37,v38,v39++ [x43.Id],v40,v41,v42+1))) <|
 some (.inr (v37,v38,v39))
def pI_State_winsOk_b1 (m:Nat):Lp (IState×List Int×List Int×List IWin×Int×Int) (IState×List Int×List Int⊕Bool):=fun(v12,v13,v14,v15,v16,v17)=>
 br (decide (v17<v16)) (
 gd (0≤v17∧v17<(↑v15.length:Int)) <|
 bd v15[v17.toNat]? fun x18=>
 bd (pI_Places m x18.Tree v12.W v12.H) fun(x19,x20)=>
 bd (α:=IState×IWin×List Int×List Int×List IWin×Int×Int×Bool) (
 br (decide (x18.Id<1)) (
 some (v12,x18,v13,v14,v15,v16,v17,true)) <|
 br (decide (v12.Next≤x18.Id)) (
 some (v12,x18,v13,v14,v15,v16,v17,true)) <|
 br (decide (0<v17)) (
 gd (inK .i64 (v17-1)) <|
 gd (0≤v17-1∧v17-1<(↑v12.Wins.length:Int)) <|
 bd (v12.Wins[(v17-1).toNat]?) fun x21=>
 br (decide (x18.Id≤x21.Id)) (
 some (v12,x18,v13,v14,v15,v16,v17,true)) <|
 bd (pI_WordOk m x18.Name) fun x22=>
 br (!x22) (
 some (v12,x18,v13,v14,v15,v16,v17,true)) <|
 br (!x20) (
 some (v12,x18,v13,v14,v15,v16,v17,true)) <|
 bd (pI_leaves m x18.Tree) fun x23=>
 bd (pG_slices_Contains_int m x23 x18.Active) fun x24=>
 some (v12,x18,v13,v14,v15,v16,v17,!x24)) <|
 bd (pI_WordOk m x18.Name) fun x25=>
 br (!x25) (
 some (v12,x18,v13,v14,v15,v16,v17,true)) <|
 br (!x20) (
 some (v12,x18,v13,v14,v15,v16,v17,true)) <|
 bd (pI_leaves m x18.Tree) fun x26=>
 bd (pG_slices_Contains_int m x26 x18.Active) fun x27=>
 some (v12,x18,v13,v14,v15,v16,v17,!x27)) fun(x28,x29,x30,x31,x32,x33,x34,x35)=>
 br x35 (
 some (.inr (.inr false))) <|
 bd (pI_leaves m x29.Tree) fun x36=>
 gd (roomB .int (x30++x36).length) <|
 gd (inK .i64 (x34+1)) <|
 some (.inl (x28,x30++x36,x31,x32,x33,x34+1))) <|
 some (.inr (.inl (v12,v13,v14)))
def pI_State_winsOk (m:Nat) (a1:IState):Option Bool:=
 jn (V:=IState×List Int×List Int) (
 loopF (pI_State_winsOk_b1 m) m (a1,[],[],a1.Wins,(↑a1.Wins.length:Int),0)) fun(v3,v4,v5)=>
 bd (α:=IState×List Int×List Int) (
 loopF (pI_State_winsOk_b2 m) m (v3,v4,v5,v3.Panes,(↑v3.Panes.length:Int),0)) fun(x7,x8,x9)=>
 bd (α:=Bool) (
 br (decide ((↑x7.Wins.length:Int)≤12)) (
 bd (pI_once m x8 x9) fun x10=>
 some x10) <|
 some false) fun x11=>
 some x11
def o71 (m:Nat):Orc:=⟨71,[none],[.st .iState []],0,(.one .B),fun v=>pI_State_winsOk m v⟩
theorem c71:CC o71:=mq (cs c122 (cs c123 (cs c125 (cs c124 (cs c126 cn))))) T71 Tryz.f71
def T72:Tab:=⟨[(5,⟨[(1,.ptr 200 0),(6,.ptr 700 0)],[.sto 200 .iState [],.sto 700 .iSess [],.sl 3 (.own .int 1000),.sl 4 (.own .int 1100),.sl 12 (.row .iSess),.sl 13 (.I .i64),.sl 14 (.I .i64),.sl 38 .B]⟩),(14,⟨[],[.sl 2 .B]⟩)],[],[(3,true,⟨[(1,.ptr 200 0)],[.sto 200 .iState [],.sl 3 (.own .int 1000),.sl 4 (.own .int 1100),.sl 12 (.row .iSess),.sl 13 (.I .i64),.sl 14 (.I .i64)]⟩,0,⟨[(1,.ptr 200 0)],[.sto 200 .iState [],.sl 3 (.own .int 1000),.sl 4 (.own .int 1100)]⟩),(10,false,⟨[(1,.ptr 200 0)],[.sto 200 .iState [],.sl 3 (.own .int 1000),.sl 4 (.own .int 1100),.sl 45 (.row .iWin),.sl 46 (.I .i64),.sl 47 (.I .i64)]⟩,2,⟨[(1,.ptr 200 0)],[.sto 200 .iState [],.sl 3 (.own .int 1000),.sl 4 (.own .int 1100)]⟩)]⟩
def pI_State_sessOk_b2 (m:Nat):Lp (IState×List Int×List Int×List IWin×Int×Int) (IState×List Int×List Int):=fun(v30,v31,v32,v33,v34,v35)=>
 br (decide (v35<v34)) (
 gd (0≤v35∧v35<(↑v33.length:Int)) <|
 bd v33[v35.toNat]? fun x36=>
 gd (roomB .int (v32++ [x36.Id]).length) <|
 gd (inK .i64 (v35+1)) <|
 some (.inl (v30,v31,v32++ [x36.Id],v33,v34,v35+1))) <|
 some (.inr (v30,v31,v32))
def pI_State_sessOk_b1 (m:Nat):Lp (IState×List Int×List Int×List ISess×Int×Int) (IState×List Int×List Int⊕Bool):=fun(v12,v13,v14,v15,v16,v17)=>
 br (decide (v17<v16)) (
 gd (0≤v17∧v17<(↑v15.length:Int)) <|
 bd v15[v17.toNat]? fun x18=>
 bd (α:=IState×ISess×List Int×List Int×List ISess×Int×Int×Bool) (
 bd (pI_WordOk m x18.Name) fun x19=>
 br (!x19) (
 some (v12,x18,v13,v14,v15,v16,v17,true)) <|
 bd (pI_SessAt m v12 x18.Name) fun x20=>
 br (x20 !=v17) (
 some (v12,x18,v13,v14,v15,v16,v17,true)) <|
 bd (pG_slices_Contains_int m x18.Wins x18.Active) fun x21=>
 some (v12,x18,v13,v14,v15,v16,v17,!x21)) fun(x22,x23,x24,x25,x26,x27,x28,x29)=>
 br x29 (
 some (.inr (.inr false))) <|
 gd (roomB .int (x24++x23.Wins).length) <|
 gd (inK .i64 (x28+1)) <|
 some (.inl (x22,x24++x23.Wins,x25,x26,x27,x28+1))) <|
 some (.inr (.inl (v12,v13,v14)))
def pI_State_sessOk (m:Nat) (a1:IState):Option Bool:=
 jn (V:=IState×List Int×List Int) (
 loopF (pI_State_sessOk_b1 m) m (a1,[],[],a1.Sess,(↑a1.Sess.length:Int),0)) fun(v3,v4,v5)=>
 bd (α:=IState×List Int×List Int) (
 loopF (pI_State_sessOk_b2 m) m (v3,v4,v5,v3.Wins,(↑v3.Wins.length:Int),0)) fun(x7,x8,x9)=>
 bd (α:=Bool) (
 br (decide ((↑x7.Sess.length:Int)≤8)) (
 bd (pI_once m x8 x9) fun x10=>
 some x10) <|
 some false) fun x11=>
 some x11
def o72 (m:Nat):Orc:=⟨72,[none],[.st .iState []],0,(.one .B),fun v=>pI_State_sessOk m v⟩
theorem c72:CC o72:=mq (cs c123 (cs c28 (cs c124 (cs c126 cn)))) T72 Tryz.f72
def pI_Leaves (m:Nat) (a1:List INode):Option (List Int):=
 bd (pI_TreeOk m a1) fun x2=>
 br (!x2) (
 some []) <|
 bd (pI_leaves m a1) fun x3=>
 some x3
def o171 (m:Nat):Orc:=⟨171,[none],[.row .iNode],0,(.one (.own .int 99)),fun v=>pI_Leaves m v⟩
theorem c171:CC o171:=mq (cs c190 (cs c125 cn)) tn Tryz.f171
def pI_WinOf_1 (m:Nat) (a1:IWin) (a2:Int):Option (Bool×Int):=
 bd (pI_Leaves m a1.Tree) fun x3=>
 bd (pG_slices_Contains_int m x3 a2) fun x4=>
 some (x4,a2)
def o1017000 (m:Nat):Orc:=⟨170,[none,some (.ptr 0 0 0 0)],[.st .iWin [],.I .i64],1,(.tup [.B,.I .i64]),fun v=>pI_WinOf_1 m v.1 v.2⟩
theorem c1017000:CC o1017000:=mq (cs c171 (cs c124 cn)) tn Tryz.f170
def T1007601:Tab:=⟨[],[],[(2,true,⟨[(1,.fn 170 [(0,0)])],[.bxl 0 [.I .i64],.sl 0 (.row .iWin),.sl 7 (.I .i64),.sl 8 (.I .i64)]⟩,0,⟨[],[.bxl 0 [.I .i64]]⟩)]⟩
def pG_slices_IndexFunc_IWin_I_WinOf_1_b1 (m:Nat):Lp (Int×List IWin×Int×Int) (Int⊕Int×Int):=fun(v5,v6,v7,v8)=>
 br (decide (v8<v7)) (
 gd (0≤v8∧v8<(↑v6.length:Int)) <|
 bd v6[v8.toNat]? fun x9=>
 bd (pI_WinOf_1 m x9 v5) fun(x10,x11)=>
 br x10 (
 some (.inr (.inr (v8,x11)))) <|
 gd (inK .i64 (v8+1)) <|
 some (.inl (x11,v6,v7,v8+1))) <|
 some (.inr (.inl v5))
def pG_slices_IndexFunc_IWin_I_WinOf_1 (m:Nat) (a1:List IWin) (a2:Int):Option (Int×Int):=
 jn (V:=Int) (
 loopF (pG_slices_IndexFunc_IWin_I_WinOf_1_b1 m) m (a2,a1,(↑a1.length:Int),0)) fun v4=>
 some (-1,v4)
def o1007601 (m:Nat):Orc:=⟨76,[none,some (.fn 170 [.ptr 0 0 0 0])],[.row .iWin,.I .i64],1,(.tup [.I .i64,.I .i64]),fun v=>pG_slices_IndexFunc_IWin_I_WinOf_1 m v.1 v.2⟩
theorem c1007601:CC o1007601:=mq (cs c1017000 cn) T1007601 Tryz.f76
def pI_WinOf (m:Nat) (a1:IState) (a2:Int):Option Int:=
 bd (pG_slices_IndexFunc_IWin_I_WinOf_1 m a1.Wins a2) fun(x3,x4)=>
 some x3
def o128 (m:Nat):Orc:=⟨128,[none,none],[.st .iState [],.I .i64],0,(.one (.I .i64)),fun v=>pI_WinOf m v.1 v.2⟩
theorem c128:CC o128:=mq (cs c1007601 cn) tn Tryz.f128
def pI_PlaceOf_1 (m:Nat) (a1:IRect) (a2:Int):Option (Bool×Int):=
 some (a1.Pane==a2,a2)
def o1014300 (m:Nat):Orc:=⟨143,[none,some (.ptr 0 0 0 0)],[.st .iRect [],.I .i64],1,(.tup [.B,.I .i64]),fun v=>pI_PlaceOf_1 m v.1 v.2⟩
theorem c1014300:CC o1014300:=mq cn tn Tryz.f143
def T1014201:Tab:=⟨[],[],[(2,true,⟨[(1,.fn 143 [(0,0)])],[.bxl 0 [.I .i64],.sl 0 (.row .iRect),.sl 7 (.I .i64),.sl 8 (.I .i64)]⟩,0,⟨[],[.bxl 0 [.I .i64]]⟩)]⟩
def pG_slices_IndexFunc_IRect_I_PlaceOf_1_b1 (m:Nat):Lp (Int×List IRect×Int×Int) (Int⊕Int×Int):=fun(v5,v6,v7,v8)=>
 br (decide (v8<v7)) (
 gd (0≤v8∧v8<(↑v6.length:Int)) <|
 bd v6[v8.toNat]? fun x9=>
 bd (pI_PlaceOf_1 m x9 v5) fun(x10,x11)=>
 br x10 (
 some (.inr (.inr (v8,x11)))) <|
 gd (inK .i64 (v8+1)) <|
 some (.inl (x11,v6,v7,v8+1))) <|
 some (.inr (.inl v5))
def pG_slices_IndexFunc_IRect_I_PlaceOf_1 (m:Nat) (a1:List IRect) (a2:Int):Option (Int×Int):=
 jn (V:=Int) (
 loopF (pG_slices_IndexFunc_IRect_I_PlaceOf_1_b1 m) m (a2,a1,(↑a1.length:Int),0)) fun v4=>
 some (-1,v4)
def o1014201 (m:Nat):Orc:=⟨142,[none,some (.fn 143 [.ptr 0 0 0 0])],[.row .iRect,.I .i64],1,(.tup [.I .i64,.I .i64]),fun v=>pG_slices_IndexFunc_IRect_I_PlaceOf_1 m v.1 v.2⟩
theorem c1014201:CC o1014201:=mq (cs c1014300 cn) T1014201 Tryz.f142
def pI_PlaceOf (m:Nat) (a1:List INode) (a2:Int) (a3:Int) (a4:Int):Option (IRect×Bool):=
 bd (pI_Places m a1 a2 a3) fun(x5,x6)=>
 bd (pG_slices_IndexFunc_IRect_I_PlaceOf_1 m x5 a4) fun(x7,x8)=>
 br (decide (x7<0)) (
 some (IRect.mk 0 0 0 0 0,false)) <|
 gd (0≤x7∧x7<(↑x5.length:Int)) <|
 bd x5[x7.toNat]? fun x9=>
 some (x9,true)
def o86 (m:Nat):Orc:=⟨86,[none,none,none,none],[.row .iNode,.I .i64,.I .i64,.I .i64],0,(.tup [.st .iRect [],.B]),fun v=>pI_PlaceOf m v.1 v.2.1 v.2.2.1 v.2.2.2⟩
theorem c86:CC o86:=mq (cs c122 (cs c1014201 cn)) tn Tryz.f86
def T75:Tab:=⟨[(5,⟨[(2,.ptr 300 0),(7,.ptr 800 0)],[.sto 300 .iState [],.sto 800 .iWin [],.sl 1 (.I .i64),.sl 27 .B]⟩)],[],[]⟩
def pI_Area (m:Nat) (a1:IState) (a2:Int):Option (Int×Int):=
 bd (pI_WinOf m a1 a2) fun x3=>
 br (decide (x3<0)) (
 some (0,0)) <|
 gd (0≤x3∧x3<(↑a1.Wins.length:Int)) <|
 bd a1.Wins[x3.toNat]? fun x4=>
 bd (α:=IState×IWin×Int×Bool) (
 br x4.Zoom (
 some (a1,x4,a2,x4.Active==a2)) <|
 some (a1,x4,a2,false)) fun(x5,x6,x7,x8)=>
 br x8 (
 some (x5.W,x5.H)) <|
 bd (pI_PlaceOf m x6.Tree x5.W x5.H x7) fun(x9,x10)=>
 some (x9.W,x9.H)
def o75 (m:Nat):Orc:=⟨75,[none,none],[.st .iState [],.I .i64],0,(.tup [.I .i64,.I .i64]),fun v=>pI_Area m v.1 v.2⟩
theorem c75:CC o75:=mq (cs c128 (cs c86 cn)) T75 Tryz.f75
def T1007400:Tab:=⟨[(2,⟨[],[.sto 0 .iState [],.sl 3 .B]⟩)],[],[]⟩
def pI_StateOk_1 (m:Nat) (a1:IPane) (a2:IState):Option (Bool×IState):=
 bd (pI_Area m a2 a1.Id) fun(x3,x4)=>
 bd (α:=IState×Bool) (
 br (a1.Term.S.W !=x3) (
 some (a2,true)) <|
 some (a2,a1.Term.S.H !=x4)) fun(x5,x6)=>
 some (x6,x5)
def o1007400 (m:Nat):Orc:=⟨74,[none,some (.ptr 0 0 0 0)],[.st .iPane [],.st .iState []],1,(.tup [.B,.st .iState []]),fun v=>pI_StateOk_1 m v.1 v.2⟩
theorem c1007400:CC o1007400:=mq (cs c75 cn) T1007400 Tryz.f74
def T1012700:Tab:=⟨[],[],[(2,true,⟨[(1,.fn 74 [(0,0)])],[.sto 0 .iState [],.sl 0 (.row .iPane),.sl 7 (.I .i64),.sl 8 (.I .i64)]⟩,0,⟨[],[.sto 0 .iState []]⟩)]⟩
def pG_slices_IndexFunc_IPane_I_StateOk_1_b1 (m:Nat):Lp (IState×List IPane×Int×Int) (IState⊕Int×IState):=fun(v5,v6,v7,v8)=>
 br (decide (v8<v7)) (
 gd (0≤v8∧v8<(↑v6.length:Int)) <|
 bd v6[v8.toNat]? fun x9=>
 bd (pI_StateOk_1 m x9 v5) fun(x10,x11)=>
 br x10 (
 some (.inr (.inr (v8,x11)))) <|
 gd (inK .i64 (v8+1)) <|
 some (.inl (x11,v6,v7,v8+1))) <|
 some (.inr (.inl v5))
def pG_slices_IndexFunc_IPane_I_StateOk_1 (m:Nat) (a1:List IPane) (a2:IState):Option (Int×IState):=
 jn (V:=IState) (
 loopF (pG_slices_IndexFunc_IPane_I_StateOk_1_b1 m) m (a2,a1,(↑a1.length:Int),0)) fun v4=>
 some (-1,v4)
def o1012700 (m:Nat):Orc:=⟨127,[none,some (.fn 74 [.ptr 0 0 0 0])],[.row .iPane,.st .iState []],1,(.tup [.I .i64,.st .iState []]),fun v=>pG_slices_IndexFunc_IPane_I_StateOk_1 m v.1 v.2⟩
theorem c1012700:CC o1012700:=mq (cs c1007400 cn) T1012700 Tryz.f127
def pG_slices_ContainsFunc_IPane_I_StateOk_1 (m:Nat) (a1:List IPane) (a2:IState):Option (Bool×IState):=
 bd (pG_slices_IndexFunc_IPane_I_StateOk_1 m a1 a2) fun(x3,x4)=>
 some (decide (0≤x3),x4)
def o1007300 (m:Nat):Orc:=⟨73,[none,some (.fn 74 [.ptr 0 0 0 0])],[.row .iPane,.st .iState []],1,(.tup [.B,.st .iState []]),fun v=>pG_slices_ContainsFunc_IPane_I_StateOk_1 m v.1 v.2⟩
theorem c1007300:CC o1007300:=mq (cs c1012700 cn) tn Tryz.f73
def T29:Tab:=⟨[(1,⟨[(1,.ptr 200 0)],[.sto 200 .iState [],.sl 35 .B]⟩)],[],[]⟩
def pI_StateOk (m:Nat) (a1:IState):Option Bool:=
 bd (α:=IState×Bool) (
 bd (pI_isSize m a1.W a1.H) fun x2=>
 br (!x2) (
 some (a1,true)) <|
 bd (pI_within m a1.Limit 0 100) fun x3=>
 br (!x3) (
 some (a1,true)) <|
 bd (pI_isId m a1.Next) fun x4=>
 br (!x4) (
 some (a1,true)) <|
 bd (pI_State_panesOk m a1) fun x5=>
 br (!x5) (
 some (a1,true)) <|
 bd (pI_State_winsOk m a1) fun x6=>
 br (!x6) (
 some (a1,true)) <|
 bd (pI_State_sessOk m a1) fun x7=>
 some (a1,!x7)) fun(x8,x9)=>
 br x9 (
 some false) <|
 bd (pG_slices_ContainsFunc_IPane_I_StateOk_1 m x8.Panes x8) fun(x10,x11)=>
 some (!x10)
def o29 (m:Nat):Orc:=⟨29,[none],[.st .iState []],0,(.one .B),fun v=>pI_StateOk m v⟩
theorem c29:CC o29:=mq (cs c30 (cs c68 (cs c69 (cs c70 (cs c71 (cs c72 (cs c1007300 cn))))))) T29 Tryz.f29
def pG_bits_Mul64 (m:Nat) (a1:Int) (a2:Int):Option (Int×Int):=
 gd ((0:Int)≤(32:Int)) <|
 gd ((0:Int)≤(32:Int)) <|
 gd ((0:Int)≤(32:Int)) <|
 gd ((0:Int)≤(32:Int)) <|
 gd ((0:Int)≤(32:Int)) <|
 some (IntKind.u64.wrap (IntKind.u64.wrap (IntKind.u64.wrap (a1.fdiv (2 ^ min (Int.toNat 32) IntKind.u64.bits)*a2.fdiv (2 ^ min (Int.toNat 32) IntKind.u64.bits))+(IntKind.u64.wrap (IntKind.u64.wrap (a1.fdiv (2 ^ min (Int.toNat 32) IntKind.u64.bits)*IntKind.u64.wrap (↑(BitVec.ofInt IntKind.u64.bits a2 &&&BitVec.ofInt IntKind.u64.bits 4294967295).toNat:Int))+(IntKind.u64.wrap (IntKind.u64.wrap (↑(BitVec.ofInt IntKind.u64.bits a1 &&&BitVec.ofInt IntKind.u64.bits 4294967295).toNat:Int)*IntKind.u64.wrap (↑(BitVec.ofInt IntKind.u64.bits a2 &&&BitVec.ofInt IntKind.u64.bits 4294967295).toNat:Int))).fdiv (2 ^ min (Int.toNat 32) IntKind.u64.bits))).fdiv (2 ^ min (Int.toNat 32) IntKind.u64.bits))+(IntKind.u64.wrap (IntKind.u64.wrap (↑(BitVec.ofInt IntKind.u64.bits (IntKind.u64.wrap (IntKind.u64.wrap (a1.fdiv (2 ^ min (Int.toNat 32) IntKind.u64.bits)*IntKind.u64.wrap (↑(BitVec.ofInt IntKind.u64.bits a2 &&&BitVec.ofInt IntKind.u64.bits 4294967295).toNat:Int))+(IntKind.u64.wrap (IntKind.u64.wrap (↑(BitVec.ofInt IntKind.u64.bits a1 &&&BitVec.ofInt IntKind.u64.bits 4294967295).toNat:Int)*IntKind.u64.wrap (↑(BitVec.ofInt IntKind.u64.bits a2 &&&BitVec.ofInt IntKind.u64.bits 4294967295).toNat:Int))).fdiv (2 ^ min (Int.toNat 32) IntKind.u64.bits))) &&&BitVec.ofInt IntKind.u64.bits 4294967295).toNat:Int)+IntKind.u64.wrap (IntKind.u64.wrap (↑(BitVec.ofInt IntKind.u64.bits a1 &&&BitVec.ofInt IntKind.u64.bits 4294967295).toNat:Int)*a2.fdiv (2 ^ min (Int.toNat 32) IntKind.u64.bits)))).fdiv (2 ^ min (Int.toNat 32) IntKind.u64.bits)),IntKind.u64.wrap (a1*a2))
def o139 (m:Nat):Orc:=⟨139,[none,none],[.I .u64,.I .u64],0,(.tup [.I .u64,.I .u64]),fun v=>pG_bits_Mul64 m v.1 v.2⟩
theorem c139:CC o139:=mq cn tn Tryz.f139
def pG_bits_Mul (m:Nat) (a1:Int) (a2:Int):Option (Int×Int):=
 bd (pG_bits_Mul64 m a1 a2) fun(x3,x4)=>
 some (x3,x4)
def o84 (m:Nat):Orc:=⟨84,[none,none],[.I .u64,.I .u64],0,(.tup [.I .u64,.I .u64]),fun v=>pG_bits_Mul m v.1 v.2⟩
theorem c84:CC o84:=mq (cs c139 cn) tn Tryz.f84
def T36:Tab:=⟨[(4,⟨[],[.sl 0 (.row .iCell),.sl 6 (.I .u64),.sl 26 .B]⟩)],[],[(8,false,⟨[],[.sl 7 (.own .iCell 3100),.sl 8 (.I .i64)]⟩,0,⟨[],[.sl 7 (.own .iCell 3100)]⟩)]⟩
def pG_slices_Repeat_ICell_b1 (m:Nat):Lp (List ICell×Int) (List ICell):=fun(v10,v11)=>
 br (decide (v11<(↑v10.length:Int))) (
 gd (0≤v11∧v11≤(↑v10.length:Int)) <|
 gd (0≤v11∧v11≤(↑v10.length:Int)) <|
 gd (inK .i64 (v11+(↑(List.take (v10.length-v11.toNat) (viewL false v10 (0+0) (v11.toNat-0))).length:Int))) <|
 some (.inl (putL v10 (0+v11.toNat) (List.take (v10.length-v11.toNat) (viewL false v10 (0+0) (v11.toNat-0))),v11+(↑(List.take (v10.length-v11.toNat) (viewL false v10 (0+0) (v11.toNat-0))).length:Int)))) <|
 some (.inr v10)
def pG_slices_Repeat_ICell (m:Nat) (a1:List ICell) (a2:Int):Option (List ICell):=
 br (decide (a2<0)) (
 none) <|
 bd (pG_bits_Mul m (IntKind.u64.wrap (↑a1.length:Int)) (IntKind.u64.wrap a2)) fun(x3,x4)=>
 bd (α:=List ICell×Int×Bool) (
 br (decide (0<x3)) (
 some (a1,x4,true)) <|
 some (a1,x4,decide (9223372036854775807<x4))) fun(x5,x6,x7)=>
 br x7 (
 none) <|
 gd (inK .i64 x6) <|
 gd (0≤x6∧x6≤x6) <|
 gd (roomB .iCell x6.toNat) <|
 bd (α:=List ICell) (
 loopF (pG_slices_Repeat_ICell_b1 m) m (putL (List.replicate x6.toNat (zK K.iCell)) 0 (List.take x6.toNat x5),(↑(List.take x6.toNat x5).length:Int))) fun x9=>
 some x9
def o36 (m:Nat):Orc:=⟨36,[none,none],[.row .iCell,.I .i64],0,(.one (.own .iCell 99)),fun v=>pG_slices_Repeat_ICell m v.1 v.2⟩
theorem c36:CC o36:=mq (cs c84 cn) T36 Tryz.f36
def pI_blank (m:Nat):Option ICell:=
 some (ICell.mk 32 (IAttr.mk 0 0 false false false))
def o78 (m:Nat):Orc:=⟨78,[],[],0,(.one (.st .iCell [])),fun v=>pI_blank m⟩
theorem c78:CC o78:=mq cn tn Tryz.f78
def pI_gridOf (m:Nat) (a1:Int) (a2:Int):Option IGrid:=
 bd (pI_blank m) fun x3=>
 gd (inK .i64 (a1*a2)) <|
 bd (pG_slices_Repeat_ICell m [x3] (a1*a2)) fun x4=>
 some (IGrid.mk a1 a2 x4)
def o32 (m:Nat):Orc:=⟨32,[none,none],[.I .i64,.I .i64],0,(.one (.st .iGrid [(2,99)])),fun v=>pI_gridOf m v.1 v.2⟩
theorem c32:CC o32:=mq (cs c78 (cs c36 cn)) tn Tryz.f32
def pI_Grid_row (m:Nat) (a1:IGrid) (a2:Int):Option (List ICell):=
 gd (inK .i64 (a2*a1.W)) <|
 gd (inK .i64 (a2+1)) <|
 gd (inK .i64 ((a2+1)*a1.W)) <|
 gd (0≤(a2+1)*a1.W∧(a2+1)*a1.W≤(↑a1.Cells.length:Int)) <|
 gd (0≤a2*a1.W∧a2*a1.W≤(↑((a2+1)*a1.W).toNat:Int)) <|
 some (List.drop (a2*a1.W).toNat (List.take ((a2+1)*a1.W).toNat a1.Cells))
def o35 (m:Nat):Orc:=⟨35,[none,none],[.st .iGrid [],.I .i64],0,(.one (.row .iCell)),fun v=>pI_Grid_row m v.1 v.2⟩
theorem c35:CC o35:=mq cn tn Tryz.f35
def pG_slices_Clone_ICell (m:Nat) (a1:List ICell):Option (List ICell):=
 cmpN a1 (
 some []) <|
 gd (roomB .iCell ([]++a1).length) <|
 some ([]++a1)
def o129 (m:Nat):Orc:=⟨129,[none],[.row .iCell],0,(.one (.own .iCell 99)),fun v=>pG_slices_Clone_ICell m v⟩
theorem c129:CC o129:=mq cn tn Tryz.f129
def pI_copyGrid (m:Nat) (a1:IGrid):Option IGrid:=
 bd (pG_slices_Clone_ICell m a1.Cells) fun x2=>
 some (IGrid.mk a1.W a1.H x2)
def o79 (m:Nat):Orc:=⟨79,[none],[.st .iGrid []],0,(.one (.st .iGrid [(2,99)])),fun v=>pI_copyGrid m v⟩
theorem c79:CC o79:=mq (cs c129 cn) tn Tryz.f79
def T33:Tab:=⟨[],[(10,false,⟨[(5,.ptr 600 0),(8,.ptr 900 0),(9,.ptr 1000 0)],[.sto 600 .iGrid [],.sto 900 .iGrid [(2,50000001)],.sto 1000 .iGrid [(2,14000002)],.sl 2 (.I .i64),.sl 3 (.I .i64),.sl 10 (.I .i64),.sl 15 (.I .i64),.sl 16 (.I .i64),.sl 20 (.I .i64),.sl 21 (.I .i64)]⟩)],[(6,false,⟨[(5,.ptr 600 0),(8,.ptr 900 0),(9,.ptr 1000 0)],[.sto 600 .iGrid [],.sto 900 .iGrid [(2,50000001)],.sto 1000 .iGrid [(2,14000002)],.sl 2 (.I .i64),.sl 3 (.I .i64),.sl 10 (.I .i64),.sl 15 (.I .i64),.sl 16 (.I .i64),.sl 20 (.I .i64),.sl 21 (.I .i64)]⟩,2,⟨[(5,.ptr 600 0),(8,.ptr 900 0),(9,.ptr 1000 0)],[.sto 600 .iGrid [],.sto 900 .iGrid [(2,50000001)],.sto 1000 .iGrid [(2,14000002)],.sl 2 (.I .i64),.sl 3 (.I .i64),.sl 15 (.I .i64),.sl 16 (.I .i64)]⟩),(3,false,⟨[(5,.ptr 600 0),(8,.ptr 900 0),(9,.ptr 1000 0)],[.sto 600 .iGrid [],.sto 900 .iGrid [(2,50000001)],.sto 1000 .iGrid [(2,14000002)],.sl 2 (.I .i64),.sl 3 (.I .i64),.sl 15 (.I .i64),.sl 16 (.I .i64)]⟩,0,⟨[(8,.ptr 900 0),(9,.ptr 1000 0)],[.sto 900 .iGrid [(2,50000001)],.sto 1000 .iGrid [(2,14000002)]]⟩)]⟩
def pI_Grid_paste_b2 (m:Nat):Lp (IGrid×IGrid×IGrid×Int×Int×Int×Int×Int×Int×Int) (IGrid×IGrid×IGrid×Int×Int×Int×Int):=fun(v24,v25,v26,v27,v28,v29,v30,v31,v32,v33)=>
 br (decide (v33<v32)) (
 bd (α:=IGrid×IGrid×IGrid×Int×Int×Int×Int×Int×Int×Int) (
 gd (inK .i64 (v27+v33)) <|
 gd (inK .i64 (v28+v29)) <|
 bd (pI_Grid_has m v26 (v27+v33) (v28+v29)) fun x34=>
 br x34 (
 gd (inK .i64 (v28+v29)) <|
 gd (inK .i64 ((v28+v29)*v26.W)) <|
 gd (inK .i64 (v28+v29+1)) <|
 gd (inK .i64 ((v28+v29+1)*v26.W)) <|
 gd (0≤(v28+v29+1)*v26.W∧(v28+v29+1)*v26.W≤(↑v26.Cells.length:Int)) <|
 gd (0≤(v28+v29)*v26.W∧(v28+v29)*v26.W≤(↑((v28+v29+1)*v26.W).toNat:Int)) <|
 gd (inK .i64 (v27+v33)) <|
 gd (inK .i64 (v29*v24.W)) <|
 gd (inK .i64 (v29+1)) <|
 gd (inK .i64 ((v29+1)*v24.W)) <|
 gd (0≤(v29+1)*v24.W∧(v29+1)*v24.W≤(↑v24.Cells.length:Int)) <|
 gd (0≤v29*v24.W∧v29*v24.W≤(↑((v29+1)*v24.W).toNat:Int)) <|
 gd (0≤v33∧v33<(↑(List.drop (v29*v24.W).toNat (List.take ((v29+1)*v24.W).toNat v24.Cells)).length:Int)) <|
 bd ((List.drop (v29*v24.W).toNat (List.take ((v29+1)*v24.W).toNat v24.Cells))[v33.toNat]?) fun x35=>
 gd (0≤v27+v33∧v27+v33<(↑(((v28+v29+1)*v26.W).toNat-((v28+v29)*v26.W).toNat):Int)) <|
 bd (v26.Cells[0+((v28+v29)*v26.W).toNat+(v27+v33).toNat]?) fun x36=>
 some (v24,v25,IGrid.mk v26.W v26.H (v26.Cells.set (0+((v28+v29)*v26.W).toNat+(v27+v33).toNat) x35),v27,v28,v29,v30,v31,v32,v33)) <|
 some (v24,v25,v26,v27,v28,v29,v30,v31,v32,v33)) fun(x37,x38,x39,x40,x41,x42,x43,x44,x45,x46)=>
 gd (inK .i64 (x46+1)) <|
 some (.inl (x37,x38,x39,x40,x41,x42,x43,x44,x45,x46+1))) <|
 some (.inr (v24,v25,v26,v27,v28,v30,v31))
def pI_Grid_paste_b1 (m:Nat):Lp (IGrid×IGrid×IGrid×Int×Int×Int×Int) (IGrid×IGrid):=fun(v9,v10,v11,v12,v13,v14,v15)=>
 br (decide (v15<v14)) (
 bd (α:=IGrid×IGrid×IGrid×Int×Int×Int×Int) (
 loopF (pI_Grid_paste_b2 m) m (v9,v10,v11,v12,v13,v15,v14,v15,v9.W,0)) fun(x17,x18,x19,x20,x21,x22,x23)=>
 gd (inK .i64 (x23+1)) <|
 some (.inl (x17,x18,x19,x20,x21,x22,x23+1))) <|
 some (.inr (v10,v11))
def pI_Grid_paste (m:Nat) (a1:IGrid) (a2:IGrid) (a3:Int) (a4:Int):Option IGrid:=
 bd (pI_copyGrid m a1) fun x5=>
 bd (α:=IGrid×IGrid) (
 loopF (pI_Grid_paste_b1 m) m (a2,IGrid.mk 0 0 [],x5,a3,a4,a2.H,0)) fun(x7,x8)=>
 some x8
def o33 (m:Nat):Orc:=⟨33,[none,none,none,none],[.st .iGrid [],.st .iGrid [],.I .i64,.I .i64],0,(.one (.st .iGrid [(2,99)])),fun v=>pI_Grid_paste m v.1 v.2.1 v.2.2.1 v.2.2.2⟩
theorem c33:CC o33:=mq (cs c79 (cs c80 cn)) T33 Tryz.f33
def pI_PaneAt_1 (m:Nat) (a1:IPane) (a2:Int):Option (Bool×Int):=
 some (a1.Id==a2,a2)
def o1014400 (m:Nat):Orc:=⟨144,[none,some (.ptr 0 0 0 0)],[.st .iPane [],.I .i64],1,(.tup [.B,.I .i64]),fun v=>pI_PaneAt_1 m v.1 v.2⟩
theorem c1014400:CC o1014400:=mq cn tn Tryz.f144
def T1012701:Tab:=⟨[],[],[(2,true,⟨[(1,.fn 144 [(0,0)])],[.bxl 0 [.I .i64],.sl 0 (.row .iPane),.sl 7 (.I .i64),.sl 8 (.I .i64)]⟩,0,⟨[],[.bxl 0 [.I .i64]]⟩)]⟩
def pG_slices_IndexFunc_IPane_I_PaneAt_1_b1 (m:Nat):Lp (Int×List IPane×Int×Int) (Int⊕Int×Int):=fun(v5,v6,v7,v8)=>
 br (decide (v8<v7)) (
 gd (0≤v8∧v8<(↑v6.length:Int)) <|
 bd v6[v8.toNat]? fun x9=>
 bd (pI_PaneAt_1 m x9 v5) fun(x10,x11)=>
 br x10 (
 some (.inr (.inr (v8,x11)))) <|
 gd (inK .i64 (v8+1)) <|
 some (.inl (x11,v6,v7,v8+1))) <|
 some (.inr (.inl v5))
def pG_slices_IndexFunc_IPane_I_PaneAt_1 (m:Nat) (a1:List IPane) (a2:Int):Option (Int×Int):=
 jn (V:=Int) (
 loopF (pG_slices_IndexFunc_IPane_I_PaneAt_1_b1 m) m (a2,a1,(↑a1.length:Int),0)) fun v4=>
 some (-1,v4)
def o1012701 (m:Nat):Orc:=⟨127,[none,some (.fn 144 [.ptr 0 0 0 0])],[.row .iPane,.I .i64],1,(.tup [.I .i64,.I .i64]),fun v=>pG_slices_IndexFunc_IPane_I_PaneAt_1 m v.1 v.2⟩
theorem c1012701:CC o1012701:=mq (cs c1014400 cn) T1012701 Tryz.f127
def pI_PaneAt (m:Nat) (a1:IState) (a2:Int):Option Int:=
 bd (pG_slices_IndexFunc_IPane_I_PaneAt_1 m a1.Panes a2) fun(x3,x4)=>
 some x3
def o87 (m:Nat):Orc:=⟨87,[none,none],[.st .iState [],.I .i64],0,(.one (.I .i64)),fun v=>pI_PaneAt m v.1 v.2⟩
theorem c87:CC o87:=mq (cs c1012701 cn) tn Tryz.f87
def pI_State_terminal (m:Nat) (a1:IState) (a2:Int):Option (List IPane×Nat):=
 bd (pI_PaneAt m a1 a2) fun x3=>
 gd (0≤x3∧x3<(↑a1.Panes.length:Int)) <|
 some (a1.Panes,x3.toNat)
def o39 (m:Nat):Orc:=⟨39,[none,none],[.st .iState [],.I .i64],0,(.one (.eptr .iPane 10)),fun v=>pI_State_terminal m v.1 v.2⟩
theorem c39:CC o39:=mq (cs c87 cn) tn Tryz.f39
def pI_isPlace (m:Nat) (a1:Int):Option Bool:=
 bd (pI_within m a1 (-100000) 100000) fun x2=>
 some x2
def o137 (m:Nat):Orc:=⟨137,[none],[.I .i64],0,(.one .B),fun v=>pI_isPlace m v⟩
theorem c137:CC o137:=mq (cs c68 cn) tn Tryz.f137
def T83:Tab:=⟨[(1,⟨[(6,.ptr 700 0),(11,.ptr 1200 0),(12,.ptr 1300 0)],[.sto 700 .iGrid [],.sto 1200 .iCell [],.sto 1300 .iGrid [(2,50000001)],.sl 1 (.I .i64),.sl 2 (.I .i64),.sl 3 (.I .i64),.sl 4 (.I .i64),.sl 43 .B]⟩)],[],[(8,false,⟨[(6,.ptr 700 0),(11,.ptr 1200 0),(12,.ptr 1300 0),(13,.ptr 1400 0)],[.sto 700 .iGrid [],.sto 1200 .iCell [],.sto 1300 .iGrid [(2,50000001)],.sto 1400 .iGrid [(2,47000002)],.sl 1 (.I .i64),.sl 2 (.I .i64),.sl 3 (.I .i64),.sl 4 (.I .i64),.sl 14 (.I .i64),.sl 15 (.I .i64)]⟩,2,⟨[(6,.ptr 700 0),(11,.ptr 1200 0),(12,.ptr 1300 0),(13,.ptr 1400 0)],[.sto 700 .iGrid [],.sto 1200 .iCell [],.sto 1300 .iGrid [(2,50000001)],.sto 1400 .iGrid [(2,47000002)],.sl 1 (.I .i64),.sl 2 (.I .i64),.sl 3 (.I .i64),.sl 4 (.I .i64),.sl 14 (.I .i64)]⟩),(5,false,⟨[(6,.ptr 700 0),(11,.ptr 1200 0),(12,.ptr 1300 0),(13,.ptr 1400 0)],[.sto 700 .iGrid [],.sto 1200 .iCell [],.sto 1300 .iGrid [(2,50000001)],.sto 1400 .iGrid [(2,47000002)],.sl 1 (.I .i64),.sl 2 (.I .i64),.sl 3 (.I .i64),.sl 4 (.I .i64),.sl 14 (.I .i64)]⟩,0,⟨[(12,.ptr 1300 0),(13,.ptr 1400 0)],[.sto 1300 .iGrid [(2,50000001)],.sto 1400 .iGrid [(2,47000002)]]⟩)]⟩
def pI_GridFill_b2 (m:Nat):Lp (IGrid×ICell×IGrid×IGrid×Int×Int×Int×Int×Int×Int) (IGrid×ICell×IGrid×IGrid×Int×Int×Int×Int×Int):=fun(v44,v45,v46,v47,v48,v49,v50,v51,v52,v53)=>
 gd (inK .i64 (v48+v50)) <|
 br (decide (v53<if v48+v50<v44.W then v48+v50 else v44.W)) (
 gd (inK .i64 (v52*v47.W)) <|
 gd (inK .i64 (v52+1)) <|
 gd (inK .i64 ((v52+1)*v47.W)) <|
 gd (0≤(v52+1)*v47.W∧(v52+1)*v47.W≤(↑v47.Cells.length:Int)) <|
 gd (0≤v52*v47.W∧v52*v47.W≤(↑((v52+1)*v47.W).toNat:Int)) <|
 gd (0≤v53∧v53<(↑(((v52+1)*v47.W).toNat-(v52*v47.W).toNat):Int)) <|
 bd (v47.Cells[0+(v52*v47.W).toNat+v53.toNat]?) fun x54=>
 gd (inK .i64 (v53+1)) <|
 some (.inl (v44,v45,v46,IGrid.mk v47.W v47.H (v47.Cells.set (0+(v52*v47.W).toNat+v53.toNat) v45),v48,v49,v50,v51,v52,v53+1))) <|
 some (.inr (v44,v45,v46,v47,v48,v49,v50,v51,v52))
def pI_GridFill_b1 (m:Nat):Lp (IGrid×ICell×IGrid×IGrid×Int×Int×Int×Int×Int) (IGrid×IGrid):=fun(v25,v26,v27,v28,v29,v30,v31,v32,v33)=>
 gd (inK .i64 (v30+v32)) <|
 br (decide (v33<if v30+v32<v25.H then v30+v32 else v25.H)) (
 bd (α:=IGrid×ICell×IGrid×IGrid×Int×Int×Int×Int×Int) (
 loopF (pI_GridFill_b2 m) m (v25,v26,v27,v28,v29,v30,v31,v32,v33,if 0<v29 then v29 else 0)) fun(x35,x36,x37,x38,x39,x40,x41,x42,x43)=>
 gd (inK .i64 (x43+1)) <|
 some (.inl (x35,x36,x37,x38,x39,x40,x41,x42,x43+1))) <|
 some (.inr (v27,v28))
def pI_GridFill (m:Nat) (a1:IGrid) (a2:Int) (a3:Int) (a4:Int) (a5:Int) (a6:ICell):Option IGrid:=
 bd (α:=IGrid×ICell×IGrid×Int×Int×Int×Int×Bool) (
 bd (pI_GridOk m a1) fun x7=>
 br (!x7) (
 some (a1,a6,IGrid.mk 0 0 [],a2,a3,a4,a5,true)) <|
 bd (pI_CellOk m a6) fun x8=>
 br (!x8) (
 some (a1,a6,IGrid.mk 0 0 [],a2,a3,a4,a5,true)) <|
 bd (pI_isPlace m a2) fun x9=>
 br (!x9) (
 some (a1,a6,IGrid.mk 0 0 [],a2,a3,a4,a5,true)) <|
 bd (pI_isPlace m a3) fun x10=>
 br (!x10) (
 some (a1,a6,IGrid.mk 0 0 [],a2,a3,a4,a5,true)) <|
 bd (pI_isPlace m a4) fun x11=>
 br (!x11) (
 some (a1,a6,IGrid.mk 0 0 [],a2,a3,a4,a5,true)) <|
 bd (pI_isPlace m a5) fun x12=>
 some (a1,a6,IGrid.mk 0 0 [],a2,a3,a4,a5,!x12)) fun(x13,x14,x15,x16,x17,x18,x19,x20)=>
 br x20 (
 some (IGrid.mk 0 0 [])) <|
 bd (pI_copyGrid m x13) fun x21=>
 bd (α:=IGrid×IGrid) (
 loopF (pI_GridFill_b1 m) m (x13,x14,x15,x21,x16,x17,x18,x19,if 0<x17 then x17 else 0)) fun(x23,x24)=>
 some x24
def o83 (m:Nat):Orc:=⟨83,[none,none,none,none,none,none],[.st .iGrid [],.I .i64,.I .i64,.I .i64,.I .i64,.st .iCell []],0,(.one (.st .iGrid [(2,99)])),fun v=>pI_GridFill m v.1 v.2.1 v.2.2.1 v.2.2.2.1 v.2.2.2.2.1 v.2.2.2.2.2⟩
theorem c83:CC o83:=mq (cs c135 (cs c136 (cs c137 (cs c79 cn)))) T83 Tryz.f83
def T1008100:Tab:=⟨[(1,⟨[(4,.ptr 500 0)],[.sto 500 .iGrid [(2,50000001)],.sl 0 (.eptr .iPane 10),.sl 1 (.I .i64),.sl 19 .B]⟩),(2,⟨[(4,.ptr 500 0)],[.sto 500 .iGrid [(2,25000002)]]⟩)],[],[(5,false,⟨[(4,.ptr 500 0)],[.sto 500 .iGrid [(2,50000001)],.sl 0 (.eptr .iPane 10),.sl 1 (.I .i64),.sl 5 (.own .sl_iCell 2600),.sl 29 (.row .iRow),.sl 30 (.I .i64),.sl 31 (.I .i64)]⟩,0,⟨[(4,.ptr 500 0)],[.sto 500 .iGrid [(2,50000001)],.sl 0 (.eptr .iPane 10),.sl 1 (.I .i64),.sl 5 (.own .sl_iCell 2600)]⟩),(10,false,⟨[(4,.ptr 500 0)],[.sto 500 .iGrid [(2,50000001)],.sl 0 (.eptr .iPane 10),.sl 1 (.I .i64),.sl 5 (.own .sl_iCell 2600),.sl 44 (.I .i64),.sl 45 (.I .i64)]⟩,2,⟨[(4,.ptr 500 0)],[.sto 500 .iGrid [(2,50000001)],.sl 0 (.eptr .iPane 10),.sl 1 (.I .i64),.sl 5 (.own .sl_iCell 2600)]⟩),(16,false,⟨[(4,.ptr 500 0),(10,.ptr 1100 0)],[.sto 500 .iGrid [(2,50000001)],.sto 1100 .iGrid [(2,80000002)],.sl 5 (.own .sl_iCell 2600),.sl 9 (.I .i64),.sl 83 (.I .i64),.sl 84 (.I .i64)]⟩,4,⟨[(4,.ptr 500 0),(10,.ptr 1100 0)],[.sto 500 .iGrid [(2,50000001)],.sto 1100 .iGrid [(2,80000002)]]⟩)]⟩
def pI_Scr_look_b3 (m:Nat):Lp (IGrid×IGrid×List (List ICell)×Int×Int×Int) (IGrid×IGrid):=fun(v50,v51,v52,v53,v54,v55)=>
 br (decide (v55<v54)) (
 gd (inK .i64 (v55*v51.W)) <|
 gd (inK .i64 (v55+1)) <|
 gd (inK .i64 ((v55+1)*v51.W)) <|
 gd (0≤(v55+1)*v51.W∧(v55+1)*v51.W≤(↑v51.Cells.length:Int)) <|
 gd (0≤v55*v51.W∧v55*v51.W≤(↑((v55+1)*v51.W).toNat:Int)) <|
 gd (inK .i64 (v53+v55)) <|
 gd (0≤v53+v55∧v53+v55<(↑v52.length:Int)) <|
 bd (v52[0+(v53+v55).toNat]?) fun x56=>
 gd (inK .i64 (v55+1)) <|
 some (.inl (v50,IGrid.mk v51.W v51.H (putL v51.Cells (0+(v55*v51.W).toNat) (List.take (((v55+1)*v51.W).toNat-(v55*v51.W).toNat) x56)),v52,v53,v54,v55+1))) <|
 some (.inr (v50,v51))
def pI_Scr_look_b2 (m:Nat):Lp (IGrid×(List IPane×Nat)×Int×List (List ICell)×Int×Int) (IGrid×(List IPane×Nat)×Int×List (List ICell)):=fun(v43,v44,v45,v46,v47,v48)=>
 br (decide (v48<v47)) (
 bd v44.fst[v44.snd]? fun x49=>
 gd (inK .i64 (v48*x49.Term.S.Main.W)) <|
 gd (inK .i64 (v48+1)) <|
 gd (inK .i64 ((v48+1)*x49.Term.S.Main.W)) <|
 gd (0≤(v48+1)*x49.Term.S.Main.W∧(v48+1)*x49.Term.S.Main.W≤(↑x49.Term.S.Main.Cells.length:Int)) <|
 gd (0≤v48*x49.Term.S.Main.W∧v48*x49.Term.S.Main.W≤(↑((v48+1)*x49.Term.S.Main.W).toNat:Int)) <|
 gd (roomB .sl_iCell (v46++ [List.drop (v48*x49.Term.S.Main.W).toNat (List.take ((v48+1)*x49.Term.S.Main.W).toNat x49.Term.S.Main.Cells)]).length) <|
 gd (inK .i64 (v48+1)) <|
 some (.inl (v43,v44,v45,v46++ [List.drop (v48*x49.Term.S.Main.W).toNat (List.take ((v48+1)*x49.Term.S.Main.W).toNat x49.Term.S.Main.Cells)],v47,v48+1))) <|
 some (.inr (v43,v44,v45,v46))
def pI_Scr_look_b1 (m:Nat):Lp (IGrid×(List IPane×Nat)×Int×List (List ICell)×List IRow×Int×Int) (IGrid×(List IPane×Nat)×Int×List (List ICell)):=fun(v35,v36,v37,v38,v39,v40,v41)=>
 br (decide (v41<v40)) (
 gd (0≤v41∧v41<(↑v39.length:Int)) <|
 bd v39[v41.toNat]? fun x42=>
 gd (roomB .sl_iCell (v38++ [x42.Cells]).length) <|
 gd (inK .i64 (v41+1)) <|
 some (.inl (v35,v36,v37,v38++ [x42.Cells],v39,v40,v41+1))) <|
 some (.inr (v35,v36,v37,v38))
def pI_Scr_look (m:Nat) (a1:List (ty K.iPane)×Nat) (a2:Int):Option IGrid:=
 bd (α:=IGrid×(List IPane×Nat)×Int×Bool) (
 bd a1.fst[a1.snd]? fun x3=>
 br x3.Term.S.OnAlt (
 some (IGrid.mk 0 0 [],a1,a2,true)) <|
 some (IGrid.mk 0 0 [],a1,a2,decide (a2≤0))) fun(x4,x5,x6,x7)=>
 br x7 (
 bd (α:=IGrid) (
 bd x5.fst[x5.snd]? fun x8=>
 br x8.Term.S.OnAlt (
 bd x5.fst[x5.snd]? fun x9=>
 bd (pI_copyGrid m x9.Term.S.Alt) fun x10=>
 some x10) <|
 bd x5.fst[x5.snd]? fun x11=>
 bd (pI_copyGrid m x11.Term.S.Main) fun x12=>
 some x12) fun x13=>
 some x13) <|
 bd x5.fst[x5.snd]? fun x14=>
 bd (α:=IGrid×(List IPane×Nat)×Int×List (List ICell)) (
 loopF (pI_Scr_look_b1 m) m (x4,x5,x6,[],x14.Term.S.Back,(↑x14.Term.S.Back.length:Int),0)) fun(x16,x17,x18,x19)=>
 bd x17.fst[x17.snd]? fun x20=>
 bd (α:=IGrid×(List IPane×Nat)×Int×List (List ICell)) (
 loopF (pI_Scr_look_b2 m) m (x16,x17,x18,x19,x20.Term.S.H,0)) fun(x22,x23,x24,x25)=>
 bd x23.fst[x23.snd]? fun x26=>
 bd x23.fst[x23.snd]? fun x27=>
 gd (inK .i64 ((↑x26.Term.S.Back.length:Int)-if(↑x27.Term.S.Back.length:Int)<x24 then(↑x27.Term.S.Back.length:Int)else x24)) <|
 bd x23.fst[x23.snd]? fun x28=>
 bd x23.fst[x23.snd]? fun x29=>
 bd (pI_gridOf m x28.Term.S.W x29.Term.S.H) fun x30=>
 bd x23.fst[x23.snd]? fun x31=>
 bd (α:=IGrid×IGrid) (
 loopF (pI_Scr_look_b3 m) m (x22,x30,x25,(↑x26.Term.S.Back.length:Int)-if(↑x27.Term.S.Back.length:Int)<x24 then(↑x27.Term.S.Back.length:Int)else x24,x31.Term.S.H,0)) fun(x33,x34)=>
 some x34
def o1008100 (m:Nat):Orc:=⟨81,[none,none],[.eptr .iPane 10,.I .i64],0,(.one (.st .iGrid [(2,99)])),fun v=>pI_Scr_look m v.1 v.2⟩
theorem c1008100:CC o1008100:=mq (cs c79 (cs c32 cn)) T1008100 Tryz.f81
def T34:Tab:=⟨[],[(16,false,⟨[(3,.ptr 400 0),(4,.ptr 500 0),(6,.ptr 700 0),(7,.ptr 800 0),(11,.ptr 1200 0),(37,.ref 35000000)],[.sto 400 .iState [],.sto 500 .iWin [],.sto 700 .iGrid [(2,50000001)],.sto 800 .iGrid [(2,27000002)],.sto 1200 .iRect [],.sl 2 (.I .i64),.sl 8 (.own .iRect 35000000),.sl 13 (.I .i64),.sl 38 (.I .i64),.sl 39 (.I .i64)]⟩),(17,false,⟨[(3,.ptr 400 0),(4,.ptr 500 0),(6,.ptr 700 0),(7,.ptr 800 0),(37,.ref 35000000)],[.sto 400 .iState [],.sto 500 .iWin [],.sto 700 .iGrid [(2,50000001)],.sto 800 .iGrid [(2,70000002)],.sl 2 (.I .i64),.sl 8 (.own .iRect 35000000),.sl 38 (.I .i64),.sl 39 (.I .i64)]⟩)],[(6,false,⟨[(3,.ptr 400 0),(4,.ptr 500 0),(6,.ptr 700 0),(7,.ptr 800 0),(37,.ref 35000000)],[.sto 400 .iState [],.sto 500 .iWin [],.sto 700 .iGrid [(2,50000001)],.sto 800 .iGrid [(2,27000002)],.sl 2 (.I .i64),.sl 8 (.own .iRect 35000000),.sl 38 (.I .i64),.sl 39 (.I .i64)]⟩,0,⟨[(6,.ptr 700 0),(7,.ptr 800 0)],[.sto 700 .iGrid [(2,50000001)],.sto 800 .iGrid [(2,27000002)]]⟩)]⟩
def pI_State_window_b1 (m:Nat):Lp (IState×IWin×IGrid×IGrid×Int×List IRect×Int×Int) (IGrid×IGrid):=fun(v13,v14,v15,v16,v17,v18,v19,v20)=>
 br (decide (v20<v19)) (
 bd (α:=IState×IWin×IGrid×IGrid×Int×List IRect×Int×Int) (
 gd (0≤v20∧v20<(↑v18.length:Int)) <|
 bd (v18[0+v20.toNat]?) fun x21=>
 br (x21.Pane==0) (
 gd (inK .i64 (v20+1)) <|
 gd (0≤v20+1∧v20+1<(↑v18.length:Int)) <|
 bd (v18[0+(v20+1).toNat]?) fun x22=>
 gd (0≤v20∧v20<(↑v14.Tree.length:Int)) <|
 bd v14.Tree[v20.toNat]? fun x23=>
 br x23.Down (
 gd (inK .i64 (x22.Y+x22.H)) <|
 bd (pI_GridFill m v16 x21.X (x22.Y+x22.H) x21.W 1 (ICell.mk 45 (IAttr.mk 0 0 false false false))) fun x24=>
 some (v13,v14,v15,x24,v17,v18,v19,v20)) <|
 gd (inK .i64 (x22.X+x22.W)) <|
 bd (pI_GridFill m v16 (x22.X+x22.W) x21.Y 1 x21.H (ICell.mk 124 (IAttr.mk 0 0 false false false))) fun x25=>
 some (v13,v14,v15,x25,v17,v18,v19,v20)) <|
 bd (α:=IState×IWin×IGrid×IGrid×IRect×Int×List IRect×Int×Int×Int) (
 br (x21.Pane==v14.Active) (
 some (v13,v14,v15,v16,x21,v17,v18,v17,v19,v20)) <|
 some (v13,v14,v15,v16,x21,v17,v18,0,v19,v20)) fun(x26,x27,x28,x29,x30,x31,x32,x33,x34,x35)=>
 bd (pI_State_terminal m x26 x30.Pane) fun(x36,x37)=>
 bd (pI_Scr_look m (x36,x37) x33) fun x38=>
 bd (pI_Grid_paste m x29 x38 x30.X x30.Y) fun x39=>
 some (x26,x27,x28,x39,x31,x32,x34,x35)) fun(x40,x41,x42,x43,x44,x45,x46,x47)=>
 gd (inK .i64 (x47+1)) <|
 some (.inl (x40,x41,x42,x43,x44,x45,x46,x47+1))) <|
 some (.inr (v15,v16))
def pI_State_window (m:Nat) (a1:IState) (a2:IWin) (a3:Int):Option IGrid:=
 br a2.Zoom (
 bd (pI_State_terminal m a1 a2.Active) fun(x4,x5)=>
 bd (pI_Scr_look m (x4,x5) a3) fun x6=>
 some x6) <|
 bd (pI_gridOf m a1.W a1.H) fun x7=>
 bd (pI_areasOf m a2.Tree a1.W a1.H) fun(x8,x9)=>
 bd (α:=IGrid×IGrid) (
 loopF (pI_State_window_b1 m) m (a1,a2,IGrid.mk 0 0 [],x7,a3,x8,(↑x8.length:Int),0)) fun(x11,x12)=>
 some x12
def o34 (m:Nat):Orc:=⟨34,[none,none,none],[.st .iState [],.st .iWin [],.I .i64],0,(.one (.st .iGrid [(2,99)])),fun v=>pI_State_window m v.1 v.2.1 v.2.2⟩
theorem c34:CC o34:=mq (cs c39 (cs c1008100 (cs c32 (cs c82 (cs c83 (cs c33 cn)))))) T34 Tryz.f34
def pI_isNum (m:Nat) (a1:Int):Option Bool:=
 bd (pI_within m a1 0 4294967295) fun x2=>
 some x2
def o140 (m:Nat):Orc:=⟨140,[none],[.I .i64],0,(.one .B),fun v=>pI_isNum m v⟩
theorem c140:CC o140:=mq (cs c68 cn) tn Tryz.f140
def pI_NumText (m:Nat) (a1:Int):Option ByteArray:=
 bd (pI_isNum m a1) fun x2=>
 br (!x2) (
 some (ByteArray.mk #[])) <|
 bd (pG_strconv_Itoa a1) fun x3=>
 some x3
def o85 (m:Nat):Orc:=⟨85,[none],[.I .i64],0,(.one .S),fun v=>pI_NumText m v⟩
theorem c85:CC o85:=mq (cs c140 (cs c141 cn)) tn Tryz.f85
def T37:Tab:=⟨[],[(8,false,⟨[(2,.ptr 300 0),(3,.ptr 400 0)],[.sto 300 .iState [],.sto 400 .iSess [],.sl 5 .S,.sl 13 (.row .int),.sl 14 (.I .i64),.sl 15 (.I .i64)]⟩)],[(3,false,⟨[(2,.ptr 300 0),(3,.ptr 400 0)],[.sto 300 .iState [],.sto 400 .iSess [],.sl 5 .S,.sl 13 (.row .int),.sl 14 (.I .i64),.sl 15 (.I .i64)]⟩,0,⟨[],[.sl 5 .S]⟩)]⟩
def pI_State_status_b1 (m:Nat):Lp (IState×ISess×ByteArray×List Int×Int×Int) ByteArray:=fun(v5,v6,v7,v8,v9,v10)=>
 br (decide (v10<v9)) (
 bd (α:=IState×ISess×ByteArray×List Int×Int×Int) (
 gd (0≤v10∧v10<(↑v8.length:Int)) <|
 bd v8[v10.toNat]? fun x11=>
 bd (pI_NumText m x11) fun x12=>
 gd ((ByteArray.mk #[32]).size+x12.size≤9223372036854775807) <|
 gd ((ByteArray.mk #[32]++x12).size+(ByteArray.mk #[58]).size≤9223372036854775807) <|
 bd (pI_WinAt m v5 x11) fun x13=>
 gd (0≤x13∧x13<(↑v5.Wins.length:Int)) <|
 bd v5.Wins[x13.toNat]? fun x14=>
 gd ((ByteArray.mk #[32]++x12++ByteArray.mk #[58]).size+x14.Name.size≤9223372036854775807) <|
 gd (v7.size+(ByteArray.mk #[32]++x12++ByteArray.mk #[58]++x14.Name).size≤9223372036854775807) <|
 br (x11==v6.Active) (
 gd ((v7++(ByteArray.mk #[32]++x12++ByteArray.mk #[58]++x14.Name)).size+(ByteArray.mk #[42]).size≤9223372036854775807) <|
 some (v5,v6,v7++(ByteArray.mk #[32]++x12++ByteArray.mk #[58]++x14.Name)++ByteArray.mk #[42],v8,v9,v10)) <|
 some (v5,v6,v7++(ByteArray.mk #[32]++x12++ByteArray.mk #[58]++x14.Name),v8,v9,v10)) fun(x15,x16,x17,x18,x19,x20)=>
 gd (inK .i64 (x20+1)) <|
 some (.inl (x15,x16,x17,x18,x19,x20+1))) <|
 some (.inr v7)
def pI_State_status (m:Nat) (a1:IState) (a2:ISess):Option ByteArray:=
 gd ((ByteArray.mk #[91]).size+a2.Name.size≤9223372036854775807) <|
 gd ((ByteArray.mk #[91]++a2.Name).size+(ByteArray.mk #[93]).size≤9223372036854775807) <|
 bd (α:=ByteArray) (
 loopF (pI_State_status_b1 m) m (a1,a2,ByteArray.mk #[91]++a2.Name++ByteArray.mk #[93],a2.Wins,(↑a2.Wins.length:Int),0)) fun x4=>
 some x4
def o37 (m:Nat):Orc:=⟨37,[none,none],[.st .iState [],.st .iSess []],0,(.one .S),fun v=>pI_State_status m v.1 v.2⟩
theorem c37:CC o37:=mq (cs c85 (cs c31 cn)) T37 Tryz.f37
def T38:Tab:=⟨[],[(4,false,⟨[(7,.ptr 800 0)],[.sto 800 .iRect [],.sl 6 (.eptr .iPane 10)]⟩)],[]⟩
def pI_State_cursor (m:Nat) (a1:IState) (a2:IWin):Option (Int×Int):=
 bd (pI_State_terminal m a1 a2.Active) fun(x3,x4)=>
 bd (α:=IRect×List IPane×Nat) (
 br (!a2.Zoom) (
 bd (pI_PlaceOf m a2.Tree a1.W a1.H a2.Active) fun(x5,x6)=>
 some (x5,x3,x4)) <|
 some (IRect.mk 0 0 0 0 0,x3,x4)) fun(x7,x8,x9)=>
 bd x8[x9]? fun x10=>
 gd (inK .i64 (x7.X+x10.Term.S.X)) <|
 bd x8[x9]? fun x11=>
 gd (inK .i64 (x7.Y+x11.Term.S.Y)) <|
 some (x7.X+x10.Term.S.X,x7.Y+x11.Term.S.Y)
def o38 (m:Nat):Orc:=⟨38,[none,none],[.st .iState [],.st .iWin []],0,(.tup [.I .i64,.I .i64]),fun v=>pI_State_cursor m v.1 v.2⟩
theorem c38:CC o38:=mq (cs c39 (cs c86 cn)) T38 Tryz.f38
def T7:Tab:=⟨[(2,⟨[(5,.ptr 600 0),(10,.ptr 1100 0)],[.sto 600 .iState [],.sto 1100 .iView [(2,50000001)],.sl 2 (.I .i64),.sl 3 (.I .i64),.sl 4 (.I .i64),.sl 12 (.I .i64),.sl 35 .B]⟩),(17,⟨[(10,.ptr 1100 0),(19,.ptr 2000 0)],[.sto 1100 .iView [(2,50000001)],.sto 2000 .iView [(2,58000002)],.sl 122 .B]⟩)],[(14,false,⟨[(5,.ptr 600 0),(10,.ptr 1100 0),(14,.ptr 1500 0),(15,.ptr 1600 0)],[.sto 600 .iState [],.sto 1100 .iView [(2,50000001)],.sto 1500 .iWin [],.sto 1600 .iGrid [(2,58000002)],.sl 2 (.I .i64),.sl 3 (.I .i64),.sl 4 (.I .i64),.sl 16 (.view 58000002),.sl 72 (.own .u8 7300),.sl 73 (.I .i64),.sl 74 (.I .i64)]⟩),(19,false,⟨[(10,.ptr 1100 0),(19,.ptr 2000 0)],[.sto 1100 .iView [(2,50000001)],.sto 2000 .iView [(2,58000002)]]⟩)],[(10,false,⟨[(5,.ptr 600 0),(10,.ptr 1100 0),(14,.ptr 1500 0),(15,.ptr 1600 0)],[.sto 600 .iState [],.sto 1100 .iView [(2,50000001)],.sto 1500 .iWin [],.sto 1600 .iGrid [(2,58000002)],.sl 2 (.I .i64),.sl 3 (.I .i64),.sl 4 (.I .i64),.sl 16 (.view 58000002),.sl 72 (.own .u8 7300),.sl 73 (.I .i64),.sl 74 (.I .i64)]⟩,0,⟨[(5,.ptr 600 0),(10,.ptr 1100 0),(14,.ptr 1500 0),(15,.ptr 1600 0)],[.sto 600 .iState [],.sto 1100 .iView [(2,50000001)],.sto 1500 .iWin [],.sto 1600 .iGrid [(2,58000002)],.sl 2 (.I .i64),.sl 3 (.I .i64),.sl 4 (.I .i64)]⟩)]⟩
def pI_Picture_b1 (m:Nat):Lp (IState×IView×IWin×IGrid×Int×Int×Int×(Nat×Nat)×List UInt8×Int×Int) (IState×IView×IWin×IGrid×Int×Int×Int):=fun(v42,v43,v44,v45,v46,v47,v48,v49,v50,v51,v52)=>
 br (decide (v52<v51)) (
 bd (α:=IState×IView×IWin×IGrid×Int×Int×Int×(Nat×Nat)×List UInt8×Int×Int) (
 gd (0≤v52∧v52<(↑v50.length:Int)) <|
 bd (v50[0+v52.toNat]?) fun x53=>
 br (decide (v52<v46)) (
 gd (0≤v52∧v52<(↑v49.snd:Int)) <|
 bd (v45.Cells[v49.fst+v52.toNat]?) fun x54=>
 some (v42,v43,v44,IGrid.mk v45.W v45.H (v45.Cells.set (v49.fst+v52.toNat) (ICell.mk (↑x53.toNat:Int) x54.A)),v46,v47,v48,v49,v50,v51,v52)) <|
 some (v42,v43,v44,v45,v46,v47,v48,v49,v50,v51,v52)) fun(x55,x56,x57,x58,x59,x60,x61,x62,x63,x64,x65)=>
 gd (inK .i64 (x65+1)) <|
 some (.inl (x55,x56,x57,x58,x59,x60,x61,x62,x63,x64,x65+1))) <|
 some (.inr (v42,v43,v44,v45,v46,v47,v48))
def pI_Picture (m:Nat) (a1:IState) (a2:ByteArray) (a3:Int) (a4:Int) (a5:Int):Option (IView×Bool):=
 bd (pI_SessAt m a1 a2) fun x6=>
 bd (α:=IState×IView×Int×Int×Int×Int×Bool) (
 bd (pI_StateOk m a1) fun x7=>
 br (!x7) (
 some (a1,IView.mk (IGrid.mk 0 0 []) 0 0 false,a3,a4,a5,x6,true)) <|
 br (decide (x6<0)) (
 some (a1,IView.mk (IGrid.mk 0 0 []) 0 0 false,a3,a4,a5,x6,true)) <|
 bd (pI_isSize m a3 a4) fun x8=>
 some (a1,IView.mk (IGrid.mk 0 0 []) 0 0 false,a3,a4,a5,x6,!x8)) fun(x9,x10,x11,x12,x13,x14,x15)=>
 br x15 (
 some (IView.mk (IGrid.mk 0 0 []) 0 0 false,false)) <|
 gd (0≤x14∧x14<(↑x9.Sess.length:Int)) <|
 bd x9.Sess[x14.toNat]? fun x16=>
 bd (pI_WinAt m x9 x16.Active) fun x17=>
 gd (0≤x17∧x17<(↑x9.Wins.length:Int)) <|
 bd x9.Wins[x17.toNat]? fun x18=>
 bd (pI_gridOf m x11 x12) fun x19=>
 bd (pI_State_window m x9 x18 x13) fun x20=>
 bd (pI_Grid_paste m x19 x20 0 0) fun x21=>
 gd (inK .i64 (x12-1)) <|
 gd (inK .i64 ((x12-1)*x21.W)) <|
 gd (inK .i64 (x12-1+1)) <|
 gd (inK .i64 ((x12-1+1)*x21.W)) <|
 gd (0≤(x12-1+1)*x21.W∧(x12-1+1)*x21.W≤(↑x21.Cells.length:Int)) <|
 gd (0≤(x12-1)*x21.W∧(x12-1)*x21.W≤(↑((x12-1+1)*x21.W).toNat:Int)) <|
 bd (pG_slices_Repeat_ICell m [ICell.mk 32 (IAttr.mk 0 0 false false true)] x11) fun x22=>
 bd (pI_State_status m x9 x16) fun x23=>
 bd (α:=IState×IView×IWin×IGrid×Int×Int×Int) (
 loopF (pI_Picture_b1 m) m (x9,x10,x18,IGrid.mk x21.W x21.H (putL x21.Cells (0+((x12-1)*x21.W).toNat) (List.take (((x12-1+1)*x21.W).toNat-((x12-1)*x21.W).toNat) x22)),x11,x12,x13,(0+((x12-1)*x21.W).toNat,((x12-1+1)*x21.W).toNat-((x12-1)*x21.W).toNat),x23.data.toList,(↑x23.data.toList.length:Int),0)) fun(x25,x26,x27,x28,x29,x30,x31)=>
 bd (pI_State_cursor m x25 x27) fun(x32,x33)=>
 bd (α:=IView×IView) (
 bd (α:=IView×IView×Bool) (
 br (decide (0<x31)) (
 some (x26,IView.mk x28 x32 x33 false,true)) <|
 bd (pI_State_terminal m x25 x27.Active) fun(x34,x35)=>
 bd x34[x35]? fun x36=>
 br x36.Term.S.Hide (
 some (x26,IView.mk x28 x32 x33 false,true)) <|
 gd (inK .i64 (x30-1)) <|
 br (decide (x30-1≤x33)) (
 some (x26,IView.mk x28 x32 x33 false,true)) <|
 some (x26,IView.mk x28 x32 x33 false,decide (x29≤x32))) fun(x37,x38,x39)=>
 br x39 (
 some (x37,IView.mk x38.Grid 0 0 true)) <|
 some (x37,x38)) fun(x40,x41)=>
 some (x41,true)
def o7 (m:Nat):Orc:=⟨7,[none,none,none,none,none],[.st .iState [],.S,.I .i64,.I .i64,.I .i64],0,(.tup [.st .iView [(2,99)],.B]),fun v=>pI_Picture m v.1 v.2.1 v.2.2.1 v.2.2.2.1 v.2.2.2.2⟩
theorem c7:CC o7:=mq (cs c28 (cs c29 (cs c30 (cs c31 (cs c32 (cs c34 (cs c33 (cs c36 (cs c37 (cs c38 (cs c39 cn))))))))))) T7 Tryz.f7
def pL_eqAttr (m:Nat) (a1:IAttr) (a2:IAttr):Option Bool:=
 br (a1.Fg !=a2.Fg) (
 some false) <|
 br (a1.Bg !=a2.Bg) (
 some false) <|
 br (!a1.Bold==a2.Bold) (
 some false) <|
 br (!a1.Under==a2.Under) (
 some false) <|
 br (!a1.Turn==a2.Turn) (
 some false) <|
 some true
def o176 (m:Nat):Orc:=⟨176,[none,none],[.st .iAttr [],.st .iAttr []],0,(.one .B),fun v=>pL_eqAttr m v.1 v.2⟩
theorem c176:CC o176:=mq cn tn Tryz.f176
def pL_eqCell (m:Nat) (a1:ICell) (a2:ICell):Option Bool:=
 br (a1.R !=a2.R) (
 some false) <|
 bd (pL_eqAttr m a1.A a2.A) fun x3=>
 br (!x3) (
 some false) <|
 some true
def o145 (m:Nat):Orc:=⟨145,[none,none],[.st .iCell [],.st .iCell []],0,(.one .B),fun v=>pL_eqCell m v.1 v.2⟩
theorem c145:CC o145:=mq (cs c176 cn) tn Tryz.f145
def T88:Tab:=⟨[],[],[(4,true,⟨[],[.sl 0 (.row .iCell),.sl 1 (.row .iCell),.sl 5 (.I .i64)]⟩,0,⟨[],[]⟩)]⟩
def pL_eqCellS_b1 (m:Nat):Lp (List ICell×List ICell×Int) (Unit⊕Bool):=fun(v4,v5,v6)=>
 br (decide (v6<(↑v4.length:Int))) (
 gd (0≤v6∧v6<(↑v4.length:Int)) <|
 bd v4[v6.toNat]? fun x7=>
 gd (0≤v6∧v6<(↑v5.length:Int)) <|
 bd v5[v6.toNat]? fun x8=>
 bd (pL_eqCell m x7 x8) fun x9=>
 br (!x9) (
 some (.inr (.inr false))) <|
 gd (inK .i64 (v6+1)) <|
 some (.inl (v4,v5,v6+1))) <|
 some (.inr (.inl ()))
def pL_eqCellS (m:Nat) (a1:List ICell) (a2:List ICell):Option Bool:=
 br ((↑a1.length:Int) !=(↑a2.length:Int)) (
 some false) <|
 jn (V:=Unit) (
 loopF (pL_eqCellS_b1 m) m (a1,a2,0)) fun _=>
 some true
def o88 (m:Nat):Orc:=⟨88,[none,none],[.row .iCell,.row .iCell],0,(.one .B),fun v=>pL_eqCellS m v.1 v.2⟩
theorem c88:CC o88:=mq (cs c145 cn) T88 Tryz.f88
def pL_eqGrid (m:Nat) (a1:IGrid) (a2:IGrid):Option Bool:=
 br (a1.W !=a2.W) (
 some false) <|
 br (a1.H !=a2.H) (
 some false) <|
 bd (pL_eqCellS m a1.Cells a2.Cells) fun x3=>
 br (!x3) (
 some false) <|
 some true
def o40 (m:Nat):Orc:=⟨40,[none,none],[.st .iGrid [],.st .iGrid []],0,(.one .B),fun v=>pL_eqGrid m v.1 v.2⟩
theorem c40:CC o40:=mq (cs c88 cn) tn Tryz.f40
def pL_eqView (m:Nat) (a1:IView) (a2:IView):Option Bool:=
 bd (pL_eqGrid m a1.Grid a2.Grid) fun x3=>
 br (!x3) (
 some false) <|
 br (a1.X !=a2.X) (
 some false) <|
 br (a1.Y !=a2.Y) (
 some false) <|
 br (!a1.Hide==a2.Hide) (
 some false) <|
 some true
def o8 (m:Nat):Orc:=⟨8,[none,none],[.st .iView [],.st .iView []],0,(.one .B),fun v=>pL_eqView m v.1 v.2⟩
theorem c8:CC o8:=mq (cs c40 cn) tn Tryz.f8
def T148:Tab:=⟨[],[],[(4,true,⟨[],[.sl 0 (.row .int),.sl 1 (.row .int),.sl 5 (.I .i64)]⟩,0,⟨[],[]⟩)]⟩
def pL_eqIntS_b1 (m:Nat):Lp (List Int×List Int×Int) (Unit⊕Bool):=fun(v4,v5,v6)=>
 br (decide (v6<(↑v4.length:Int))) (
 gd (0≤v6∧v6<(↑v4.length:Int)) <|
 bd v4[v6.toNat]? fun x7=>
 gd (0≤v6∧v6<(↑v5.length:Int)) <|
 bd v5[v6.toNat]? fun x8=>
 br (x7 !=x8) (
 some (.inr (.inr false))) <|
 gd (inK .i64 (v6+1)) <|
 some (.inl (v4,v5,v6+1))) <|
 some (.inr (.inl ()))
def pL_eqIntS (m:Nat) (a1:List Int) (a2:List Int):Option Bool:=
 br ((↑a1.length:Int) !=(↑a2.length:Int)) (
 some false) <|
 jn (V:=Unit) (
 loopF (pL_eqIntS_b1 m) m (a1,a2,0)) fun _=>
 some true
def o148 (m:Nat):Orc:=⟨148,[none,none],[.row .int,.row .int],0,(.one .B),fun v=>pL_eqIntS m v.1 v.2⟩
theorem c148:CC o148:=mq cn T148 Tryz.f148
def T197:Tab:=⟨[],[],[(4,true,⟨[],[.sl 0 (.row .u8),.sl 1 (.row .u8),.sl 5 (.I .i64)]⟩,0,⟨[],[]⟩)]⟩
def pL_eqByteS_b1 (m:Nat):Lp (List UInt8×List UInt8×Int) (Unit⊕Bool):=fun(v4,v5,v6)=>
 br (decide (v6<(↑v4.length:Int))) (
 gd (0≤v6∧v6<(↑v4.length:Int)) <|
 bd v4[v6.toNat]? fun x7=>
 gd (0≤v6∧v6<(↑v5.length:Int)) <|
 bd v5[v6.toNat]? fun x8=>
 br ((↑x7.toNat:Int) !=(↑x8.toNat:Int)) (
 some (.inr (.inr false))) <|
 gd (inK .i64 (v6+1)) <|
 some (.inl (v4,v5,v6+1))) <|
 some (.inr (.inl ()))
def pL_eqByteS (m:Nat) (a1:List UInt8) (a2:List UInt8):Option Bool:=
 br ((↑a1.length:Int) !=(↑a2.length:Int)) (
 some false) <|
 jn (V:=Unit) (
 loopF (pL_eqByteS_b1 m) m (a1,a2,0)) fun _=>
 some true
def o197 (m:Nat):Orc:=⟨197,[none,none],[.row .u8,.row .u8],0,(.one .B),fun v=>pL_eqByteS m v.1 v.2⟩
theorem c197:CC o197:=mq cn T197 Tryz.f197
def pL_eqVp (m:Nat) (a1:IVp) (a2:IVp):Option Bool:=
 br (a1.State !=a2.State) (
 some false) <|
 br (!a1.Mark==a2.Mark) (
 some false) <|
 bd (pL_eqIntS m a1.Args a2.Args) fun x3=>
 br (!x3) (
 some false) <|
 bd (pL_eqByteS m a1.Part a2.Part) fun x4=>
 br (!x4) (
 some false) <|
 some true
def o177 (m:Nat):Orc:=⟨177,[none,none],[.st .iVp [],.st .iVp []],0,(.one .B),fun v=>pL_eqVp m v.1 v.2⟩
theorem c177:CC o177:=mq (cs c148 (cs c197 cn)) tn Tryz.f177
def pL_eqRow (m:Nat) (a1:IRow) (a2:IRow):Option Bool:=
 bd (pL_eqCellS m a1.Cells a2.Cells) fun x3=>
 br (!x3) (
 some false) <|
 some true
def o227 (m:Nat):Orc:=⟨227,[none,none],[.st .iRow [],.st .iRow []],0,(.one .B),fun v=>pL_eqRow m v.1 v.2⟩
theorem c227:CC o227:=mq (cs c88 cn) tn Tryz.f227
def T198:Tab:=⟨[],[],[(4,true,⟨[],[.sl 0 (.row .iRow),.sl 1 (.row .iRow),.sl 5 (.I .i64)]⟩,0,⟨[],[]⟩)]⟩
def pL_eqRowS_b1 (m:Nat):Lp (List IRow×List IRow×Int) (Unit⊕Bool):=fun(v4,v5,v6)=>
 br (decide (v6<(↑v4.length:Int))) (
 gd (0≤v6∧v6<(↑v4.length:Int)) <|
 bd v4[v6.toNat]? fun x7=>
 gd (0≤v6∧v6<(↑v5.length:Int)) <|
 bd v5[v6.toNat]? fun x8=>
 bd (pL_eqRow m x7 x8) fun x9=>
 br (!x9) (
 some (.inr (.inr false))) <|
 gd (inK .i64 (v6+1)) <|
 some (.inl (v4,v5,v6+1))) <|
 some (.inr (.inl ()))
def pL_eqRowS (m:Nat) (a1:List IRow) (a2:List IRow):Option Bool:=
 br ((↑a1.length:Int) !=(↑a2.length:Int)) (
 some false) <|
 jn (V:=Unit) (
 loopF (pL_eqRowS_b1 m) m (a1,a2,0)) fun _=>
 some true
def o198 (m:Nat):Orc:=⟨198,[none,none],[.row .iRow,.row .iRow],0,(.one .B),fun v=>pL_eqRowS m v.1 v.2⟩
theorem c198:CC o198:=mq (cs c227 cn) T198 Tryz.f198
def pL_eqScr (m:Nat) (a1:IScr) (a2:IScr):Option Bool:=
 br (a1.W !=a2.W) (
 some false) <|
 br (a1.H !=a2.H) (
 some false) <|
 bd (pL_eqGrid m a1.Main a2.Main) fun x3=>
 br (!x3) (
 some false) <|
 bd (pL_eqGrid m a1.Alt a2.Alt) fun x4=>
 br (!x4) (
 some false) <|
 br (!a1.OnAlt==a2.OnAlt) (
 some false) <|
 br (a1.X !=a2.X) (
 some false) <|
 br (a1.Y !=a2.Y) (
 some false) <|
 br (!a1.Wrap==a2.Wrap) (
 some false) <|
 bd (pL_eqAttr m a1.A a2.A) fun x5=>
 br (!x5) (
 some false) <|
 br (a1.Top !=a2.Top) (
 some false) <|
 br (a1.Bot !=a2.Bot) (
 some false) <|
 br (!a1.NoWrap==a2.NoWrap) (
 some false) <|
 br (!a1.Hide==a2.Hide) (
 some false) <|
 br (a1.SaveX !=a2.SaveX) (
 some false) <|
 br (a1.SaveY !=a2.SaveY) (
 some false) <|
 bd (pL_eqAttr m a1.SaveA a2.SaveA) fun x6=>
 br (!x6) (
 some false) <|
 bd (pL_eqIntS m a1.Tabs a2.Tabs) fun x7=>
 br (!x7) (
 some false) <|
 br (a1.Limit !=a2.Limit) (
 some false) <|
 bd (pL_eqRowS m a1.Back a2.Back) fun x8=>
 br (!x8) (
 some false) <|
 some true
def o178 (m:Nat):Orc:=⟨178,[none,none],[.st .iScr [],.st .iScr []],0,(.one .B),fun v=>pL_eqScr m v.1 v.2⟩
theorem c178:CC o178:=mq (cs c40 (cs c176 (cs c148 (cs c198 cn)))) tn Tryz.f178
def pL_eqTerm (m:Nat) (a1:ITerm) (a2:ITerm):Option Bool:=
 bd (pL_eqVp m a1.P a2.P) fun x3=>
 br (!x3) (
 some false) <|
 bd (pL_eqScr m a1.S a2.S) fun x4=>
 br (!x4) (
 some false) <|
 some true
def o146 (m:Nat):Orc:=⟨146,[none,none],[.st .iTerm [],.st .iTerm []],0,(.one .B),fun v=>pL_eqTerm m v.1 v.2⟩
theorem c146:CC o146:=mq (cs c177 (cs c178 cn)) tn Tryz.f146
def pL_eqPane (m:Nat) (a1:IPane) (a2:IPane):Option Bool:=
 br (a1.Id !=a2.Id) (
 some false) <|
 br (!decide (a1.Cmd=a2.Cmd)) (
 some false) <|
 br (!decide (a1.Dir=a2.Dir)) (
 some false) <|
 br (a1.Life !=a2.Life) (
 some false) <|
 br (a1.Code !=a2.Code) (
 some false) <|
 br (a1.Pid !=a2.Pid) (
 some false) <|
 bd (pL_eqTerm m a1.Term a2.Term) fun x3=>
 br (!x3) (
 some false) <|
 some true
def o89 (m:Nat):Orc:=⟨89,[none,none],[.st .iPane [],.st .iPane []],0,(.one .B),fun v=>pL_eqPane m v.1 v.2⟩
theorem c89:CC o89:=mq (cs c146 cn) tn Tryz.f89
def T41:Tab:=⟨[],[],[(4,true,⟨[],[.sl 0 (.row .iPane),.sl 1 (.row .iPane),.sl 5 (.I .i64)]⟩,0,⟨[],[]⟩)]⟩
def pL_eqPaneS_b1 (m:Nat):Lp (List IPane×List IPane×Int) (Unit⊕Bool):=fun(v4,v5,v6)=>
 br (decide (v6<(↑v4.length:Int))) (
 gd (0≤v6∧v6<(↑v4.length:Int)) <|
 bd v4[v6.toNat]? fun x7=>
 gd (0≤v6∧v6<(↑v5.length:Int)) <|
 bd v5[v6.toNat]? fun x8=>
 bd (pL_eqPane m x7 x8) fun x9=>
 br (!x9) (
 some (.inr (.inr false))) <|
 gd (inK .i64 (v6+1)) <|
 some (.inl (v4,v5,v6+1))) <|
 some (.inr (.inl ()))
def pL_eqPaneS (m:Nat) (a1:List IPane) (a2:List IPane):Option Bool:=
 br ((↑a1.length:Int) !=(↑a2.length:Int)) (
 some false) <|
 jn (V:=Unit) (
 loopF (pL_eqPaneS_b1 m) m (a1,a2,0)) fun _=>
 some true
def o41 (m:Nat):Orc:=⟨41,[none,none],[.row .iPane,.row .iPane],0,(.one .B),fun v=>pL_eqPaneS m v.1 v.2⟩
theorem c41:CC o41:=mq (cs c89 cn) T41 Tryz.f41
def pL_eqNode (m:Nat) (a1:INode) (a2:INode):Option Bool:=
 br (a1.Pane !=a2.Pane) (
 some false) <|
 br (!a1.Down==a2.Down) (
 some false) <|
 br (a1.First !=a2.First) (
 some false) <|
 some true
def o179 (m:Nat):Orc:=⟨179,[none,none],[.st .iNode [],.st .iNode []],0,(.one .B),fun v=>pL_eqNode m v.1 v.2⟩
theorem c179:CC o179:=mq cn tn Tryz.f179
def T147:Tab:=⟨[],[],[(4,true,⟨[],[.sl 0 (.row .iNode),.sl 1 (.row .iNode),.sl 5 (.I .i64)]⟩,0,⟨[],[]⟩)]⟩
def pL_eqNodeS_b1 (m:Nat):Lp (List INode×List INode×Int) (Unit⊕Bool):=fun(v4,v5,v6)=>
 br (decide (v6<(↑v4.length:Int))) (
 gd (0≤v6∧v6<(↑v4.length:Int)) <|
 bd v4[v6.toNat]? fun x7=>
 gd (0≤v6∧v6<(↑v5.length:Int)) <|
 bd v5[v6.toNat]? fun x8=>
 bd (pL_eqNode m x7 x8) fun x9=>
 br (!x9) (
 some (.inr (.inr false))) <|
 gd (inK .i64 (v6+1)) <|
 some (.inl (v4,v5,v6+1))) <|
 some (.inr (.inl ()))
def pL_eqNodeS (m:Nat) (a1:List INode) (a2:List INode):Option Bool:=
 br ((↑a1.length:Int) !=(↑a2.length:Int)) (
 some false) <|
 jn (V:=Unit) (
 loopF (pL_eqNodeS_b1 m) m (a1,a2,0)) fun _=>
 some true
def o147 (m:Nat):Orc:=⟨147,[none,none],[.row .iNode,.row .iNode],0,(.one .B),fun v=>pL_eqNodeS m v.1 v.2⟩
theorem c147:CC o147:=mq (cs c179 cn) T147 Tryz.f147
def pL_eqWin (m:Nat) (a1:IWin) (a2:IWin):Option Bool:=
 br (a1.Id !=a2.Id) (
 some false) <|
 br (!decide (a1.Name=a2.Name)) (
 some false) <|
 bd (pL_eqNodeS m a1.Tree a2.Tree) fun x3=>
 br (!x3) (
 some false) <|
 br (a1.Active !=a2.Active) (
 some false) <|
 br (!a1.Zoom==a2.Zoom) (
 some false) <|
 some true
def o90 (m:Nat):Orc:=⟨90,[none,none],[.st .iWin [],.st .iWin []],0,(.one .B),fun v=>pL_eqWin m v.1 v.2⟩
theorem c90:CC o90:=mq (cs c147 cn) tn Tryz.f90
def T42:Tab:=⟨[],[],[(4,true,⟨[],[.sl 0 (.row .iWin),.sl 1 (.row .iWin),.sl 5 (.I .i64)]⟩,0,⟨[],[]⟩)]⟩
def pL_eqWinS_b1 (m:Nat):Lp (List IWin×List IWin×Int) (Unit⊕Bool):=fun(v4,v5,v6)=>
 br (decide (v6<(↑v4.length:Int))) (
 gd (0≤v6∧v6<(↑v4.length:Int)) <|
 bd v4[v6.toNat]? fun x7=>
 gd (0≤v6∧v6<(↑v5.length:Int)) <|
 bd v5[v6.toNat]? fun x8=>
 bd (pL_eqWin m x7 x8) fun x9=>
 br (!x9) (
 some (.inr (.inr false))) <|
 gd (inK .i64 (v6+1)) <|
 some (.inl (v4,v5,v6+1))) <|
 some (.inr (.inl ()))
def pL_eqWinS (m:Nat) (a1:List IWin) (a2:List IWin):Option Bool:=
 br ((↑a1.length:Int) !=(↑a2.length:Int)) (
 some false) <|
 jn (V:=Unit) (
 loopF (pL_eqWinS_b1 m) m (a1,a2,0)) fun _=>
 some true
def o42 (m:Nat):Orc:=⟨42,[none,none],[.row .iWin,.row .iWin],0,(.one .B),fun v=>pL_eqWinS m v.1 v.2⟩
theorem c42:CC o42:=mq (cs c90 cn) T42 Tryz.f42
def pL_eqSess (m:Nat) (a1:ISess) (a2:ISess):Option Bool:=
 br (!decide (a1.Name=a2.Name)) (
 some false) <|
 bd (pL_eqIntS m a1.Wins a2.Wins) fun x3=>
 br (!x3) (
 some false) <|
 br (a1.Active !=a2.Active) (
 some false) <|
 some true
def o91 (m:Nat):Orc:=⟨91,[none,none],[.st .iSess [],.st .iSess []],0,(.one .B),fun v=>pL_eqSess m v.1 v.2⟩
theorem c91:CC o91:=mq (cs c148 cn) tn Tryz.f91
def T43:Tab:=⟨[],[],[(4,true,⟨[],[.sl 0 (.row .iSess),.sl 1 (.row .iSess),.sl 5 (.I .i64)]⟩,0,⟨[],[]⟩)]⟩
def pL_eqSessS_b1 (m:Nat):Lp (List ISess×List ISess×Int) (Unit⊕Bool):=fun(v4,v5,v6)=>
 br (decide (v6<(↑v4.length:Int))) (
 gd (0≤v6∧v6<(↑v4.length:Int)) <|
 bd v4[v6.toNat]? fun x7=>
 gd (0≤v6∧v6<(↑v5.length:Int)) <|
 bd v5[v6.toNat]? fun x8=>
 bd (pL_eqSess m x7 x8) fun x9=>
 br (!x9) (
 some (.inr (.inr false))) <|
 gd (inK .i64 (v6+1)) <|
 some (.inl (v4,v5,v6+1))) <|
 some (.inr (.inl ()))
def pL_eqSessS (m:Nat) (a1:List ISess) (a2:List ISess):Option Bool:=
 br ((↑a1.length:Int) !=(↑a2.length:Int)) (
 some false) <|
 jn (V:=Unit) (
 loopF (pL_eqSessS_b1 m) m (a1,a2,0)) fun _=>
 some true
def o43 (m:Nat):Orc:=⟨43,[none,none],[.row .iSess,.row .iSess],0,(.one .B),fun v=>pL_eqSessS m v.1 v.2⟩
theorem c43:CC o43:=mq (cs c91 cn) T43 Tryz.f43
def pL_eqState (m:Nat) (a1:IState) (a2:IState):Option Bool:=
 br (a1.W !=a2.W) (
 some false) <|
 br (a1.H !=a2.H) (
 some false) <|
 br (a1.Limit !=a2.Limit) (
 some false) <|
 br (a1.Next !=a2.Next) (
 some false) <|
 bd (pL_eqPaneS m a1.Panes a2.Panes) fun x3=>
 br (!x3) (
 some false) <|
 bd (pL_eqWinS m a1.Wins a2.Wins) fun x4=>
 br (!x4) (
 some false) <|
 bd (pL_eqSessS m a1.Sess a2.Sess) fun x5=>
 br (!x5) (
 some false) <|
 some true
def o9 (m:Nat):Orc:=⟨9,[none,none],[.st .iState [],.st .iState []],0,(.one .B),fun v=>pL_eqState m v.1 v.2⟩
theorem c9:CC o9:=mq (cs c41 (cs c42 (cs c43 cn))) tn Tryz.f9
def T92:Tab:=⟨[],[],[(4,false,⟨[],[.sl 0 (.I .i64),.sl 3 .S]⟩,0,⟨[],[.sl 3 .S]⟩)]⟩
def pL_markText_b1 (m:Nat):Lp (Int×ByteArray) ByteArray:=fun(v4,v5)=>
 br (decide (0<v4)) (
 gd ((10:Int)≠(0:Int)) <|
 gd (inK .i64 (48+v4.tmod 10)) <|
 gd ((ByteArray.mk #[UInt8.ofNat (IntKind.u8.wrap (48+v4.tmod 10)).toNat]).size+v5.size≤9223372036854775807) <|
 gd ((10:Int)≠(0:Int)) <|
 gd (inK .i64 (v4.tdiv 10)) <|
 some (.inl (v4.tdiv 10,ByteArray.mk #[UInt8.ofNat (IntKind.u8.wrap (48+v4.tmod 10)).toNat]++v5))) <|
 some (.inr v5)
def pL_markText (m:Nat) (a1:Int):Option ByteArray:=
 br (decide (a1≤0)) (
 some (ByteArray.mk #[109,48])) <|
 bd (α:=ByteArray) (
 loopF (pL_markText_b1 m) m (a1,ByteArray.mk #[])) fun x3=>
 gd ((ByteArray.mk #[109]).size+x3.size≤9223372036854775807) <|
 some (ByteArray.mk #[109]++x3)
def o92 (m:Nat):Orc:=⟨92,[none],[.I .i64],0,(.one .S),fun v=>pL_markText m v⟩
theorem c92:CC o92:=mq cn T92 Tryz.f92
def T93:Tab:=⟨[],[],[(2,false,⟨[],[.sl 0 (.own .int 50),.sl 1 (.I .i64),.sl 5 (.I .i64)]⟩,0,⟨[],[.sl 1 (.I .i64),.rw 50 .int]⟩)]⟩
def pL_markIntS_b1 (m:Nat):Lp (List Int×Int×Int) (Int×List Int):=fun(v6,v7,v8)=>
 br (decide (v8<(↑v6.length:Int))) (
 gd (0≤v8∧v8<(↑v6.length:Int)) <|
 bd (v6[0+v8.toNat]?) fun x9=>
 gd (inK .i64 (v8+1)) <|
 some (.inl (v6.set (0+v8.toNat) v7,IntKind.i64.wrap (v7+1),v8+1))) <|
 some (.inr (v7,v6))
def pL_markIntS (m:Nat) (a1:List Int) (a2:Int):Option (Int×List Int):=
 bd (α:=Int×List Int) (
 loopF (pL_markIntS_b1 m) m (a1,a2,0)) fun(x4,x5)=>
 some (x4,x5)
def o93 (m:Nat):Orc:=⟨93,[none,none],[.own .int 99,.I .i64],101,(.tup [.I .i64,.own .int 99]),fun v=>pL_markIntS m v.1 v.2⟩
theorem c93:CC o93:=mq cn T93 Tryz.f93
def T94:Tab:=⟨[],[],[(2,false,⟨[],[.sl 0 (.own .u8 50),.sl 1 (.I .i64),.sl 5 (.I .i64)]⟩,0,⟨[],[.sl 1 (.I .i64),.rw 50 .u8]⟩)]⟩
def pL_markByteS_b1 (m:Nat):Lp (List UInt8×Int×Int) (Int×List UInt8):=fun(v6,v7,v8)=>
 br (decide (v8<(↑v6.length:Int))) (
 gd (0≤v8∧v8<(↑v6.length:Int)) <|
 bd (v6[0+v8.toNat]?) fun x9=>
 gd (inK .i64 (v7+1)) <|
 gd (inK .i64 (v8+1)) <|
 some (.inl (v6.set (0+v8.toNat) (UInt8.ofNat (IntKind.u8.wrap v7).toNat),v7+1,v8+1))) <|
 some (.inr (v7,v6))
def pL_markByteS (m:Nat) (a1:List UInt8) (a2:Int):Option (Int×List UInt8):=
 bd (α:=Int×List UInt8) (
 loopF (pL_markByteS_b1 m) m (a1,a2,0)) fun(x4,x5)=>
 some (x4,x5)
def o94 (m:Nat):Orc:=⟨94,[none,none],[.own .u8 99,.I .i64],101,(.tup [.I .i64,.own .u8 99]),fun v=>pL_markByteS m v.1 v.2⟩
theorem c94:CC o94:=mq cn T94 Tryz.f94
def T95:Tab:=⟨[],[],[(2,false,⟨[],[.sl 0 (.own .iCell 50),.sl 1 (.I .i64),.sl 5 (.I .i64)]⟩,0,⟨[],[.sl 1 (.I .i64),.rw 50 .iCell]⟩)]⟩
def pL_markCellS_b1 (m:Nat):Lp (List ICell×Int×Int) (Int×List ICell):=fun(v6,v7,v8)=>
 br (decide (v8<(↑v6.length:Int))) (
 gd (0≤v8∧v8<(↑v6.length:Int)) <|
 bd (v6[0+v8.toNat]?) fun x9=>
 gd (inK .i64 (v7+1)) <|
 gd (0≤v8∧v8<(↑v6.length:Int)) <|
 bd ((v6.set (0+v8.toNat) (ICell.mk v7 x9.A))[0+v8.toNat]?) fun x10=>
 gd (inK .i64 (v7+1+1)) <|
 gd (0≤v8∧v8<(↑v6.length:Int)) <|
 bd (((v6.set (0+v8.toNat) (ICell.mk v7 x9.A)).set (0+v8.toNat) (ICell.mk x10.R (IAttr.mk (v7+1) x10.A.Bg x10.A.Bold x10.A.Under x10.A.Turn)))[0+v8.toNat]?) fun x11=>
 gd (inK .i64 (v7+1+1+1)) <|
 gd ((3:Int)≠(0:Int)) <|
 gd (0≤v8∧v8<(↑v6.length:Int)) <|
 bd ((((v6.set (0+v8.toNat) (ICell.mk v7 x9.A)).set (0+v8.toNat) (ICell.mk x10.R (IAttr.mk (v7+1) x10.A.Bg x10.A.Bold x10.A.Under x10.A.Turn))).set (0+v8.toNat) (ICell.mk x11.R (IAttr.mk x11.A.Fg (v7+1+1) x11.A.Bold x11.A.Under x11.A.Turn)))[0+v8.toNat]?) fun x12=>
 gd (inK .i64 (v7+1+1+1+1)) <|
 gd ((3:Int)≠(0:Int)) <|
 gd (0≤v8∧v8<(↑v6.length:Int)) <|
 bd (((((v6.set (0+v8.toNat) (ICell.mk v7 x9.A)).set (0+v8.toNat) (ICell.mk x10.R (IAttr.mk (v7+1) x10.A.Bg x10.A.Bold x10.A.Under x10.A.Turn))).set (0+v8.toNat) (ICell.mk x11.R (IAttr.mk x11.A.Fg (v7+1+1) x11.A.Bold x11.A.Under x11.A.Turn))).set (0+v8.toNat) (ICell.mk x12.R (IAttr.mk x12.A.Fg x12.A.Bg ((v7+1+1+1).tmod 3==0) x12.A.Under x12.A.Turn)))[0+v8.toNat]?) fun x13=>
 gd (inK .i64 (v7+1+1+1+1+1)) <|
 gd ((3:Int)≠(0:Int)) <|
 gd (0≤v8∧v8<(↑v6.length:Int)) <|
 bd ((((((v6.set (0+v8.toNat) (ICell.mk v7 x9.A)).set (0+v8.toNat) (ICell.mk x10.R (IAttr.mk (v7+1) x10.A.Bg x10.A.Bold x10.A.Under x10.A.Turn))).set (0+v8.toNat) (ICell.mk x11.R (IAttr.mk x11.A.Fg (v7+1+1) x11.A.Bold x11.A.Under x11.A.Turn))).set (0+v8.toNat) (ICell.mk x12.R (IAttr.mk x12.A.Fg x12.A.Bg ((v7+1+1+1).tmod 3==0) x12.A.Under x12.A.Turn))).set (0+v8.toNat) (ICell.mk x13.R (IAttr.mk x13.A.Fg x13.A.Bg x13.A.Bold ((v7+1+1+1+1).tmod 3==0) x13.A.Turn)))[0+v8.toNat]?) fun x14=>
 gd (inK .i64 (v7+1+1+1+1+1+1)) <|
 gd (inK .i64 (v8+1)) <|
 some (.inl ((((((v6.set (0+v8.toNat) (ICell.mk v7 x9.A)).set (0+v8.toNat) (ICell.mk x10.R (IAttr.mk (v7+1) x10.A.Bg x10.A.Bold x10.A.Under x10.A.Turn))).set (0+v8.toNat) (ICell.mk x11.R (IAttr.mk x11.A.Fg (v7+1+1) x11.A.Bold x11.A.Under x11.A.Turn))).set (0+v8.toNat) (ICell.mk x12.R (IAttr.mk x12.A.Fg x12.A.Bg ((v7+1+1+1).tmod 3==0) x12.A.Under x12.A.Turn))).set (0+v8.toNat) (ICell.mk x13.R (IAttr.mk x13.A.Fg x13.A.Bg x13.A.Bold ((v7+1+1+1+1).tmod 3==0) x13.A.Turn))).set (0+v8.toNat) (ICell.mk x14.R (IAttr.mk x14.A.Fg x14.A.Bg x14.A.Bold x14.A.Under ((v7+1+1+1+1+1).tmod 3==0))),v7+1+1+1+1+1+1,v8+1))) <|
 some (.inr (v7,v6))
def pL_markCellS (m:Nat) (a1:List ICell) (a2:Int):Option (Int×List ICell):=
 bd (α:=Int×List ICell) (
 loopF (pL_markCellS_b1 m) m (a1,a2,0)) fun(x4,x5)=>
 some (x4,x5)
def o95 (m:Nat):Orc:=⟨95,[none,none],[.own .iCell 99,.I .i64],101,(.tup [.I .i64,.own .iCell 99]),fun v=>pL_markCellS m v.1 v.2⟩
theorem c95:CC o95:=mq cn T95 Tryz.f95
def T96:Tab:=⟨[],[],[(2,false,⟨[],[.sl 0 (.own .iRow 50),.sl 1 (.I .i64),.sl 5 (.I .i64)]⟩,0,⟨[],[.sl 1 (.I .i64),.rw 50 .iRow]⟩)]⟩
def pL_markRowS_b1 (m:Nat):Lp (List IRow×Int×Int) (Int×List IRow):=fun(v6,v7,v8)=>
 br (decide (v8<(↑v6.length:Int))) (
 gd (0≤v8∧v8<(↑v6.length:Int)) <|
 bd (v6[0+v8.toNat]?) fun x9=>
 bd (v6[0+v8.toNat]?) fun x10=>
 bd (pL_markCellS m x10.Cells v7) fun(x11,x12)=>
 gd (inK .i64 (v8+1)) <|
 some (.inl (v6.set (0+v8.toNat) (IRow.mk x12),x11,v8+1))) <|
 some (.inr (v7,v6))
def pL_markRowS (m:Nat) (a1:List IRow) (a2:Int):Option (Int×List IRow):=
 bd (α:=Int×List IRow) (
 loopF (pL_markRowS_b1 m) m (a1,a2,0)) fun(x4,x5)=>
 some (x4,x5)
def o96 (m:Nat):Orc:=⟨96,[none,none],[.own .iRow 1000000000,.I .i64],101,(.tup [.I .i64,.own .iRow 1000000000]),fun v=>pL_markRowS m v.1 v.2⟩
theorem c96:CC o96:=mq (cs c95 cn) T96 Tryz.f96
def T44:Tab:=⟨[],[],[(2,false,⟨[],[.sl 0 (.own .iPane 50),.sl 1 (.I .i64),.sl 5 (.I .i64)]⟩,0,⟨[],[.sl 1 (.I .i64),.rw 50 .iPane]⟩)]⟩
def pL_markPaneS_b1 (m:Nat):Lp (List IPane×Int×Int) (Int×List IPane):=fun(v6,v7,v8)=>
 br (decide (v8<(↑v6.length:Int))) (
 gd (0≤v8∧v8<(↑v6.length:Int)) <|
 bd (v6[0+v8.toNat]?) fun x9=>
 gd (inK .i64 (v7+1)) <|
 bd (pL_markText m (v7+1)) fun x10=>
 gd (0≤v8∧v8<(↑v6.length:Int)) <|
 gd (0+v8.toNat=0+v8.toNat) <|
 gd (inK .i64 (v7+1+1)) <|
 bd (pL_markText m (v7+1+1)) fun x11=>
 gd (0≤v8∧v8<(↑v6.length:Int)) <|
 gd (0+v8.toNat=0+v8.toNat) <|
 gd (inK .i64 (v7+1+1+1)) <|
 gd (0≤v8∧v8<(↑v6.length:Int)) <|
 gd (0+v8.toNat=0+v8.toNat) <|
 gd (inK .i64 (v7+1+1+1+1)) <|
 gd (0≤v8∧v8<(↑v6.length:Int)) <|
 gd (0+v8.toNat=0+v8.toNat) <|
 gd (inK .i64 (v7+1+1+1+1+1)) <|
 gd (0≤v8∧v8<(↑v6.length:Int)) <|
 gd (0+v8.toNat=0+v8.toNat) <|
 gd (inK .i64 (v7+1+1+1+1+1+1)) <|
 gd (0≤v8∧v8<(↑v6.length:Int)) <|
 gd (0+v8.toNat=0+v8.toNat) <|
 gd (inK .i64 (v7+1+1+1+1+1+1+1)) <|
 gd ((3:Int)≠(0:Int)) <|
 gd (0≤v8∧v8<(↑v6.length:Int)) <|
 gd (0+v8.toNat=0+v8.toNat) <|
 gd (inK .i64 (v7+1+1+1+1+1+1+1+1)) <|
 gd (0≤v8∧v8<(↑v6.length:Int)) <|
 gd (0+v8.toNat=0+v8.toNat) <|
 bd (pL_markIntS m x9.Term.P.Args (v7+1+1+1+1+1+1+1+1)) fun(x12,x13)=>
 gd (0≤v8∧v8<(↑v6.length:Int)) <|
 gd (0+v8.toNat=0+v8.toNat) <|
 bd (pL_markByteS m x9.Term.P.Part x12) fun(x14,x15)=>
 gd (0≤v8∧v8<(↑v6.length:Int)) <|
 gd (0+v8.toNat=0+v8.toNat) <|
 gd (inK .i64 (x14+1)) <|
 gd (0≤v8∧v8<(↑v6.length:Int)) <|
 gd (0+v8.toNat=0+v8.toNat) <|
 gd (inK .i64 (x14+1+1)) <|
 gd (0≤v8∧v8<(↑v6.length:Int)) <|
 gd (0+v8.toNat=0+v8.toNat) <|
 gd (inK .i64 (x14+1+1+1)) <|
 gd (0≤v8∧v8<(↑v6.length:Int)) <|
 gd (0+v8.toNat=0+v8.toNat) <|
 gd (inK .i64 (x14+1+1+1+1)) <|
 gd (0≤v8∧v8<(↑v6.length:Int)) <|
 gd (0+v8.toNat=0+v8.toNat) <|
 bd (pL_markCellS m x9.Term.S.Main.Cells (x14+1+1+1+1)) fun(x16,x17)=>
 gd (0≤v8∧v8<(↑v6.length:Int)) <|
 gd (0+v8.toNat=0+v8.toNat) <|
 gd (inK .i64 (x16+1)) <|
 gd (0≤v8∧v8<(↑v6.length:Int)) <|
 gd (0+v8.toNat=0+v8.toNat) <|
 gd (inK .i64 (x16+1+1)) <|
 gd (0≤v8∧v8<(↑v6.length:Int)) <|
 gd (0+v8.toNat=0+v8.toNat) <|
 bd (pL_markCellS m x9.Term.S.Alt.Cells (x16+1+1)) fun(x18,x19)=>
 gd ((3:Int)≠(0:Int)) <|
 gd (0≤v8∧v8<(↑v6.length:Int)) <|
 gd (0+v8.toNat=0+v8.toNat) <|
 gd (inK .i64 (x18+1)) <|
 gd (0≤v8∧v8<(↑v6.length:Int)) <|
 gd (0+v8.toNat=0+v8.toNat) <|
 gd (inK .i64 (x18+1+1)) <|
 gd (0≤v8∧v8<(↑v6.length:Int)) <|
 gd (0+v8.toNat=0+v8.toNat) <|
 gd (inK .i64 (x18+1+1+1)) <|
 gd ((3:Int)≠(0:Int)) <|
 gd (0≤v8∧v8<(↑v6.length:Int)) <|
 gd (0+v8.toNat=0+v8.toNat) <|
 gd (inK .i64 (x18+1+1+1+1)) <|
 gd (0≤v8∧v8<(↑v6.length:Int)) <|
 gd (0+v8.toNat=0+v8.toNat) <|
 gd (inK .i64 (x18+1+1+1+1+1)) <|
 gd (0≤v8∧v8<(↑v6.length:Int)) <|
 gd (0+v8.toNat=0+v8.toNat) <|
 gd (inK .i64 (x18+1+1+1+1+1+1)) <|
 gd ((3:Int)≠(0:Int)) <|
 gd (0≤v8∧v8<(↑v6.length:Int)) <|
 gd (0+v8.toNat=0+v8.toNat) <|
 gd (inK .i64 (x18+1+1+1+1+1+1+1)) <|
 gd ((3:Int)≠(0:Int)) <|
 gd (0≤v8∧v8<(↑v6.length:Int)) <|
 gd (0+v8.toNat=0+v8.toNat) <|
 gd (inK .i64 (x18+1+1+1+1+1+1+1+1)) <|
 gd ((3:Int)≠(0:Int)) <|
 gd (0≤v8∧v8<(↑v6.length:Int)) <|
 gd (0+v8.toNat=0+v8.toNat) <|
 gd (inK .i64 (x18+1+1+1+1+1+1+1+1+1)) <|
 gd (0≤v8∧v8<(↑v6.length:Int)) <|
 gd (0+v8.toNat=0+v8.toNat) <|
 gd (inK .i64 (x18+1+1+1+1+1+1+1+1+1+1)) <|
 gd (0≤v8∧v8<(↑v6.length:Int)) <|
 gd (0+v8.toNat=0+v8.toNat) <|
 gd (inK .i64 (x18+1+1+1+1+1+1+1+1+1+1+1)) <|
 gd ((3:Int)≠(0:Int)) <|
 gd (0≤v8∧v8<(↑v6.length:Int)) <|
 gd (0+v8.toNat=0+v8.toNat) <|
 gd (inK .i64 (x18+1+1+1+1+1+1+1+1+1+1+1+1)) <|
 gd ((3:Int)≠(0:Int)) <|
 gd (0≤v8∧v8<(↑v6.length:Int)) <|
 gd (0+v8.toNat=0+v8.toNat) <|
 gd (inK .i64 (x18+1+1+1+1+1+1+1+1+1+1+1+1+1)) <|
 gd (0≤v8∧v8<(↑v6.length:Int)) <|
 gd (0+v8.toNat=0+v8.toNat) <|
 gd (inK .i64 (x18+1+1+1+1+1+1+1+1+1+1+1+1+1+1)) <|
 gd (0≤v8∧v8<(↑v6.length:Int)) <|
 gd (0+v8.toNat=0+v8.toNat) <|
 gd (inK .i64 (x18+1+1+1+1+1+1+1+1+1+1+1+1+1+1+1)) <|
 gd (0≤v8∧v8<(↑v6.length:Int)) <|
 gd (0+v8.toNat=0+v8.toNat) <|
 gd (inK .i64 (x18+1+1+1+1+1+1+1+1+1+1+1+1+1+1+1+1)) <|
 gd (0≤v8∧v8<(↑v6.length:Int)) <|
 gd (0+v8.toNat=0+v8.toNat) <|
 gd (inK .i64 (x18+1+1+1+1+1+1+1+1+1+1+1+1+1+1+1+1+1)) <|
 gd ((3:Int)≠(0:Int)) <|
 gd (0≤v8∧v8<(↑v6.length:Int)) <|
 gd (0+v8.toNat=0+v8.toNat) <|
 gd (inK .i64 (x18+1+1+1+1+1+1+1+1+1+1+1+1+1+1+1+1+1+1)) <|
 gd ((3:Int)≠(0:Int)) <|
 gd (0≤v8∧v8<(↑v6.length:Int)) <|
 gd (0+v8.toNat=0+v8.toNat) <|
 gd (inK .i64 (x18+1+1+1+1+1+1+1+1+1+1+1+1+1+1+1+1+1+1+1)) <|
 gd ((3:Int)≠(0:Int)) <|
 gd (0≤v8∧v8<(↑v6.length:Int)) <|
 gd (0+v8.toNat=0+v8.toNat) <|
 gd (inK .i64 (x18+1+1+1+1+1+1+1+1+1+1+1+1+1+1+1+1+1+1+1+1)) <|
 gd (0≤v8∧v8<(↑v6.length:Int)) <|
 gd (0+v8.toNat=0+v8.toNat) <|
 bd (pL_markIntS m x9.Term.S.Tabs (x18+1+1+1+1+1+1+1+1+1+1+1+1+1+1+1+1+1+1+1+1)) fun(x20,x21)=>
 gd (0≤v8∧v8<(↑v6.length:Int)) <|
 gd (0+v8.toNat=0+v8.toNat) <|
 gd (inK .i64 (x20+1)) <|
 gd (0≤v8∧v8<(↑v6.length:Int)) <|
 gd (0+v8.toNat=0+v8.toNat) <|
 bd (pL_markRowS m x9.Term.S.Back (x20+1)) fun(x22,x23)=>
 gd (inK .i64 (v8+1)) <|
 some (.inl (v6.set (0+v8.toNat) (IPane.mk v7 x10 x11 (v7+1+1+1) (v7+1+1+1+1) (v7+1+1+1+1+1) (ITerm.mk (IVp.mk (v7+1+1+1+1+1+1) ((v7+1+1+1+1+1+1+1).tmod 3==0) x13 x15) (IScr.mk x14 (x14+1) (IGrid.mk (x14+1+1) (x14+1+1+1) x17) (IGrid.mk x16 (x16+1) x19) (x18.tmod 3==0) (x18+1) (x18+1+1) ((x18+1+1+1).tmod 3==0) (IAttr.mk (x18+1+1+1+1) (x18+1+1+1+1+1) ((x18+1+1+1+1+1+1).tmod 3==0) ((x18+1+1+1+1+1+1+1).tmod 3==0) ((x18+1+1+1+1+1+1+1+1).tmod 3==0)) (x18+1+1+1+1+1+1+1+1+1) (x18+1+1+1+1+1+1+1+1+1+1) ((x18+1+1+1+1+1+1+1+1+1+1+1).tmod 3==0) ((x18+1+1+1+1+1+1+1+1+1+1+1+1).tmod 3==0) (x18+1+1+1+1+1+1+1+1+1+1+1+1+1) (x18+1+1+1+1+1+1+1+1+1+1+1+1+1+1) (IAttr.mk (x18+1+1+1+1+1+1+1+1+1+1+1+1+1+1+1) (x18+1+1+1+1+1+1+1+1+1+1+1+1+1+1+1+1) ((x18+1+1+1+1+1+1+1+1+1+1+1+1+1+1+1+1+1).tmod 3==0) ((x18+1+1+1+1+1+1+1+1+1+1+1+1+1+1+1+1+1+1).tmod 3==0) ((x18+1+1+1+1+1+1+1+1+1+1+1+1+1+1+1+1+1+1+1).tmod 3==0)) x21 x20 x23))),x22,v8+1))) <|
 some (.inr (v7,v6))
def pL_markPaneS (m:Nat) (a1:List IPane) (a2:Int):Option (Int×List IPane):=
 bd (α:=Int×List IPane) (
 loopF (pL_markPaneS_b1 m) m (a1,a2,0)) fun(x4,x5)=>
 some (x4,x5)
def o44 (m:Nat):Orc:=⟨44,[none,none],[.own .iPane 1000000000,.I .i64],101,(.tup [.I .i64,.own .iPane 1000000000]),fun v=>pL_markPaneS m v.1 v.2⟩
theorem c44:CC o44:=mq (cs c92 (cs c93 (cs c94 (cs c95 (cs c96 cn))))) T44 Tryz.f44
def T97:Tab:=⟨[],[],[(2,false,⟨[],[.sl 0 (.own .iNode 50),.sl 1 (.I .i64),.sl 5 (.I .i64)]⟩,0,⟨[],[.sl 1 (.I .i64),.rw 50 .iNode]⟩)]⟩
def pL_markNodeS_b1 (m:Nat):Lp (List INode×Int×Int) (Int×List INode):=fun(v6,v7,v8)=>
 br (decide (v8<(↑v6.length:Int))) (
 gd (0≤v8∧v8<(↑v6.length:Int)) <|
 bd (v6[0+v8.toNat]?) fun x9=>
 gd (inK .i64 (v7+1)) <|
 gd ((3:Int)≠(0:Int)) <|
 gd (0≤v8∧v8<(↑v6.length:Int)) <|
 bd ((v6.set (0+v8.toNat) (INode.mk v7 x9.Down x9.First))[0+v8.toNat]?) fun x10=>
 gd (inK .i64 (v7+1+1)) <|
 gd (0≤v8∧v8<(↑v6.length:Int)) <|
 bd (((v6.set (0+v8.toNat) (INode.mk v7 x9.Down x9.First)).set (0+v8.toNat) (INode.mk x10.Pane ((v7+1).tmod 3==0) x10.First))[0+v8.toNat]?) fun x11=>
 gd (inK .i64 (v7+1+1+1)) <|
 gd (inK .i64 (v8+1)) <|
 some (.inl (((v6.set (0+v8.toNat) (INode.mk v7 x9.Down x9.First)).set (0+v8.toNat) (INode.mk x10.Pane ((v7+1).tmod 3==0) x10.First)).set (0+v8.toNat) (INode.mk x11.Pane x11.Down (v7+1+1)),v7+1+1+1,v8+1))) <|
 some (.inr (v7,v6))
def pL_markNodeS (m:Nat) (a1:List INode) (a2:Int):Option (Int×List INode):=
 bd (α:=Int×List INode) (
 loopF (pL_markNodeS_b1 m) m (a1,a2,0)) fun(x4,x5)=>
 some (x4,x5)
def o97 (m:Nat):Orc:=⟨97,[none,none],[.own .iNode 99,.I .i64],101,(.tup [.I .i64,.own .iNode 99]),fun v=>pL_markNodeS m v.1 v.2⟩
theorem c97:CC o97:=mq cn T97 Tryz.f97
def T45:Tab:=⟨[],[],[(2,false,⟨[],[.sl 0 (.own .iWin 50),.sl 1 (.I .i64),.sl 5 (.I .i64)]⟩,0,⟨[],[.sl 1 (.I .i64),.rw 50 .iWin]⟩)]⟩
def pL_markWinS_b1 (m:Nat):Lp (List IWin×Int×Int) (Int×List IWin):=fun(v6,v7,v8)=>
 br (decide (v8<(↑v6.length:Int))) (
 gd (0≤v8∧v8<(↑v6.length:Int)) <|
 bd (v6[0+v8.toNat]?) fun x9=>
 gd (inK .i64 (v7+1)) <|
 bd (pL_markText m (v7+1)) fun x10=>
 gd (0≤v8∧v8<(↑v6.length:Int)) <|
 gd (0+v8.toNat=0+v8.toNat) <|
 gd (inK .i64 (v7+1+1)) <|
 gd (0≤v8∧v8<(↑v6.length:Int)) <|
 gd (0+v8.toNat=0+v8.toNat) <|
 bd (pL_markNodeS m x9.Tree (v7+1+1)) fun(x11,x12)=>
 gd (0≤v8∧v8<(↑v6.length:Int)) <|
 gd (0+v8.toNat=0+v8.toNat) <|
 gd (inK .i64 (x11+1)) <|
 gd ((3:Int)≠(0:Int)) <|
 gd (0≤v8∧v8<(↑v6.length:Int)) <|
 gd (0+v8.toNat=0+v8.toNat) <|
 gd (inK .i64 (x11+1+1)) <|
 gd (inK .i64 (v8+1)) <|
 some (.inl (v6.set (0+v8.toNat) (IWin.mk v7 x10 x12 x11 ((x11+1).tmod 3==0)),x11+1+1,v8+1))) <|
 some (.inr (v7,v6))
def pL_markWinS (m:Nat) (a1:List IWin) (a2:Int):Option (Int×List IWin):=
 bd (α:=Int×List IWin) (
 loopF (pL_markWinS_b1 m) m (a1,a2,0)) fun(x4,x5)=>
 some (x4,x5)
def o45 (m:Nat):Orc:=⟨45,[none,none],[.own .iWin 1000000000,.I .i64],101,(.tup [.I .i64,.own .iWin 1000000000]),fun v=>pL_markWinS m v.1 v.2⟩
theorem c45:CC o45:=mq (cs c92 (cs c97 cn)) T45 Tryz.f45
def T46:Tab:=⟨[],[],[(2,false,⟨[],[.sl 0 (.own .iSess 50),.sl 1 (.I .i64),.sl 5 (.I .i64)]⟩,0,⟨[],[.sl 1 (.I .i64),.rw 50 .iSess]⟩)]⟩
def pL_markSessS_b1 (m:Nat):Lp (List ISess×Int×Int) (Int×List ISess):=fun(v6,v7,v8)=>
 br (decide (v8<(↑v6.length:Int))) (
 bd (pL_markText m v7) fun x9=>
 gd (0≤v8∧v8<(↑v6.length:Int)) <|
 bd (v6[0+v8.toNat]?) fun x10=>
 gd (inK .i64 (v7+1)) <|
 gd (0≤v8∧v8<(↑v6.length:Int)) <|
 gd (0+v8.toNat=0+v8.toNat) <|
 bd (pL_markIntS m x10.Wins (v7+1)) fun(x11,x12)=>
 gd (0≤v8∧v8<(↑v6.length:Int)) <|
 gd (0+v8.toNat=0+v8.toNat) <|
 gd (inK .i64 (x11+1)) <|
 gd (inK .i64 (v8+1)) <|
 some (.inl (v6.set (0+v8.toNat) (ISess.mk x9 x12 x11),x11+1,v8+1))) <|
 some (.inr (v7,v6))
def pL_markSessS (m:Nat) (a1:List ISess) (a2:Int):Option (Int×List ISess):=
 bd (α:=Int×List ISess) (
 loopF (pL_markSessS_b1 m) m (a1,a2,0)) fun(x4,x5)=>
 some (x4,x5)
def o46 (m:Nat):Orc:=⟨46,[none,none],[.own .iSess 1000000000,.I .i64],101,(.tup [.I .i64,.own .iSess 1000000000]),fun v=>pL_markSessS m v.1 v.2⟩
theorem c46:CC o46:=mq (cs c92 (cs c93 cn)) T46 Tryz.f46
def pL_markState (m:Nat) (a1:IState) (a2:Int):Option (Int×List IPane×List IWin×List ISess):=
 bd (pL_markPaneS m a1.Panes a2) fun(x3,x4)=>
 bd (pL_markWinS m a1.Wins x3) fun(x5,x6)=>
 bd (pL_markSessS m a1.Sess x5) fun(x7,x8)=>
 some (x7,x4,x6,x8)
def o10 (m:Nat):Orc:=⟨10,[none,none],[.st .iState [(4,1000000000),(5,1000000000),(6,1000000000)],.I .i64],103,(.tup [.I .i64,.own .iPane 1000000000,.own .iWin 1000000000,.own .iSess 1000000000]),fun v=>pL_markState m v.1 v.2⟩
theorem c10:CC o10:=mq (cs c44 (cs c45 (cs c46 cn))) tn Tryz.f10
def pL_markGrid (m:Nat) (a1:IGrid) (a2:Int):Option (Int×List ICell):=
 bd (pL_markCellS m a1.Cells a2) fun(x3,x4)=>
 some (x3,x4)
def o47 (m:Nat):Orc:=⟨47,[none,none],[.st .iGrid [(2,99)],.I .i64],101,(.tup [.I .i64,.own .iCell 99]),fun v=>pL_markGrid m v.1 v.2⟩
theorem c47:CC o47:=mq (cs c95 cn) tn Tryz.f47
def pL_markView (m:Nat) (a1:IView) (a2:Int):Option (Int×List ICell):=
 bd (pL_markGrid m a1.Grid a2) fun(x3,x4)=>
 some (x3,x4)
def o11 (m:Nat):Orc:=⟨11,[none,none],[.st .iView [(2,99)],.I .i64],101,(.tup [.I .i64,.own .iCell 99]),fun v=>pL_markView m v.1 v.2⟩
theorem c11:CC o11:=mq (cs c47 cn) tn Tryz.f11
def T98:Tab:=⟨[],[],[(2,true,⟨[],[.sl 0 (.row .iCell),.sl 1 (.I .i64),.sl 5 (.I .i64)]⟩,0,⟨[],[.sl 1 (.I .i64)]⟩)]⟩
def pL_heldCellS_b1 (m:Nat):Lp (List ICell×Int×Int) (Int⊕Int):=fun(v5,v6,v7)=>
 br (decide (v7<(↑v5.length:Int))) (
 gd (0≤v7∧v7<(↑v5.length:Int)) <|
 bd v5[v7.toNat]? fun x8=>
 br (x8.R !=v6) (
 some (.inr (.inr (-1)))) <|
 gd (inK .i64 (v6+1)) <|
 gd (0≤v7∧v7<(↑v5.length:Int)) <|
 bd v5[v7.toNat]? fun x9=>
 br (x9.A.Fg !=v6+1) (
 some (.inr (.inr (-1)))) <|
 gd (inK .i64 (v6+1+1)) <|
 gd (0≤v7∧v7<(↑v5.length:Int)) <|
 bd v5[v7.toNat]? fun x10=>
 br (x10.A.Bg !=v6+1+1) (
 some (.inr (.inr (-1)))) <|
 gd (inK .i64 (v6+1+1+1)) <|
 gd (0≤v7∧v7<(↑v5.length:Int)) <|
 bd v5[v7.toNat]? fun x11=>
 gd ((3:Int)≠(0:Int)) <|
 br (!x11.A.Bold==((v6+1+1+1).tmod 3==0)) (
 some (.inr (.inr (-1)))) <|
 gd (inK .i64 (v6+1+1+1+1)) <|
 gd (0≤v7∧v7<(↑v5.length:Int)) <|
 bd v5[v7.toNat]? fun x12=>
 gd ((3:Int)≠(0:Int)) <|
 br (!x12.A.Under==((v6+1+1+1+1).tmod 3==0)) (
 some (.inr (.inr (-1)))) <|
 gd (inK .i64 (v6+1+1+1+1+1)) <|
 gd (0≤v7∧v7<(↑v5.length:Int)) <|
 bd v5[v7.toNat]? fun x13=>
 gd ((3:Int)≠(0:Int)) <|
 br (!x13.A.Turn==((v6+1+1+1+1+1).tmod 3==0)) (
 some (.inr (.inr (-1)))) <|
 gd (inK .i64 (v6+1+1+1+1+1+1)) <|
 gd (inK .i64 (v7+1)) <|
 some (.inl (v5,v6+1+1+1+1+1+1,v7+1))) <|
 some (.inr (.inl v6))
def pL_heldCellS (m:Nat) (a1:List ICell) (a2:Int):Option Int:=
 jn (V:=Int) (
 loopF (pL_heldCellS_b1 m) m (a1,a2,0)) fun v4=>
 some v4
def o98 (m:Nat):Orc:=⟨98,[none,none],[.row .iCell,.I .i64],0,(.one (.I .i64)),fun v=>pL_heldCellS m v.1 v.2⟩
theorem c98:CC o98:=mq cn T98 Tryz.f98
def pL_heldGrid (m:Nat) (a1:IGrid) (a2:Int):Option Int:=
 bd (pL_heldCellS m a1.Cells a2) fun x3=>
 br (decide (x3<0)) (
 some (-1)) <|
 some x3
def o48 (m:Nat):Orc:=⟨48,[none,none],[.st .iGrid [],.I .i64],0,(.one (.I .i64)),fun v=>pL_heldGrid m v.1 v.2⟩
theorem c48:CC o48:=mq (cs c98 cn) tn Tryz.f48
def pL_heldView (m:Nat) (a1:IView) (a2:Int):Option Int:=
 bd (pL_heldGrid m a1.Grid a2) fun x3=>
 br (decide (x3<0)) (
 some (-1)) <|
 some x3
def o12 (m:Nat):Orc:=⟨12,[none,none],[.st .iView [],.I .i64],0,(.one (.I .i64)),fun v=>pL_heldView m v.1 v.2⟩
theorem c12:CC o12:=mq (cs c48 cn) tn Tryz.f12
def T3:Tab:=⟨[(10,⟨[(5,.ptr 600 0),(12,.ptr 1300 0),(14,.ptr 1500 0),(15,.ptr 1600 0)],[.sto 600 .lState [],.sto 1300 .iView [(2,38000002)],.sto 1500 .iState [(4,1042000004),(5,1042000005),(6,1042000006)],.sto 1600 .iView [(2,49000002)],.sl 1 .S,.sl 2 (.I .i64),.sl 3 (.I .i64),.sl 4 (.I .i64),.sl 13 .B,.sl 16 .B,.sl 59 .B]⟩),(16,⟨[(5,.ptr 600 0),(12,.ptr 1300 0),(15,.ptr 1600 0)],[.sto 600 .lState [],.sto 1300 .iView [(2,38000002)],.sto 1600 .iView [(2,49000002)],.sl 1 .S,.sl 2 (.I .i64),.sl 3 (.I .i64),.sl 4 (.I .i64),.sl 13 .B,.sl 80 .B]⟩),(27,⟨[(15,.ptr 1600 0)],[.sto 1600 .iView [(2,49000002)],.sl 18 (.I .i64),.sl 110 .B]⟩)],[],[]⟩
def pL_FnExactPicture (m:Nat) (a1:LState) (a2:ByteArray) (a3:Int) (a4:Int) (a5:Int):Option Bool:=
 br (decide (1048576<(↑a2.size:Int))) (
 some true) <|
 bd (pL_szState m a1 1048576) fun x6=>
 br (decide (x6<0)) (
 some true) <|
 bd (pL_toState m a1) fun x7=>
 bd (pS_Picture m x7 a2 a3 a4 a5) fun(x8,x9)=>
 bd (pL_toState m a1) fun x10=>
 bd (pI_Picture m x10 a2 a3 a4 a5) fun(x11,x12)=>
 bd (α:=LState×IView×IState×IView×ByteArray×Int×Int×Int×Bool×Bool×Bool) (
 bd (pL_eqView m x11 x8) fun x13=>
 br (!x13) (
 some (a1,x8,x10,x11,a2,a3,a4,a5,x9,x12,true)) <|
 some (a1,x8,x10,x11,a2,a3,a4,a5,x9,x12,!x12==x9)) fun(x14,x15,x16,x17,x18,x19,x20,x21,x22,x23,x24)=>
 br x24 (
 some false) <|
 bd (pL_toState m x14) fun x25=>
 bd (pL_eqState m x16 x25) fun x26=>
 br (!x26) (
 some false) <|
 bd (pL_markState m x16 1) fun(x27,x28,x29,x30)=>
 bd (α:=LState×IView×IView×ByteArray×Int×Int×Int×Bool×Bool) (
 br (decide (x27<0)) (
 some (x14,x15,x17,x18,x19,x20,x21,x22,true)) <|
 bd (pL_eqView m x17 x15) fun x31=>
 br (!x31) (
 some (x14,x15,x17,x18,x19,x20,x21,x22,true)) <|
 some (x14,x15,x17,x18,x19,x20,x21,x22,!x23==x22)) fun(x32,x33,x34,x35,x36,x37,x38,x39,x40)=>
 br x40 (
 some false) <|
 bd (pL_markView m x34 1) fun(x41,x42)=>
 bd (pL_heldView m (IView.mk (IGrid.mk x34.Grid.W x34.Grid.H x42) x34.X x34.Y x34.Hide) 1) fun x43=>
 br (decide (x43<0)) (
 some false) <|
 br (x43 !=x41) (
 some false) <|
 bd (pL_toState m x32) fun x44=>
 bd (pI_Picture m x44 x35 x36 x37 x38) fun(x45,x46)=>
 bd (α:=IView×Int×Bool) (
 bd (pL_eqView m x45 x33) fun x47=>
 br (!x47) (
 some (IView.mk (IGrid.mk x34.Grid.W x34.Grid.H x42) x34.X x34.Y x34.Hide,x41,true)) <|
 some (IView.mk (IGrid.mk x34.Grid.W x34.Grid.H x42) x34.X x34.Y x34.Hide,x41,!x46==x39)) fun(x48,x49,x50)=>
 br x50 (
 some false) <|
 bd (pL_heldView m x48 1) fun x51=>
 br (decide (x51<0)) (
 some false) <|
 br (x51 !=x49) (
 some false) <|
 some true
def o3 (m:Nat):Orc:=⟨3,[none,none,none,none,none],[.st .lState [],.S,.I .i64,.I .i64,.I .i64],0,(.one .B),fun v=>pL_FnExactPicture m v.1 v.2.1 v.2.2.1 v.2.2.2.1 v.2.2.2.2⟩
theorem c3:CC o3:=mq (cs c4 (cs c6 (cs c5 (cs c7 (cs c8 (cs c9 (cs c10 (cs c11 (cs c12 cn))))))))) T3 Tryz.f3
end
open Go.RowKit Go.Deep
def shp:Leaf→Leaf→Prop
 | .sc (.int k _),.sc (.int k' _)=>k'=k
 | .sc (.string _),.sc (.string _)=>True
 | .sc (.bool _),.sc (.bool _)=>True
 | .nest k _,.nest k' _=>k'=k
 | _,_=>False
theorem shp_int {k:IntKind} {n:Int} {lf:Leaf} (h:shp (.sc (.int k n)) lf):∃m,lf= .sc (.int k m):=by
 cases lf with
 | sc v=>cases v<;>first|exact h.elim|(obtain rfl:_=_:=h;exact⟨_,rfl⟩)
 | nest=>exact h.elim
theorem shp_str {s:ByteArray} {lf:Leaf} (h:shp (.sc (.string s)) lf):∃m,lf= .sc (.string m):=by
 cases lf with
 | sc v=>cases v<;>first|exact⟨_,rfl⟩ | exact h.elim
 | nest=>exact h.elim
theorem shp_bool {s:Bool} {lf:Leaf} (h:shp (.sc (.bool s)) lf):∃m,lf= .sc (.bool m):=by
 cases lf with
 | sc v=>cases v<;>first|exact⟨_,rfl⟩ | exact h.elim
 | nest=>exact h.elim
theorem shp_nest {k:K} {l:List (ty k)} {lf:Leaf} (h:shp (.nest k l) lf):∃m,lf= .nest k m:=by
 cases lf with
 | sc v=>exact h.elim
 | nest k' l'=>obtain rfl:k'=k:=h;exact⟨_,rfl⟩
theorem shp_cons {z:Leaf} {zs lfs:List Leaf} (h:All2 shp (z::zs) lfs):∃l t,lfs=l::t∧shp z l∧All2 shp zs t:=by
 cases lfs with
 | nil=>exact h.elim
 | cons l t=>exact⟨l,t,rfl,h.1,h.2⟩
theorem shp_nil {lfs:List Leaf} (h:All2 shp [] lfs):lfs=[]:=by
 cases lfs with
 | nil=>rfl
 | cons=>exact h.elim
set_option maxRecDepth 20000 in
theorem leaves_of:∀{k:K} {lfs:List Leaf},All2 shp (leaves (zK k)) lfs→∃x,ofLeaves k (lfs.map leafIn)=some x:=by
 intro k lfs h
 cases k
 all_goals
  repeat
   obtain⟨_,_,e0,h0,h'⟩:=shp_cons h
   clear h
   subst e0
   have h:=h'
   clear h'
   first
    | (obtain⟨_,rfl⟩:=shp_int h0;clear h0)
    | (obtain⟨_,rfl⟩:=shp_str h0;clear h0)
    | (obtain⟨_,rfl⟩:=shp_bool h0;clear h0)
    | (obtain⟨_,rfl⟩:=shp_nest h0;clear h0)
  obtain rfl:=shp_nil h
  exact⟨_,rfl⟩
def RdL (w:World) (zs:List Leaf) (cs:List Value):Prop:=∃lfs,All2 shp zs lfs∧All2 (LeafV (fun b=>b<w.heap.size) w) lfs cs
theorem RdL.app {w:World}:∀{z1 z2:List Leaf} {c1 c2:List Value},RdL w z1 c1→RdL w z2 c2→RdL w (z1++z2) (c1++c2)
 | z1,z2,c1,c2,⟨l1,a1,b1⟩,⟨l2,a2,b2⟩=>⟨l1++l2,All2.app a1 a2,All2.app b1 b2⟩
theorem RdL.len {w:World} {zs:List Leaf} {cs:List Value} (h:RdL w zs cs):cs.length=zs.length:=by
 obtain⟨l,a,b⟩:=h
 rw[←b.len,←a.len]
theorem leafIn_InL {lfs ls:List Leaf} {w:World} {S:Nat→Prop}:∀{cs:List Value},All2 InL (lfs.map leafIn) ls→All2 (LeafV S w) lfs cs→ls=lfs:=by
 induction lfs generalizing ls with
 | nil=>intro cs h _;cases ls with
  | nil=>rfl
  | cons=>exact h.elim
 | cons a lfs ih=>
  intro cs h hv
  cases ls with
  | nil=>exact h.elim
  | cons b ls=>
   cases cs with
   | nil=>exact hv.elim
   | cons c cs=>
    rw[ih h.2 hv.2]
    congr 1
    cases a with
    | sc v=>exact h.1 hv.1.2
    | nest k l=>exact h.1
theorem RdL.elem {w:World} {k:K} {cs:List Value} (h:RdL w (leaves (zK k)) cs):∃x:ty k,All2 (LeafV (fun b=>b<w.heap.size) w) (leaves x) cs:=by
 obtain⟨lfs,a,b⟩:=h
 obtain⟨x,hx⟩:=leaves_of a
 refine⟨x,?_⟩
 rw[leafIn_InL (ofLeaves_spec hx) b]
 exact b
def Reads (P:Program) (t:TypeId) (zs:List Leaf):Prop:=∀(H:Type) (enc:TypeId×Value→H) (w:World) (base:Nat) (spare:Nat→Bool) (held:Bool) (fuel:Nat) (cs:List Value) (x:DataW H×List MemPlace),
  DataW.trod enc P w base spare held fuel t cs=some x→RdL w zs cs
section
variable {P:Program}
theorem wf_lit {k:IntKind} {n:Int} (h:(Lit.int k n).wf=true):wfV (.int k n):=by
 refine(wrap_iff k n).2 ?_
 cases k<;>simp[Lit.wf,IntKind.min,IntKind.max,IntKind.signed,IntKind.bits,loK,hiK]at h⊢<;>omega
theorem reads_int {t:TypeId} {k:IntKind} (ht:P.underlying t=some (.int k)):Reads P t [.sc (.int k 0)]:=by
 intro H enc w base spare held fuel cs x h
 obtain⟨n,rfl,_,hw⟩:=DataW.trod_int ht h
 exact⟨[.sc (.int k n)],⟨rfl,trivial⟩,⟨rfl,wf_lit hw⟩,trivial⟩
theorem reads_bool {t:TypeId} (ht:P.underlying t=some .bool):Reads P t [.sc (.bool false)]:=by
 intro H enc w base spare held fuel cs x h
 obtain⟨b,rfl,_⟩:=DataW.trod_bool ht h
 exact⟨[.sc (.bool b)],⟨trivial,trivial⟩,⟨rfl,trivial⟩,trivial⟩
theorem reads_str {t:TypeId} (ht:P.underlying t=some .string):Reads P t [.sc (.string ByteArray.empty)]:=by
 intro H enc w base spare held fuel cs x h
 obtain⟨s,rfl,_,hs⟩:=DataW.trod_string ht h
 exact⟨[.sc (.string s)],⟨trivial,trivial⟩,⟨rfl,hs⟩,trivial⟩
theorem cell_block {w:World} {a:Addr} {v:Value} (h:w.cell? a=some v):a.block<w.heap.size:=by
 unfold World.cell? at h
 split at h
 ·rename_i e;exact(Array.getElem?_eq_some_iff.1 e).1
 ·cases h
theorem reads_slice {k:K} {t:TypeId} (ht:P.underlying t=some (.slice (tid k))) (hC:P.cellsOf (tid k)=size k) (he:Reads P (tid k) (leaves (zK k))):Reads P t [.nest k []]:=by
 intro H enc w base spare held fuel cs x h
 rcases open_slice ht h with⟨rfl,_⟩ |⟨⟨b,off,spot⟩,len,cap,m,n,D,Pl,rfl,hb,hl,hm,hmm,hx,hi⟩
 ·exact⟨[.nest k []],⟨rfl,trivial⟩,Row.nil,trivial⟩
 ·have hp:=size_pos k
  have hlm:len≤m:=by rw[hmm];split<;>omega
  have hspot:0<len→spot=none:=by
   intro h0
   obtain⟨cs',hcs,htr⟩:=hi 0 (by omega)
   obtain⟨_,hlen,hat⟩:=World.cells?_some hcs
   rw[hC]at hat hlen
   have hc:=(hat 0 hp).trans (qE1 (show 0<cs'.length by omega))
   have:=World.cell?_spot hc
   simpa [Addr.add]using this
  have H1:∀i:Fin len,∃y:ty k,spot=none∧b<w.heap.size∧∀(j:Nat) lf,(leaves y)[j]?=some lf→∃u,w.cell? ⟨b,off+(i.1*size k+j),none⟩ = some u∧LeafV (fun b=>b<w.heap.size) w lf u:=by
   intro i
   obtain⟨cs',hcs,htr⟩:=hi i.1 (by omega)
   obtain⟨_,hlen,hat⟩:=World.cells?_some hcs
   rw[hC]at hlen hat
   obtain⟨y,hy⟩:=(he _ _ _ _ _ _ _ _ _ htr).elem
   have hc0:=(hat 0 hp).trans (qE1 (show 0<cs'.length by omega))
   have hspot:=hspot (Nat.lt_of_le_of_lt (Nat.zero_le _) i.2)
   subst hspot
   have hblk:b<w.heap.size:=by
    have:=cell_block hc0
    rw[addr_add,addr_add]at this
    exact this
   refine⟨y,rfl,hblk,fun j lf hlf=> ?_⟩
   obtain⟨u,hu,hv⟩:=hy.get j lf hlf
   have hj:j<size k:=by have:=(qS1.1 hlf).1;rwa[leaves_len]at this
   have hc:=(hat j hj).trans hu
   rw[addr_add,addr_add]at hc
   exact⟨u,by rw[←Nat.add_assoc];exact hc,hv⟩
  have hm':len≤9223372036854775807:=Nat.le_trans hl hm
  refine⟨[.nest k (List.ofFn fun i=>(H1 i).choose)],⟨rfl,trivial⟩,?_,trivial⟩
  have hlen:(List.ofFn fun i=>(H1 i).choose).length=len:=by simp
  have:=Row.make (S:=fun b=>b<w.heap.size) (w:=w) (k:=k) (l:=List.ofFn fun i=>(H1 i).choose) (a:=some ⟨b,off,spot⟩) (cap:=cap) (by rw[hlen];exact hl) (by rw[hlen];exact hm') fun hne=>by
   have h0:0<len:=by
    rcases Nat.eq_zero_or_pos len with h0|h0
    ·subst h0;simp at hne
    ·exact h0
   obtain⟨hs,hblk,_⟩:=(H1 ⟨0,h0⟩).choose_spec
   refine⟨b,off,by rw[hs],hblk,fun i x hx j lf hlf=> ?_⟩
   have hi':i<len:=by rw[←hlen];exact(qS1.1 hx).1
   have hx':x=(H1 ⟨i,hi'⟩).choose:=by
    rw[List.getElem?_ofFn]at hx
    simp[hi']at hx
    exact hx.symm
   subst hx'
   exact(H1 ⟨i,hi'⟩).choose_spec.2.2 j lf hlf
  rw[hlen]at this
  exact this
def sameZ:List Leaf→List Leaf→Bool
 | [],[]=>true
 | .sc (.int k _)::l,.sc (.int k' _)::m=>decide (k'=k)&&sameZ l m
 | .sc (.string _)::l,.sc (.string _)::m=>sameZ l m
 | .sc (.bool _)::l,.sc (.bool _)::m=>sameZ l m
 | .nest k _::l,.nest k' _::m=>decide (k'=k)&&sameZ l m
 | _,_=>false
theorem sameZ_spec:∀{l m:List Leaf},sameZ l m=true→∀{lfs:List Leaf},All2 shp l lfs→All2 shp m lfs
 | [],[],_,lfs,h=>h
 | a::l,b::m,hs,lfs,h=>by
  cases lfs with
  | nil=>exact h.elim
  | cons c lfs=>
   unfold sameZ at hs
   split at hs
   ·rename_i h1 h2;cases h1
   ·rename_i k n l1 k' n' m1 h1 h2
    cases h1;cases h2
    rw[Bool.and_eq_true]at hs
    obtain rfl:=of_decide_eq_true hs.1
    obtain⟨q,rfl⟩:=shp_int h.1
    exact⟨rfl,sameZ_spec hs.2 h.2⟩
   ·rename_i h1 h2
    cases h1;cases h2
    obtain⟨q,rfl⟩:=shp_str h.1
    exact⟨trivial,sameZ_spec hs h.2⟩
   ·rename_i h1 h2
    cases h1;cases h2
    obtain⟨q,rfl⟩:=shp_bool h.1
    exact⟨trivial,sameZ_spec hs h.2⟩
   ·rename_i k n l1 k' n' m1 h1 h2
    cases h1;cases h2
    rw[Bool.and_eq_true]at hs
    obtain rfl:=of_decide_eq_true hs.1
    obtain⟨q,rfl⟩:=shp_nest h.1
    exact⟨rfl,sameZ_spec hs.2 h.2⟩
   ·cases hs
 | [],_::_,hs,_,_=>by cases hs
 | .sc v::_,[],hs,_,_=>by cases v<;>simp[sameZ]at hs
 | .nest _ _::_,[],hs,_,_=>by cases hs
def fieldsZ (P:Program) (r:TypeId→Option (List Leaf)):Nat→List Field→Option (List Leaf)
 | _,[]=>some []
 | off,f::fs=>match Nat.beq f.offset off,r f.type with
  | true,some z=>(match Nat.beq (P.cellsOf f.type) z.length with
   | true=>(match fieldsZ P r (off+z.length) fs with
    | some zs=>some (z++zs)
    | none=>none)
   | false=>none)
  | _,_=>none
def rdT (P:Program):Nat→TypeId→Option (List Leaf)
 | 0,_=>none
 | n+1,t=>match P.underlying t with
  | some (.int k)=>some [.sc (.int k 0)]
  | some .string=>some [.sc (.string ByteArray.empty)]
  | some .bool=>some [.sc (.bool false)]
  | some (.slice e)=>(match slK t with
   | some k=>(match Nat.beq e (tid k),Nat.beq (P.cellsOf (tid k)) (size k),rdT P n (tid k)with
    | true,true,some zs=>(match sameZ zs (leaves (zK k))with
     | true=>some [.nest k []]
     | false=>none)
    | _,_,_=>none)
   | none=>none)
  | some (.struct fs)=>(match fieldsZ P (rdT P n) 0 fs.toList with
   | some zs=>(match Nat.beq (P.cellsOf t) zs.length with
    | true=>some zs
    | false=>none)
   | none=>none)
  | _=>none
theorem fieldsZ_rd {r:TypeId→Option (List Leaf)} {w:World} {cs:List Value}:∀{fs:List Field} {off:Nat} {zs:List Leaf},fieldsZ P r off fs=some zs→cs.length=off+zs.length→
  (∀(i:Nat) f z,fs[i]?=some f→r f.type=some z→RdL w z ((cs.drop f.offset).take (P.cellsOf f.type)))→RdL w zs (cs.drop off)
 | [],off,zs,h,hl,_=>by
  cases h
  rw[List.drop_eq_nil_of_le (by simp at hl;omega)]
  exact⟨[],trivial,trivial⟩
 | f::fs,off,zs,h,hl,hf=>by
  unfold fieldsZ at h
  split at h
  case h_2=>cases h
  rename_i z h1 h2
  split at h
  case h_2=>cases h
  rename_i h3
  split at h
  case h_2=>cases h
  rename_i zs' h4
  cases h
  have h5:=Nat.eq_of_beq_eq_true h1
  have h6:=Nat.eq_of_beq_eq_true h3
  have q1:=hf 0 f z rfl h2
  rw[h5,h6]at q1
  have q2:=fieldsZ_rd (off:=off+z.length) h4 (by rw[List.length_append]at hl;omega) fun i f z hi hz=>hf (i+1) f z (by simpa using hi) hz
  have:=q1.app q2
  rwa[show(cs.drop off).take z.length++cs.drop (off+z.length)=cs.drop off by rw[←List.drop_drop];exact List.take_append_drop ..]at this
theorem rdT_reads:∀{n:Nat} {t:TypeId} {zs:List Leaf},rdT P n t=some zs→Reads P t zs
 | 0,_,_,h=>by cases h
 | n+1,t,zs,h=>by
  unfold rdT at h
  split at h
  ·rename_i k ht;cases h;exact reads_int ht
  ·rename_i ht;cases h;exact reads_str ht
  ·rename_i ht;cases h;exact reads_bool ht
  ·rename_i e ht
   split at h
   case h_2=>cases h
   rename_i k hk
   split at h
   case h_2=>cases h
   rename_i zs' h1 h2 h3
   split at h
   case h_2=>cases h
   rename_i h4
   cases h
   have e1:=Nat.eq_of_beq_eq_true h1
   have e2:=Nat.eq_of_beq_eq_true h2
   subst e1
   refine reads_slice ht e2 fun H enc w base spare held fuel cs x hx=> ?_
   obtain⟨l,a,b⟩:=rdT_reads h3 H enc w base spare held fuel cs x hx
   exact⟨l,sameZ_spec h4 a,b⟩
  ·rename_i fs ht
   split at h
   case h_2=>cases h
   rename_i zs' h1
   split at h
   case h_2=>cases h
   rename_i h2
   cases h
   have e2:=Nat.eq_of_beq_eq_true h2
   intro H enc w base spare held fuel cs x hx
   obtain⟨xs,m,_,_,hC,hl,hf⟩:=DataW.trod_struct ht hx
   have:=fieldsZ_rd (P:=P) (w:=w) (cs:=cs) (off:=0) h1 (by rw[hC,e2,Nat.zero_add]) fun i f z hi hz=>by
    have g:=hf i f (by simpa using hi)
    have hix:i<xs.length:=by rw[hl];simpa using(qS1.1 hi).1
    rw[qE1 hix]at g
    exact rdT_reads hz H enc w base spare held m _ _ g
   simpa using this
  ·cases h
end
open Go.RowKit
section
variable {S:Nat→Prop} {w:World} {β:Nat→Option (Nat×Nat)} {σ:Sto}
theorem own_leaf {lf:Leaf} {u:Value} (h:LeafV S w lf u):OwnS S w β σ (leafPV lf) u []:=by
 cases lf with
 | sc q=>exact⟨rfl,h⟩
 | nest k l=>exact⟨rfl,rfl,h⟩
theorem own_st {k:K} {x:ty k} {us:List Value} (h:All2 (LeafV S w) (leaves x) us):Own1 S w β σ ((Sh.st k []).encC x) (.agg us.toArray) []:=by
 refine⟨us.toArray,rfl,?_⟩
 have key:∀(lfs:List Leaf) (j:Nat) (us:List Value),All2 (LeafV S w) lfs us→All3 (OwnS S w β σ) (stoR [] j lfs) us []:=by
  intro lfs
  induction lfs with
  | nil=>intro j us h;cases us with
   | nil=>rfl
   | cons=>exact h.elim
  | cons a lfs ih=>intro j us h;cases us with
   | nil=>exact h.elim
   | cons u us=>exact⟨[],[],rfl,own_leaf h.1,ih (j+1) us h.2⟩
 simpa using key _ 0 us h
end
@[simp] theorem bd_s {α β:Type} (a:α) (f:α→Option β):bd (some a) f=f a:=rfl
@[simp] theorem bd_n {α β:Type} (f:α→Option β):bd (none:Option α) f=none:=rfl
@[simp] theorem br_t {α:Type} (x y:α):br true x y=x:=rfl
@[simp] theorem br_f {α:Type} (x y:α):br false x y=y:=rfl
@[simp] theorem jn_l {V β:Type} (v:V) (f:V→Option β):jn (some (.inl v)) f=f v:=rfl
@[simp] theorem jn_r {V β:Type} (r:β) (f:V→Option β):jn (some (.inr r)) f=some r:=rfl
theorem bd_br {α β:Type} (b:Bool) (x y:Option α) (f:α→Option β):bd (br b x y) f=br b (bd x f) (bd y f):=by cases b<;>rfl
theorem br_ss {α:Type} (b:Bool) (x y:α):br b (some x) (some y)=some (br b x y):=by cases b<;>rfl
theorem br_pp {α β:Type} (b:Bool) (a:α) (x y:β):br b (a,x) (a,y)=(a,br b x y):=by cases b<;>rfl
theorem gd_t {β:Type} {p:Prop} [Decidable p] (h:p) (x:Option β):gd p x=x:=if_pos h
theorem br_if {α:Type} (b:Bool) (x y:α):br b x y=if b then x else y:=by cases b<;>rfl
theorem loopF_drop {V O α:Type} {B:V→Option (V⊕O)} {f:Nat→V} {l:List α} {q:α→Bool} {R E:O} (h:∀i x,l[i]?=some x→B (f i)=if q x then some (.inr R)else some (.inl (f (i+1)))) (he:B (f l.length)=some (.inr E)) :
  ∀(n fuel i:Nat),l.length-i=n→i≤l.length→n<fuel→loopF B fuel (f i)=some (if(l.drop i).any q then R else E)
 | n,0,i,_,_,hf=>by omega
 | 0,fuel+1,i,hn,hi,_=>by
  obtain rfl:i=l.length:=by omega
  unfold loopF
  rw[he]
  simp
 | n+1,fuel+1,i,hn,hi,hf=>by
  have hlt:i<l.length:=by omega
  have hx:l[i]?=some l[i]:=qE1 hlt
  unfold loopF
  rw[h i _ hx,List.drop_eq_getElem_cons hlt,List.any_cons]
  by_cases hq:q l[i]=true
  ·simp[hq]
  ·simp only[hq,if_false,Bool.false_eq_true,Bool.false_or]
   exact loopF_drop h he n fuel (i+1) (by omega) (by omega) (by omega)
theorem loopF_any {V O α:Type} {B:V→Option (V⊕O)} (f:Nat→V) (l:List α) (q:α→Bool) (R E:O) {fuel:Nat} {v:V} (hv:v=f 0) (h:∀i x,l[i]?=some x→B (f i)=if q x then some (.inr R)else some (.inl (f (i+1)))) (he:B (f l.length)=some (.inr E)) (hf:l.length<fuel):loopF B fuel v=some (if l.any q then R else E):=by
 subst hv
 have:=loopF_drop h he l.length fuel 0 rfl (Nat.zero_le _) hf
 rwa[List.drop_zero]at this
theorem loopF_find {V O α:Type} {B:V→Option (V⊕O)} (f:Nat→V) (l:List α) (q:α→Bool) (R:Nat→O) (E:O) {fuel:Nat} {v:V} (hv:v=f 0) (h:∀i x,l[i]?=some x→B (f i)=if q x then some (.inr (R i))else some (.inl (f (i+1)))) (he:B (f l.length)=some (.inr E)) (hf:l.length<fuel) :
  (∃(i:Nat) (x:α),l[i]?=some x∧q x=true∧(∀(j:Nat) y,j<i→l[j]?=some y→q y=false)∧loopF B fuel v=some (R i))∨((∀x∈l,q x=false)∧loopF B fuel v=some E):=by
 subst hv
 have key:∀(n fuel i:Nat),l.length-i=n→i≤l.length→n<fuel→(∀(j:Nat) y,j<i→l[j]?=some y→q y=false)→
   (∃(i':Nat) (x:α),l[i']?=some x∧q x=true∧(∀(j:Nat) y,j<i'→l[j]?=some y→q y=false)∧loopF B fuel (f i)=some (R i'))∨((∀(j:Nat) y,l[j]?=some y→q y=false)∧loopF B fuel (f i)=some E):=by
  intro n
  induction n with
  | zero=>
   intro fuel i hn hi hf hq
   cases fuel with
   | zero=>omega
   | succ fuel=>
    obtain rfl:i=l.length:=by omega
    refine .inr ⟨fun j y hj=>hq j y (qS1.1 hj).1 hj,?_⟩
    unfold loopF;rw[he]
  | succ n ih=>
   intro fuel i hn hi hf hq
   cases fuel with
   | zero=>omega
   | succ fuel=>
    have hlt:i<l.length:=by omega
    have hx:l[i]?=some l[i]:=qE1 hlt
    by_cases hqx:q l[i]=true
    ·refine .inl ⟨i,_,hx,hqx,hq,?_⟩
     unfold loopF;rw[h i _ hx,hqx];rfl
    ·have hqx:q l[i]=false:=by simpa using hqx
     have hstep:loopF B (fuel+1) (f i)=loopF B fuel (f (i+1)):=by
      conv=>lhs;unfold loopF
      rw[h i _ hx,hqx];rfl
     rw[hstep]
     refine ih fuel (i+1) (by omega) (by omega) (by omega) fun j y hj hy=> ?_
     rcases Nat.lt_succ_iff_lt_or_eq.1 hj with h1|h1
     ·exact hq j y h1 hy
     ·subst h1;rw[hx]at hy;cases hy;exact hqx
 rcases key l.length fuel 0 rfl (Nat.zero_le _) hf (fun j y hj=>by omega)with h1|⟨h1,h2⟩
 ·exact .inl h1
 ·exact .inr ⟨fun x hx=>by obtain⟨j,hj⟩:=List.getElem?_of_mem hx;exact h1 j x hj,h2⟩
theorem loopF_anyI {V O α:Type} {B:V→Option (V⊕O)} (f:Nat→V) (l:List α) (q:Nat→α→Bool) (R E:O) {fuel:Nat} {v:V} (hv:v=f 0) (h:∀i x,l[i]?=some x→B (f i)=if q i x then some (.inr R)else some (.inl (f (i+1)))) (he:B (f l.length)=some (.inr E)) (hf:l.length<fuel) :
  loopF B fuel v=some (if l.zipIdx.any (fun p=>q p.2 p.1)then R else E):=by
 have hl:l.zipIdx.length=l.length:=List.length_zipIdx
 refine loopF_any f l.zipIdx (fun p=>q p.2 p.1) R E hv (fun i p hp=> ?_) (by rw[hl];exact he) (by rw[hl];exact hf)
 rw[List.getElem?_zipIdx]at hp
 cases hx:l[i]? with
 | none=>rw[hx]at hp;cases hp
 | some x=>rw[hx]at hp;simp at hp;subst hp;exact h i x hx
theorem inK64 {v:Int} (h1: -9223372036854775808≤v) (h2:v≤9223372036854775807):inK .i64 v:=by
 show(if(true&&decide (v % 18446744073709551616≥9223372036854775808))=true then v % 18446744073709551616-18446744073709551616 else v % 18446744073709551616)=v
 simp only[Bool.true_and,decide_eq_true_eq]
 split<;>omega
@[simp] theorem pI_within_eq (fuel:Nat) (a b c:Int):pI_within fuel a b c=some (decide (b≤a)&&decide (a≤c)):=by
 unfold pI_within
 by_cases h:b≤a<;>simp[h]
@[simp] theorem pI_isId_eq (fuel:Nat) (a:Int):pI_isId fuel a=some (decide (1≤a)&&decide (a≤1000000)):=by
 unfold pI_isId;simp
@[simp] theorem pI_isCmd_eq (fuel:Nat) (a:ByteArray):pI_isCmd fuel a=some (decide ((↑a.size:Int)≤60)):=rfl
def showsB (a:Int):Bool:=(decide (32≤a)&&decide (a≤126))||(decide (160≤a)&&decide (a≤65535)&& !(decide (55296≤a)&&decide (a≤57343)))
@[simp] theorem pI_Shows_eq (fuel:Nat) (a:Int):pI_Shows fuel a=some (showsB a):=by
 unfold pI_Shows showsB
 simp only[pI_within_eq,bd_s,br_if]
 cases decide (32≤a)&&decide (a≤126)<;>cases decide (160≤a)&&decide (a≤65535)<;>simp
@[simp] theorem pS_Shows_eq (fuel:Nat) (a:Int):pS_Shows fuel a=some (showsB a):=by
 unfold pS_Shows showsB
 by_cases h1:32≤a<;>by_cases h2:a≤126<;>by_cases h3:160≤a<;>by_cases h4:a≤65535<;>by_cases h5:a<55296<;>simp[h1,h2,h3,h4,h5]<;>(try simp[show¬55296≤a by omega])<;>(try simp[show 55296≤a by omega])<;>(try (by_cases h6:a≤57343<;>simp[h6]<;>omega))<;>(try omega)
def attrOkB (x:IAttr):Bool:=(decide (0≤x.Fg)&&decide (x.Fg≤8))&&(decide (0≤x.Bg)&&decide (x.Bg≤8))
@[simp] theorem pI_AttrOk_eq (fuel:Nat) (x:IAttr):pI_AttrOk fuel x=some (attrOkB x):=by
 unfold pI_AttrOk attrOkB
 simp only[pI_within_eq,bd_s]
 cases decide (0≤x.Fg)&&decide (x.Fg≤8)<;>simp
@[simp] theorem pS_AttrOk_eq (fuel:Nat) (x:IAttr):pS_AttrOk fuel x=some (attrOkB x):=by
 unfold pS_AttrOk attrOkB
 cases decide (0≤x.Fg)<;>cases decide (x.Fg≤8)<;>cases decide (0≤x.Bg)<;>simp
def cellOkB (x:ICell):Bool:=showsB x.R&&attrOkB x.A
@[simp] theorem pI_CellOk_eq (fuel:Nat) (x:ICell):pI_CellOk fuel x=some (cellOkB x):=by
 unfold pI_CellOk cellOkB
 simp only[pI_Shows_eq,bd_s]
 cases showsB x.R<;>simp
@[simp] theorem pS_CellOk_eq (fuel:Nat) (x:ICell):pS_CellOk fuel x=some (cellOkB x):=by
 unfold pS_CellOk cellOkB
 simp only[pS_Shows_eq,bd_s]
 cases showsB x.R<;>simp
theorem idx_facts {α:Type} {l:List α} {i:Nat} {x:α} (h:l[i]?=some x) (hl:l.length≤9223372036854775807):decide ((i:Int)<(l.length:Int))=true∧((0:Int)≤i∧(i:Int)<(l.length:Int))∧l[(i:Int).toNat]?=some x∧inK .i64 ((i+1:Nat):Int)∧((i:Int)+1=((i+1:Nat):Int)):=by
 have hi:=(qS1.1 h).1
 exact⟨by simp;omega,⟨by omega,by omega⟩,by simpa using h,inK64 (by omega) (by omega),by simp⟩
theorem areCells_loop (fuel:Nat) (l:List ICell) (hl:l.length≤9223372036854775807) (hf:l.length<fuel):∃n:Int,pG_slices_IndexFunc_ICell_I_areCells_1 fuel l=some n∧(decide (0≤n)=l.any fun x=> !cellOkB x):=by
 unfold pG_slices_IndexFunc_ICell_I_areCells_1
 rcases loopF_find (B:=pG_slices_IndexFunc_ICell_I_areCells_1_b1 fuel) (fun i=>(l,(l.length:Int),(i:Int))) l (fun x=> !cellOkB x) (fun i=> .inr (i:Int)) (.inl ()) (fuel:=fuel) (v:=(l,(l.length:Int),0)) rfl (fun i x hx=>by
  obtain⟨h1,h2,h3,h4,h5⟩:=idx_facts hx hl
  unfold pG_slices_IndexFunc_ICell_I_areCells_1_b1 pI_areCells_1
  simp only[h1,br_t,gd_t h2,h3,bd_s,pI_CellOk_eq,h5,gd_t h4]
  cases cellOkB x<;>rfl) (by
  unfold pG_slices_IndexFunc_ICell_I_areCells_1_b1
  simp) hf with⟨i,x,h1,h2,_,h3⟩ |⟨h1,h2⟩
 ·refine⟨i,by rw[h3];rfl,?_⟩
  have:(l.any fun x=> !cellOkB x)=true:=List.any_eq_true.2 ⟨x,qM1 h1,h2⟩
  rw[this];simp
 ·refine⟨-1,by rw[h2];rfl,?_⟩
  have:(l.any fun x=> !cellOkB x)=false:=List.any_eq_false.2 fun x hx=>by rw[h1 x hx];simp
  rw[this];rfl
theorem pI_areCells_eq {fuel:Nat} {l:List ICell} (hl:l.length≤9223372036854775807) (hf:l.length<fuel):pI_areCells fuel l=some (l.all cellOkB):=by
 obtain⟨n,h1,h2⟩:=areCells_loop fuel l hl hf
 unfold pI_areCells pG_slices_ContainsFunc_ICell_I_areCells_1
 simp only[h1,bd_s,h2]
 rw[List.all_eq_not_any_not]
theorem mul_small {a b:Int} (h1:1≤a) (h2:a≤120) (h3:1≤b) (h4:b≤120):0≤a*b∧a*b≤14400:=by
 constructor
 ·exact Int.mul_nonneg (by omega) (by omega)
 ·calc a*b≤120*b:=Int.mul_le_mul_of_nonneg_right h2 (by omega)
   _≤14400:=by omega
def isSizeB (w h:Int):Bool:=((decide (1≤w)&&decide (w≤120))&&(decide (1≤h)&&decide (h≤120)))&&decide (w*h≤4000)
theorem isSizeB_true {w h:Int}:isSizeB w h=true↔1≤w∧w≤120∧1≤h∧h≤120∧w*h≤4000:=by
 unfold isSizeB;simp[and_assoc]
@[simp] theorem pI_isSize_eq (fuel:Nat) (w h:Int):pI_isSize fuel w h=some (isSizeB w h):=by
 unfold pI_isSize isSizeB
 simp only[pI_within_eq,bd_s]
 by_cases h1:1≤w<;>by_cases h2:w≤120<;>by_cases h3:1≤h<;>by_cases h4:h≤120<;>simp[h1,h2,h3,h4]
 have:=mul_small h1 h2 h3 h4
 rw[gd_t (inK64 (by omega) (by omega))]
 rfl
def gridOkB (x:IGrid):Bool:=isSizeB x.W x.H&&(((x.Cells.length:Int)==x.W*x.H)&&x.Cells.all cellOkB)
theorem pI_GridOk_eq {fuel:Nat} {x:IGrid} (hl:x.Cells.length≤9223372036854775807) (hf:x.Cells.length<fuel):pI_GridOk fuel x=some (gridOkB x):=by
 unfold pI_GridOk gridOkB
 simp only[pI_isSize_eq,bd_s,pI_areCells_eq hl hf]
 cases hs:isSizeB x.W x.H with
 | false=>simp
 | true=>
  obtain⟨h1,h2,h3,h4,_⟩:=isSizeB_true.1 hs
  have:=mul_small h1 h2 h3 h4
  rw[br_t,gd_t (inK64 (by omega) (by omega))]
  cases((x.Cells.length:Int)==x.W*x.H)<;>simp
theorem pS_GridOk_loop {fuel:Nat} {l:List ICell} (hl:l.length≤9223372036854775807) (hf:l.length<fuel):loopF (pS_GridOk_b1 fuel) fuel (l,(l.length:Int),0)=some (if l.all cellOkB then .inl ()else .inr false):=by
 refine(loopF_any (B:=pS_GridOk_b1 fuel) (fun i=>(l,(l.length:Int),(i:Int))) l (fun x=> !cellOkB x) (.inr false) (.inl ()) (v:=(l,(l.length:Int),0)) rfl (fun i x hx=>by
  obtain⟨h1,h2,h3,h4,h5⟩:=idx_facts hx hl
  unfold pS_GridOk_b1
  simp only[h1,br_t,gd_t h2,h3,bd_s,pS_CellOk_eq,h5,gd_t h4]
  cases cellOkB x<;>rfl) (by
  unfold pS_GridOk_b1
  simp) hf).trans ?_
 rw[List.all_eq_not_any_not]
 cases l.any fun x=> !cellOkB x<;>rfl
theorem pS_GridOk_eq {fuel:Nat} {x:IGrid} (hl:x.Cells.length≤9223372036854775807) (hf:x.Cells.length<fuel):pS_GridOk fuel x=some (gridOkB x):=by
 unfold pS_GridOk gridOkB isSizeB
 by_cases h1:x.W<1
 ·simp[h1,show¬1≤x.W by omega]
 by_cases h2:120<x.W
 ·simp[h1,h2,show¬x.W≤120 by omega]
 by_cases h3:x.H<1
 ·simp[h1,h2,h3,show¬1≤x.H by omega]
 by_cases h4:120<x.H
 ·simp[h1,h2,h3,h4,show¬x.H≤120 by omega]
 have:=mul_small (show 1≤x.W by omega) (show x.W≤120 by omega) (show 1≤x.H by omega) (show x.H≤120 by omega)
 have hk:inK .i64 (x.W*x.H):=inK64 (by omega) (by omega)
 by_cases h5:4000<x.W*x.H
 ·simp[h1,h2,h3,h4,h5,gd_t hk,show¬x.W*x.H≤4000 by omega]
 by_cases h6:(x.Cells.length:Int)=x.W*x.H
 ·simp only[h1,h2,h3,h4,h5,decide_false,br_f,gd_t hk,bd_s,h6,bne_self_eq_false]
  rw[←h6,pS_GridOk_loop hl hf]
  generalize x.Cells.all cellOkB=c
  simp[show 1≤x.W by omega,show x.W≤120 by omega,show 1≤x.H by omega,show x.H≤120 by omega,show x.W*x.H≤4000 by omega,h6]
  cases c<;>rfl
 ·have hb:((x.Cells.length:Int) !=x.W*x.H)=true:=by simp[h6]
  simp[h1,h2,h3,h4,h5,h6,hb,gd_t hk,show 1≤x.W by omega,show x.W≤120 by omega,show 1≤x.H by omega,show x.H≤120 by omega,show x.W*x.H≤4000 by omega]
theorem pI_Grid_has_eq {fuel:Nat} {g:IGrid} {x y:Int} (hg:isSizeB g.W g.H=true):pI_Grid_has fuel g x y=some ((decide (0≤x)&&decide (x≤g.W-1))&&(decide (0≤y)&&decide (y≤g.H-1))):=by
 obtain⟨h1,h2,h3,h4,_⟩:=isSizeB_true.1 hg
 unfold pI_Grid_has
 rw[gd_t (inK64 (by omega) (by omega))]
 simp only[pI_within_eq,bd_s,gd_t (inK64 (v:=g.H-1) (by omega) (by omega))]
 cases(decide (0≤x)&&decide (x≤g.W-1))<;>simp
def ascQ (l : List Int) (lo hi : Int) (i : Nat) (x : Int) : Bool := !(decide (lo ≤ x) && decide (x ≤ hi)) || (match i with
 | 0 => false
 | j + 1 => match l[j]? with
  | some y => decide (x ≤ y)
  | none => false)
def ascB (l:List Int) (lo hi:Int):Bool:= !(l.zipIdx.any fun p=>ascQ l lo hi p.2 p.1)
theorem prev_facts {α:Type} {l:List α} {j:Nat} {x:α} (h:l[j+1]?=some x) (hl:l.length≤9223372036854775807):∃y,l[j]?=some y∧decide ((0:Int)<((j+1:Nat):Int))=true∧inK .i64 (((j+1:Nat):Int)-1)∧((0:Int)≤((j+1:Nat):Int)-1∧((j+1:Nat):Int)-1<(l.length:Int))∧l[(((j+1:Nat):Int)-1).toNat]?=some y:=by
 have hi:=(qS1.1 h).1
 have e:(((j+1:Nat):Int)-1).toNat=j:=by omega
 exact⟨l[j]'(by omega),qE1 (by omega),qT1 (by omega),inK64 (by omega) (by omega),⟨by omega,by omega⟩,by rw[e];exact qE1 (by omega)⟩
theorem pI_isAscending_eq {fuel:Nat} {l:List Int} {lo hi:Int} (hl:l.length≤9223372036854775807) (hf:l.length<fuel):pI_isAscending fuel l lo hi=some (ascB l lo hi):=by
 have h:=loopF_anyI (B:=pI_isAscending_b1 fuel) (fun i=>(l,lo,hi,l,(l.length:Int),(i:Int))) l (ascQ l lo hi) (.inr false) (.inl ()) (v:=(l,lo,hi,l,(l.length:Int),0)) rfl (fun i x hx=>by
  obtain⟨h1,h2,h3,h4,h5⟩:=idx_facts hx hl
  unfold pI_isAscending_b1 ascQ
  simp only[h1,br_t,gd_t h2,h3,bd_s,pI_within_eq]
  cases hw:(decide (lo≤x)&&decide (x≤hi))with
  | false=>simp
  | true=>
   cases i with
   | zero=>simp only[Bool.not_true,br_f];simp[gd_t (inK64 (v:=1) (by omega) (by omega))]
   | succ j=>
    obtain⟨y,p1,p2,p3,p4,p5⟩:=prev_facts hx hl
    simp only[Bool.not_true,br_f,p2,br_t,gd_t p3,gd_t p4,p5,bd_s,p1,Bool.false_or,h5,gd_t h4]
    cases decide (x≤y)<;>rfl) (by
  unfold pI_isAscending_b1
  simp) hf
 unfold pI_isAscending ascB
 rw[h]
 cases l.zipIdx.any fun p=>ascQ l lo hi p.2 p.1<;>rfl
def rowOkB (x:IRow):Bool:=(decide (1≤(x.Cells.length:Int))&&decide ((x.Cells.length:Int)≤120))&&x.Cells.all cellOkB
theorem pI_backOk_1_eq {fuel:Nat} {x:IRow} (hl:x.Cells.length≤9223372036854775807) (hf:x.Cells.length<fuel):pI_backOk_1 fuel x=some (!rowOkB x):=by
 unfold pI_backOk_1 rowOkB
 simp only[pI_within_eq,bd_s,pI_areCells_eq hl hf]
 cases(decide (1≤(x.Cells.length:Int))&&decide ((x.Cells.length:Int)≤120))<;>simp
theorem backOk_loop (fuel:Nat) (l:List IRow) (hl:l.length≤9223372036854775807) (hf:l.length<fuel) (hr:∀x∈l,x.Cells.length≤9223372036854775807∧x.Cells.length<fuel):∃n:Int,pG_slices_IndexFunc_IRow_I_backOk_1 fuel l=some n∧(decide (0≤n)=l.any fun x=> !rowOkB x):=by
 unfold pG_slices_IndexFunc_IRow_I_backOk_1
 rcases loopF_find (B:=pG_slices_IndexFunc_IRow_I_backOk_1_b1 fuel) (fun i=>(l,(l.length:Int),(i:Int))) l (fun x=> !rowOkB x) (fun i=> .inr (i:Int)) (.inl ()) (fuel:=fuel) (v:=(l,(l.length:Int),0)) rfl (fun i x hx=>by
  obtain⟨h1,h2,h3,h4,h5⟩:=idx_facts hx hl
  obtain⟨r1,r2⟩:=hr x (qM1 hx)
  unfold pG_slices_IndexFunc_IRow_I_backOk_1_b1
  simp only[h1,br_t,gd_t h2,h3,bd_s,pI_backOk_1_eq r1 r2,h5,gd_t h4]
  cases rowOkB x<;>rfl) (by
  unfold pG_slices_IndexFunc_IRow_I_backOk_1_b1
  simp) hf with⟨i,x,h1,h2,_,h3⟩ |⟨h1,h2⟩
 ·refine⟨i,by rw[h3];rfl,?_⟩
  have:(l.any fun x=> !rowOkB x)=true:=List.any_eq_true.2 ⟨x,qM1 h1,h2⟩
  rw[this];simp
 ·refine⟨-1,by rw[h2];rfl,?_⟩
  have:(l.any fun x=> !rowOkB x)=false:=List.any_eq_false.2 fun x hx=>by rw[h1 x hx];simp
  rw[this];rfl
theorem pI_backOk_eq {fuel:Nat} {l:List IRow} {n:Int} (hl:l.length≤9223372036854775807) (hf:l.length<fuel) (hr:∀x∈l,x.Cells.length≤9223372036854775807∧x.Cells.length<fuel):pI_backOk fuel l n=some (decide ((l.length:Int)≤n)&&l.all rowOkB):=by
 obtain⟨m,h1,h2⟩:=backOk_loop fuel l hl hf hr
 unfold pI_backOk pG_slices_ContainsFunc_IRow_I_backOk_1
 simp only[h1,bd_s,h2]
 rw[List.all_eq_not_any_not]
 cases decide ((l.length:Int)≤n)<;>simp
theorem pS_l09Row_eq {fuel:Nat} {x:IRow} (hl:x.Cells.length≤9223372036854775807) (hf:x.Cells.length<fuel):pS_l09Row fuel x=some (rowOkB x):=by
 have h:=loopF_any (B:=pS_l09Row_b1 fuel) (fun i=>(x,x.Cells,(x.Cells.length:Int),(i:Int))) x.Cells (fun c=> !cellOkB c) (.inr false) (.inl x) (v:=(x,x.Cells,(x.Cells.length:Int),0)) rfl (fun i c hx=>by
  obtain⟨h1,h2,h3,h4,h5⟩:=idx_facts hx hl
  unfold pS_l09Row_b1
  simp only[h1,br_t,gd_t h2,h3,bd_s,pS_CellOk_eq,h5,gd_t h4]
  cases cellOkB c<;>rfl) (by
  unfold pS_l09Row_b1
  simp) hf
 unfold pS_l09Row rowOkB
 rw[h,List.all_eq_not_any_not]
 cases(x.Cells.any fun c=> !cellOkB c)<;>by_cases h1:1≤(x.Cells.length:Int)<;>simp[h1]
theorem pS_back_loop {fuel:Nat} {l:List IRow} (hl:l.length≤9223372036854775807) (hf:l.length<fuel) (hr:∀x∈l,x.Cells.length≤9223372036854775807∧x.Cells.length<fuel):loopF (pS_ScrOk_b2 fuel) fuel (l,(l.length:Int),0)=some (if l.all rowOkB then .inl ()else .inr false):=by
 refine(loopF_any (B:=pS_ScrOk_b2 fuel) (fun i=>(l,(l.length:Int),(i:Int))) l (fun x=> !rowOkB x) (.inr false) (.inl ()) (v:=(l,(l.length:Int),0)) rfl (fun i x hx=>by
  obtain⟨h1,h2,h3,h4,h5⟩:=idx_facts hx hl
  obtain⟨r1,r2⟩:=hr x (qM1 hx)
  unfold pS_ScrOk_b2
  simp only[h1,br_t,gd_t h2,h3,bd_s,pS_l09Row_eq r1 r2,h5,gd_t h4]
  cases rowOkB x<;>rfl) (by
  unfold pS_ScrOk_b2
  simp) hf).trans ?_
 rw[List.all_eq_not_any_not]
 cases l.any fun x=> !rowOkB x<;>rfl
theorem pS_tabs_loop {fuel:Nat} {s:IScr} (hl:s.Tabs.length≤9223372036854775807) (hf:s.Tabs.length<fuel):loopF (pS_ScrOk_b1 fuel) fuel (s,s.Tabs,(s.Tabs.length:Int),0)=some (if ascB s.Tabs 0 (s.W-1)then .inl s else .inr false):=by
 have h:=loopF_anyI (B:=pS_ScrOk_b1 fuel) (fun i=>(s,s.Tabs,(s.Tabs.length:Int),(i:Int))) s.Tabs (ascQ s.Tabs 0 (s.W-1)) (.inr false) (.inl s) (v:=(s,s.Tabs,(s.Tabs.length:Int),0)) rfl (fun i x hx=>by
  obtain⟨h1,h2,h3,h4,h5⟩:=idx_facts hx hl
  unfold pS_ScrOk_b1 ascQ
  simp only[h1,br_t,gd_t h2,h3,bd_s]
  by_cases w1:x<0
  ·simp[w1,show¬0≤x by omega]
  by_cases w2:s.W≤x
  ·simp[w1,w2,show¬x≤s.W-1 by omega]
  have w3:(decide (0≤x)&&decide (x≤s.W-1))=true:=by simp;omega
  cases i with
  | zero=>simp only[w1,w2,w3,decide_false,br_f];simp[gd_t (inK64 (v:=1) (by omega) (by omega))]
  | succ j=>
   obtain⟨y,p1,p2,p3,p4,p5⟩:=prev_facts hx hl
   simp only[w1,w2,w3,decide_false,br_f,p2,br_t,gd_t p3,gd_t p4,p5,bd_s,p1,Bool.not_true,Bool.false_or,h5,gd_t h4]
   cases decide (x≤y)<;>rfl) (by
  unfold pS_ScrOk_b1
  simp) hf
 rw[h]
 unfold ascB
 cases s.Tabs.zipIdx.any fun p=>ascQ s.Tabs 0 (s.W-1) p.2 p.1<;>rfl
def hasB (w h x y:Int):Bool:=(decide (0≤x)&&decide (x≤w-1))&&(decide (0≤y)&&decide (y≤h-1))
def gridsB (s:IScr):Bool:=[s.Main,s.Alt].all fun g=>gridOkB g&&((g.W==s.W)&&(g.H==s.H))
def scrRestB (s:IScr):Bool:=
 hasB s.W s.H s.X s.Y&&(hasB s.W s.H s.SaveX s.SaveY&&((!s.Wrap||s.X==s.W-1)&&(attrOkB s.A&&(attrOkB s.SaveA&&(decide (0≤s.Top)&&(decide (s.Top≤s.Bot)&&(decide (s.Bot<s.H)&&((!(s.Top==s.Bot)||s.H==1) &&
 (ascB s.Tabs 0 (s.W-1)&&((decide (0≤s.Limit)&&decide (s.Limit≤100))&&(decide ((s.Back.length:Int)≤s.Limit)&&s.Back.all rowOkB)))))))))))
def scrOkB (s:IScr):Bool:=gridsB s&&scrRestB s
structure ScrF (fuel:Nat) (s:IScr):Prop where
 m:s.Main.Cells.length≤9223372036854775807∧s.Main.Cells.length<fuel
 a:s.Alt.Cells.length≤9223372036854775807∧s.Alt.Cells.length<fuel
 t:s.Tabs.length≤9223372036854775807∧s.Tabs.length<fuel
 b:s.Back.length≤9223372036854775807∧s.Back.length<fuel
 r:∀x∈s.Back,x.Cells.length≤9223372036854775807∧x.Cells.length<fuel
 f:2<fuel
theorem pI_grids_loop {fuel:Nat} {s:IScr} (hf:ScrF fuel s):loopF (pI_ScrOk_b1 fuel) fuel (s,[s.Main,s.Alt],((2:Nat):Int),0)=some (if gridsB s then .inl s else .inr false):=by
 have h:=loopF_any (B:=pI_ScrOk_b1 fuel) (fun i=>(s,[s.Main,s.Alt],((2:Nat):Int),(i:Int))) [s.Main,s.Alt] (fun g=> !(gridOkB g&&((g.W==s.W)&&(g.H==s.H)))) (.inr false) (.inl s) (v:=(s,[s.Main,s.Alt],((2:Nat):Int),0)) rfl (fun i g hx=>by
  obtain⟨h1,h2,h3,h4,h5⟩:=idx_facts hx (by simp)
  have h1:decide ((i:Int)<((2:Nat):Int))=true:=h1
  have h3:[s.Main,s.Alt][0+(i:Int).toNat]?=some g:=by rw[Nat.zero_add];exact h3
  have hg:pI_GridOk fuel g=some (gridOkB g):=by
   have hm:=qM1 hx
   simp at hm
   rcases hm with rfl|rfl
   ·exact pI_GridOk_eq hf.m.1 hf.m.2
   ·exact pI_GridOk_eq hf.a.1 hf.a.2
  unfold pI_ScrOk_b1
  simp only[h1,br_t,gd_t h2,h3,bd_s,hg]
  cases gridOkB g
  ·simp
  ·cases hw:(g.W==s.W)
   ·simp[bne,hw]
   ·cases hh:(g.H==s.H)
    ·simp[bne,hw,hh]
    ·simp only[bne,hw,hh,Bool.not_true,br_f,bd_s,h5,gd_t h4];rfl) (by
  unfold pI_ScrOk_b1
  simp) hf.f
 rw[h]
 unfold gridsB
 rw[List.all_eq_not_any_not]
 cases([s.Main,s.Alt].any fun g=> !(gridOkB g&&((g.W==s.W)&&(g.H==s.H))))<;>rfl
theorem gridsB_size {s:IScr} (h:gridsB s=true):isSizeB s.W s.H=true∧s.Main.W=s.W∧s.Main.H=s.H∧s.Alt.W=s.W∧s.Alt.H=s.H∧gridOkB s.Main=true∧gridOkB s.Alt=true:=by
 unfold gridsB at h
 simp at h
 obtain⟨⟨h1,h2,h3⟩,h4,h5,h6⟩:=h
 refine⟨?_,h2,h3,h5,h6,h1,h4⟩
 unfold gridOkB at h1
 rw[Bool.and_eq_true]at h1
 rw[←h2,←h3];exact h1.1
theorem pI_ScrOk_eq {fuel:Nat} {s:IScr} (hf:ScrF fuel s):pI_ScrOk fuel s=some (scrOkB s):=by
 unfold pI_ScrOk scrOkB
 have:=pI_grids_loop hf
 rw[show((↑2:Int))=((2:Nat):Int)from rfl]at *
 rw[this]
 cases hg:gridsB s with
 | false=>rfl
 | true=>
  obtain⟨z,e1,e2,e3,e4,g1,g2⟩:=gridsB_size hg
  obtain⟨z1,z2,z3,z4,_⟩:=isSizeB_true.1 z
  have zm:isSizeB s.Main.W s.Main.H=true:=by rw[e1,e2];exact z
  have k1:inK .i64 (s.W-1):=inK64 (by omega) (by omega)
  simp only[if_true,jn_l,pI_Grid_has_eq zm,e1,e2,bd_s,pI_AttrOk_eq,gd_t k1,pI_isAscending_eq hf.t.1 hf.t.2,pI_within_eq,pI_backOk_eq hf.b.1 hf.b.2 hf.r,Bool.true_and,br_ss,br_pp]
  unfold scrRestB
  rw[show((decide (0≤s.X)&&decide (s.X≤s.W-1))&&(decide (0≤s.Y)&&decide (s.Y≤s.H-1)))=hasB s.W s.H s.X s.Y from rfl,show((decide (0≤s.SaveX)&&decide (s.SaveX≤s.W-1))&&(decide (0≤s.SaveY)&&decide (s.SaveY≤s.H-1)))=hasB s.W s.H s.SaveX s.SaveY from rfl]
  generalize hasB s.W s.H s.X s.Y=p1
  generalize hasB s.W s.H s.SaveX s.SaveY=p2
  generalize attrOkB s.A=p4
  generalize attrOkB s.SaveA=p5
  generalize ascB s.Tabs 0 (s.W-1)=p10
  generalize (decide ((s.Back.length:Int)≤s.Limit)&&s.Back.all rowOkB)=p12
  generalize (decide (0≤s.Limit)&&decide (s.Limit≤100))=p11
  simp only[bne]
  generalize (s.X==s.W-1)=p3
  generalize (s.H==1)=p9
  generalize (s.Top==s.Bot)=p13
  cases p1;· simp
  cases p2;· simp
  have q6:decide (s.Top<0)= !decide (0≤s.Top):=by by_cases h:0≤s.Top<;>simp[h]<;>omega
  have q7:decide (s.Bot<s.Top)= !decide (s.Top≤s.Bot):=by by_cases h:s.Top≤s.Bot<;>simp[h]<;>omega
  have q8:decide (s.H≤s.Bot)= !decide (s.Bot<s.H):=by by_cases h:s.Bot<s.H<;>simp[h]<;>omega
  rw[q6,q7,q8]
  generalize decide (0≤s.Top)=p6
  generalize decide (s.Top≤s.Bot)=p7
  generalize decide (s.Bot<s.H)=p8
  generalize s.Wrap=wr
  cases wr<;>cases p3<;>cases p4<;>cases p5<;>cases p6<;>cases p7<;>cases p8<;>cases p13<;>cases p9<;>cases p10<;>cases p11<;>rfl
theorem pS_ScrOk_eq {fuel:Nat} {s:IScr} (hf:ScrF fuel s):pS_ScrOk fuel s=some (scrOkB s):=by
 unfold pS_ScrOk scrOkB
 simp only[pS_GridOk_eq hf.m.1 hf.m.2,pS_GridOk_eq hf.a.1 hf.a.2,bd_s,br_ss,br_pp]
 have hx:(br (!gridOkB s.Main) true (br (!gridOkB s.Alt) true (br (s.Main.W !=s.W) true (br (s.Main.H !=s.H) true (br (s.Alt.W !=s.W) true (s.Alt.H !=s.H))))))= !gridsB s:=by
  unfold gridsB
  simp only[List.all_cons,List.all_nil,bne]
  cases gridOkB s.Main<;>cases gridOkB s.Alt<;>cases(s.Main.W==s.W)<;>cases(s.Main.H==s.H)<;>cases(s.Alt.W==s.W)<;>cases(s.Alt.H==s.H)<;>rfl
 rw[hx]
 cases hg:gridsB s with
 | false=>rfl
 | true=>
  obtain⟨z,-⟩:=gridsB_size hg
  obtain⟨z1,z2,z3,z4,_⟩:=isSizeB_true.1 z
  have k1:inK .i64 (s.W-1):=inK64 (by omega) (by omega)
  simp only[Bool.not_true,br_f,gd_t k1,pS_AttrOk_eq,bd_s,br_ss,br_pp,pS_tabs_loop hf.t.1 hf.t.2,Bool.true_and]
  unfold scrRestB hasB
  have n1:∀x:Int,decide (x<0)= !decide (0≤x):=fun x=>by by_cases h:0≤x<;>simp[h]<;>omega
  have n2:∀x:Int,decide (s.W≤x)= !decide (x≤s.W-1):=fun x=>by by_cases h:x≤s.W-1<;>simp[h]<;>omega
  have n3:∀x:Int,decide (s.H≤x)= !decide (x≤s.H-1):=fun x=>by by_cases h:x≤s.H-1<;>simp[h]<;>omega
  have n4:decide (s.Bot<s.Top)= !decide (s.Top≤s.Bot):=by by_cases h:s.Top≤s.Bot<;>simp[h]<;>omega
  have n5:decide (s.Bot<s.H)=decide (s.Bot≤s.H-1):=by by_cases h:s.Bot<s.H<;>simp[h]<;>omega
  have n6:decide (100<s.Limit)= !decide (s.Limit≤100):=by by_cases h:s.Limit≤100<;>simp[h]<;>omega
  have n7:decide (s.Limit<(s.Back.length:Int))= !decide ((s.Back.length:Int)≤s.Limit):=by by_cases h:(s.Back.length:Int)≤s.Limit<;>simp[h]<;>omega
  simp only[n1,n2,n3,n4,n5,n6,n7,bne]
  generalize decide (0≤s.X)=a1
  generalize decide (s.X≤s.W-1)=a2
  generalize decide (0≤s.Y)=a3
  generalize decide (s.Y≤s.H-1)=a4
  generalize decide (0≤s.SaveX)=a5
  generalize decide (s.SaveX≤s.W-1)=a6
  generalize decide (0≤s.SaveY)=a7
  generalize decide (s.SaveY≤s.H-1)=a8
  generalize attrOkB s.A=b1
  generalize attrOkB s.SaveA=b2
  generalize (s.X==s.W-1)=b3
  generalize (s.H==1)=b4
  generalize (s.Top==s.Bot)=b5
  generalize decide (0≤s.Top)=b6
  generalize decide (s.Top≤s.Bot)=b7
  generalize decide (s.Bot≤s.H-1)=b8
  generalize decide (0≤s.Limit)=b9
  generalize decide (s.Limit≤100)=c1
  generalize decide ((s.Back.length:Int)≤s.Limit)=c2
  generalize ascB s.Tabs 0 (s.W-1)=c3
  have e1:(br (!a1) true (br (!a2) true (br (!a3) true (br (!a4) true (br s.Wrap (br (!b3) true (br (!a5) true (br (!a6) true (br (!a7) true (br (!a8) true (br (!b1) true (!b2))))))) (br (!a5) true (br (!a6) true (br (!a7) true (br (!a8) true (br (!b1) true (!b2)))))))))))
    = !(((a1&&a2)&&(a3&&a4))&&(((a5&&a6)&&(a7&&a8))&&((!s.Wrap||b3)&&(b1&&b2)))):=by
   generalize s.Wrap=w
   cases a1<;>cases a2<;>cases a3<;>cases a4<;>try rfl
   cases w<;>cases b3<;>cases a5<;>cases a6<;>cases a7<;>cases a8<;>cases b1<;>rfl
  rw[e1]
  generalize ((!s.Wrap||b3))=w
  have e2:(((a1&&a2)&&(a3&&a4))&&(((a5&&a6)&&(a7&&a8))&&(w&&(b1&&(b2&&(b6&&(b7&&(b8&&((!b5||b4)&&(c3&&((b9&&c1)&&(c2&&s.Back.all rowOkB))))))))))))=((((a1&&a2)&&(a3&&a4))&&(((a5&&a6)&&(a7&&a8))&&(w&&(b1&&b2))))&&((b6&&(b7&&(b8&&((!b5||b4)&&(b9&&(c1&&c2))))))&&(c3&&s.Back.all rowOkB))):=by
   simp only[Bool.and_assoc]
   cases c3<;>cases b9<;>cases c1<;>cases c2<;>simp
  rw[e2]
  generalize (((a1&&a2)&&(a3&&a4))&&(((a5&&a6)&&(a7&&a8))&&(w&&(b1&&b2))))=m
  cases m;· rfl
  simp only[Bool.not_true,br_f,bd_s,br_ss,br_pp]
  have e3:(br (!b6) true (br (!b8) true (br (!b7) true (br b5 (br (!b4) true (br (!b9) true (br (!c1) true (!c2)))) (br (!b9) true (br (!c1) true (!c2)))))))= !(b6&&(b7&&(b8&&((!b5||b4)&&(b9&&(c1&&c2)))))):=by
   cases b6<;>cases b8<;>cases b7<;>cases b5<;>cases b4<;>cases b9<;>cases c1<;>rfl
  rw[e3]
  generalize (b6&&(b7&&(b8&&((!b5||b4)&&(b9&&(c1&&c2))))))=m2
  cases m2;· rfl
  simp only[Bool.not_true,br_f,bd_s]
  cases c3;· rfl
  simp only[if_true,jn_l,pS_back_loop hf.b.1 hf.b.2 hf.r]
  cases s.Back.all rowOkB<;>rfl
theorem cmpN_eq {α β:Type} {l:List α} {x y:Option β} {r:β} (hy:y=some r) (hx:l=[]→x=some r):cmpN l x y=some r:=by
 unfold cmpN
 cases l with
 | nil=>rw[hx rfl,hy];simp
 | cons a l=>simp[hy]
theorem clone_int {fuel:Nat} {l:List Int} (h:roomB K.int l.length):pG_slices_Clone_int fuel l=some l:=by
 unfold pG_slices_Clone_int
 refine cmpN_eq (by rw[List.nil_append,gd_t h]) fun e=>by rw[e]
theorem hasInt_eq {fuel:Nat} {l:List Int} {n:Int} (hl:l.length≤9223372036854775807) (hf:l.length<fuel):pS_l02HasInt fuel l n=some (l.any fun x=>x==n):=by
 have h:=loopF_any (B:=pS_l02HasInt_b1 fuel) (fun i=>(n,l,(l.length:Int),(i:Int))) l (fun x=>x==n) (.inr true) (.inl ()) (v:=(n,l,(l.length:Int),0)) rfl (fun i x hx=>by
  obtain⟨h1,h2,h3,h4,h5⟩:=idx_facts hx hl
  unfold pS_l02HasInt_b1
  simp only[h1,br_t,gd_t h2,h3,bd_s,h5,gd_t h4]
  cases x==n<;>rfl) (by
  unfold pS_l02HasInt_b1
  simp) hf
 unfold pS_l02HasInt
 rw[h]
 cases l.any fun x=>x==n<;>rfl
def argB (x:Int):Bool:=decide (0≤x)&&decide (x≤9999)
theorem areArgs_loop (fuel:Nat) (l:List Int) (hl:l.length≤9223372036854775807) (hf:l.length<fuel):∃n:Int,pG_slices_IndexFunc_int_I_areArgs_1 fuel l=some n∧(decide (0≤n)=l.any fun x=> !argB x):=by
 unfold pG_slices_IndexFunc_int_I_areArgs_1
 rcases loopF_find (B:=pG_slices_IndexFunc_int_I_areArgs_1_b1 fuel) (fun i=>(l,(l.length:Int),(i:Int))) l (fun x=> !argB x) (fun i=> .inr (i:Int)) (.inl ()) (fuel:=fuel) (v:=(l,(l.length:Int),0)) rfl (fun i x hx=>by
  obtain⟨h1,h2,h3,h4,h5⟩:=idx_facts hx hl
  unfold pG_slices_IndexFunc_int_I_areArgs_1_b1 pI_areArgs_1 argB
  simp only[h1,br_t,gd_t h2,h3,bd_s,pI_within_eq,h5,gd_t h4]
  cases(decide (0≤x)&&decide (x≤9999))<;>rfl) (by
  unfold pG_slices_IndexFunc_int_I_areArgs_1_b1
  simp) hf with⟨i,x,h1,h2,_,h3⟩ |⟨h1,h2⟩
 ·refine⟨i,by rw[h3];rfl,?_⟩
  have:(l.any fun x=> !argB x)=true:=List.any_eq_true.2 ⟨x,qM1 h1,h2⟩
  rw[this];simp
 ·refine⟨-1,by rw[h2];rfl,?_⟩
  have:(l.any fun x=> !argB x)=false:=List.any_eq_false.2 fun x hx=>by rw[h1 x hx];simp
  rw[this];rfl
theorem pI_areArgs_eq {fuel:Nat} {l:List Int} (hl:l.length≤9223372036854775807) (hf:l.length<fuel):pI_areArgs fuel l=some (decide ((l.length:Int)≤8)&&l.all argB):=by
 obtain⟨n,h1,h2⟩:=areArgs_loop fuel l hl hf
 unfold pI_areArgs pG_slices_ContainsFunc_int_I_areArgs_1
 simp only[h1,bd_s,h2]
 rw[List.all_eq_not_any_not]
 cases decide ((l.length:Int)≤8)<;>simp
theorem pS_args_loop {fuel:Nat} {s:IVp} (hl:s.Args.length≤9223372036854775807) (hf:s.Args.length<fuel):loopF (pS_VpOk_b1 fuel) fuel (s,s.Args,(s.Args.length:Int),0)=some (if s.Args.all argB then .inl s else .inr false):=by
 refine(loopF_any (B:=pS_VpOk_b1 fuel) (fun i=>(s,s.Args,(s.Args.length:Int),(i:Int))) s.Args (fun x=> !argB x) (.inr false) (.inl s) (v:=(s,s.Args,(s.Args.length:Int),0)) rfl (fun i x hx=>by
  obtain⟨h1,h2,h3,h4,h5⟩:=idx_facts hx hl
  unfold pS_VpOk_b1 argB
  simp only[h1,br_t,gd_t h2,h3,bd_s,br_ss,br_pp]
  by_cases w1:x<0
  ·simp[w1,show¬0≤x by omega]
  by_cases w2:9999<x
  ·simp[w1,w2,show¬x≤9999 by omega]
  simp only[w1,w2,decide_false,br_f,h5,gd_t h4]
  simp[show 0≤x by omega,show x≤9999 by omega]) (by
  unfold pS_VpOk_b1
  simp) hf).trans ?_
 rw[List.all_eq_not_any_not]
 cases s.Args.any fun x=> !argB x<;>rfl
def vpOkB (s:IVp) (b:Bool):Bool:=
 if s.State=0 then !s.Mark&&(((s.Args.length:Int)==0)&&(((s.Part.length:Int)==0)||b))
 else if s.State=1 then !s.Mark&&(((s.Args.length:Int)==0)&&((s.Part.length:Int)==0))
 else if s.State=2∨s.State=3 then(decide ((s.Args.length:Int)≤8)&&s.Args.all argB)&&((s.Part.length:Int)==0)
 else false
theorem pI_VpOk_eq {fuel:Nat} {s:IVp} {b:Bool} (hl:s.Args.length≤9223372036854775807) (hf:s.Args.length<fuel) (hb:pI_RuneBegin fuel s.Part=some b):pI_VpOk fuel s=some (vpOkB s b):=by
 unfold pI_VpOk vpOkB
 simp only[hb,pI_areArgs_eq hl hf,bd_s,br_ss,br_pp]
 by_cases h0:s.State=0
 ·simp only[h0,if_true]
  cases s.Mark<;>cases((s.Args.length:Int)==0)<;>cases((s.Part.length:Int)==0)<;>cases b<;>rfl
 by_cases h1:s.State=1
 ·simp only[h1]
  cases s.Mark<;>cases((s.Args.length:Int)==0)<;>cases((s.Part.length:Int)==0)<;>rfl
 by_cases h2:s.State=2
 ·simp only[h2]
  generalize (decide ((s.Args.length:Int)≤8)&&s.Args.all argB)=c
  cases c<;>cases((s.Part.length:Int)==0)<;>rfl
 by_cases h3:s.State=3
 ·simp only[h3]
  generalize (decide ((s.Args.length:Int)≤8)&&s.Args.all argB)=c
  cases c<;>cases((s.Part.length:Int)==0)<;>rfl
 ·have e0:(s.State==0)=false:=by simp[h0]
  have e1:(s.State==1)=false:=by simp[h1]
  have e2:(s.State==2)=false:=by simp[h2]
  have e3:(s.State==3)=false:=by simp[h3]
  simp[e0,e1,e2,e3,h0,h1,h2,h3]
theorem pS_VpOk_eq {fuel:Nat} {s:IVp} {b:Bool} (hl:s.Args.length≤9223372036854775807) (hf:s.Args.length<fuel) (hb:pS_RuneBegin fuel s.Part=some b):pS_VpOk fuel s=some (vpOkB s b):=by
 unfold pS_VpOk vpOkB pS_l08Keeps
 simp only[hb,bd_s,br_ss,br_pp]
 by_cases a0:s.State<0
 ·simp[a0,show¬s.State=0 by omega,show¬s.State=1 by omega,show¬s.State=2 by omega,show¬s.State=3 by omega]
 by_cases a3:3<s.State
 ·simp[a0,a3,show¬s.State=0 by omega,show¬s.State=1 by omega,show¬s.State=2 by omega,show¬s.State=3 by omega]
 have hn:decide (0<(s.Args.length:Int))= !((s.Args.length:Int)==0):=by
  cases hs:s.Args<;>simp
  omega
 have h8:decide (8<(s.Args.length:Int))= !decide ((s.Args.length:Int)≤8):=by by_cases h:(s.Args.length:Int)≤8<;>simp[h]<;>omega
 rw[hn,h8]
 have he:((s.Args.length:Int)==0)=true→s.Args.all argB=true∧decide ((s.Args.length:Int)≤8)=true:=fun h=>by
  have:s.Args=[]:=by
   cases hs:s.Args with
   | nil=>rfl
   | cons a l=>rw[hs]at h;simp at h;omega
  rw[this];simp
 have hc:s.State=0∨s.State=1∨s.State=2∨s.State=3:=by omega
 simp only[a0,a3,decide_false,br_f,br_ss,br_pp,bd_s,pS_args_loop hl hf]
 cases hL:((s.Args.length:Int)==0)with
 | true=>
  obtain⟨e1,e2⟩:=he hL
  rw[e1,e2]
  rcases hc with h|h|h|h<;>simp only[h]<;>cases s.Mark<;>cases hp:((s.Part.length:Int)==0)<;>cases b<;>simp[pS_args_loop hl hf,e1,h,hp,hb]
 | false=>
  rcases hc with h|h|h|h<;>simp only[h]<;>cases s.Mark<;>cases hp:((s.Part.length:Int)==0)<;>cases hz:decide ((s.Args.length:Int)≤8)<;>cases hy:s.Args.all argB<;>simp[pS_args_loop hl hf,hy,h,hp,hb]
def termOkB (x:ITerm) (b:Bool):Bool:=vpOkB x.P b&&scrOkB x.S
theorem pI_TermOk_eq {fuel:Nat} {x:ITerm} {b:Bool} (hl:x.P.Args.length≤9223372036854775807) (hf:x.P.Args.length<fuel) (hs:ScrF fuel x.S) (hb:pI_RuneBegin fuel x.P.Part=some b):pI_TermOk fuel x=some (termOkB x b):=by
 unfold pI_TermOk termOkB
 rw[pI_VpOk_eq hl hf hb,bd_s,pI_ScrOk_eq hs,bd_s]
 cases vpOkB x.P b<;>rfl
theorem pS_TermOk_eq {fuel:Nat} {x:ITerm} {b:Bool} (hl:x.P.Args.length≤9223372036854775807) (hf:x.P.Args.length<fuel) (hs:ScrF fuel x.S) (hb:pS_RuneBegin fuel x.P.Part=some b):pS_TermOk fuel x=some (termOkB x b):=by
 unfold pS_TermOk termOkB
 rw[pS_VpOk_eq hl hf hb,bd_s,pS_ScrOk_eq hs,bd_s]
 cases vpOkB x.P b<;>rfl
def lifeB (x:IPane):Bool:=
 if x.Life=1 then(decide (1≤x.Pid)&&decide (x.Pid≤1000000))&&(x.Code==0)
 else if x.Life=2 then(x.Pid==0)&&(decide (0≤x.Code)&&decide (x.Code≤255))
 else if x.Life=3 then(x.Pid==0)&&(x.Code==0)else false
def paneOkB (x:IPane) (b:Bool):Bool:=(decide (1≤x.Id)&&decide (x.Id≤1000000))&&(decide ((x.Cmd.size:Int)≤60)&&(decide ((x.Dir.size:Int)≤60)&&(termOkB x.Term b&&lifeB x)))
theorem pI_PaneOk_eq {fuel:Nat} {x:IPane} {b:Bool} (ht:pI_TermOk fuel x.Term=some (termOkB x.Term b)):pI_PaneOk fuel x=some (paneOkB x b):=by
 unfold pI_PaneOk paneOkB lifeB
 simp only[pI_isId_eq,pI_isCmd_eq,ht,bd_s,br_ss,br_pp,pI_within_eq]
 cases(decide (1≤x.Id)&&decide (x.Id≤1000000))<;>cases decide ((x.Cmd.size:Int)≤60)<;>cases decide ((x.Dir.size:Int)≤60)<;>cases termOkB x.Term b<;>try rfl
 by_cases h1:x.Life=1
 ·simp only[h1]
  cases(decide (1≤x.Pid)&&decide (x.Pid≤1000000))<;>rfl
 by_cases h2:x.Life=2
 ·simp only[h2]
  cases(decide (0≤x.Code)&&decide (x.Code≤255))<;>cases(x.Pid==0)<;>rfl
 by_cases h3:x.Life=3
 ·simp only[h3]
  cases(x.Code==0)<;>cases(x.Pid==0)<;>rfl
 ·have e1:(x.Life==1)=false:=by simp[h1]
  have e2:(x.Life==2)=false:=by simp[h2]
  have e3:(x.Life==3)=false:=by simp[h3]
  simp[e1,e2,e3,h1,h2,h3]
theorem pS_PaneOk_eq {fuel:Nat} {x:IPane} {b:Bool} (ht:pS_TermOk fuel x.Term=some (termOkB x.Term b)):pS_PaneOk fuel x=some (paneOkB x b):=by
 unfold pS_PaneOk paneOkB lifeB
 have n1:decide (x.Id<1)= !decide (1≤x.Id):=by by_cases h:1≤x.Id<;>simp[h]<;>omega
 have n2:decide (1000000<x.Id)= !decide (x.Id≤1000000):=by by_cases h:x.Id≤1000000<;>simp[h]<;>omega
 have n3:decide (60<(x.Cmd.size:Int))= !decide ((x.Cmd.size:Int)≤60):=by by_cases h:(x.Cmd.size:Int)≤60<;>simp[h]<;>omega
 have n4:decide (60<(x.Dir.size:Int))= !decide ((x.Dir.size:Int)≤60):=by by_cases h:(x.Dir.size:Int)≤60<;>simp[h]<;>omega
 simp only[n1,n2,n3,n4,ht,bd_s,br_ss,br_pp]
 cases decide (1≤x.Id)<;>cases decide (x.Id≤1000000)<;>cases decide ((x.Cmd.size:Int)≤60)<;>cases decide ((x.Dir.size:Int)≤60)<;>cases termOkB x.Term b<;>try rfl
 by_cases h1:x.Life=1
 ·simp only[h1]
  cases decide (1≤x.Pid)<;>cases decide (x.Pid≤1000000)<;>rfl
 by_cases h2:x.Life=2
 ·simp only[h2]
  cases decide (0≤x.Code)<;>cases decide (x.Code≤255)<;>cases(x.Pid==0)<;>rfl
 by_cases h3:x.Life=3
 ·simp only[h3]
  cases(x.Code==0)<;>cases(x.Pid==0)<;>rfl
 ·have e1:(x.Life==1)=false:=by simp[h1]
  have e2:(x.Life==2)=false:=by simp[h2]
  have e3:(x.Life==3)=false:=by simp[h3]
  simp[e1,e2,e3,h1,h2,h3]
end Go.Px
