/- What a call may hold, as plain values and a store: a small machine over them, the functions of this program as its contracts, and the plain laws: texts QT2 to QT5. -/
import Derived.Test.YtaeepiblggcjpaaGreatDoorQE
import Derived.Test.YtaeepiblggcjpaaGreatDoorQD
set_option linter.unusedSimpArgs false
set_option linter.unusedVariables false
set_option linter.constructorNameAsVariable false
namespace Go.Px
variable {F i m n:Nat} {t:ITable} {x:LState} {α:Type} {o:IOp} {s:ISrv}
theorem room_int (h:n<=4000000):roomB K.int n:=by
 refine⟨by omega,?_⟩
 show n*byt K.int<=_
 have:byt K.int=8:=rfl
 rw[this];omega
def panesTo (t:ITable) (i:Nat):List Int:=(t.Live.take i).map (·.Pane)
theorem panes_any (t:ITable) (i:Nat) (x:IProc):((panesTo t i).any fun n=>n==x.Pane)=seenB t i x:=by
 unfold panesTo seenB
 rw[List.any_map]
 rfl
theorem panes_next {x:IProc} (hx:t.Live[i]?=some x):panesTo t i++ [x.Pane]=panesTo t (i+1):=by
 unfold panesTo
 have hi:=(qS1.1 hx).1
 have e:t.Live.take (i+1)=t.Live.take i++ [x]:=by
  rw[List.take_add_one,hx];rfl
 rw[e,List.map_append];rfl
theorem pS_TableOk_step {fuel:Nat} (hl:t.Live.length<=2000000) (hf:t.Live.length<fuel) {x:IProc} (hx:t.Live[i]?=some x) :
  pS_TableOk_b1 fuel (t,panesTo t i,t.Live,(t.Live.length:Int),(i:Int))=if badT t i x then some (.inr (.inr false))else some (.inl (t,panesTo t (i+1),t.Live,(t.Live.length:Int),((i+1:Nat):Int))):=by
 obtain⟨h1,h2,h3,h4,h5⟩:=idx_facts hx (by omega)
 have hplen:(panesTo t i).length<=t.Live.length:=by unfold panesTo;simp;omega
 have hk:pS_l02HasInt fuel (panesTo t i) x.Pane=some (seenB t i x):=by
  rw[hasInt_eq (by omega) (by omega),panes_any]
 unfold pS_TableOk_b1
 simp only[h1,br_t,gd_t h2,h3,bd_s,hk]
 unfold badT
 have hfin:∀c:Bool,(br c (some (.inr (.inr false))) (gd (roomB K.int (panesTo t i++ [x.Pane]).length) (gd (inK IntKind.i64 ((i:Int)+1)) (some (.inl (t,panesTo t i++ [x.Pane],t.Live,(t.Live.length:Int),(i:Int)+1))))):Option ((ITable×List Int×List IProc×Int×Int)⊕(ITable⊕Bool)))=if c then some (.inr (.inr false))else some (.inl (t,panesTo t (i+1),t.Live,(t.Live.length:Int),((i+1:Nat):Int))):=by
  intro c
  rw[gd_t (room_int (by rw[List.length_append];simp;omega)),h5,gd_t h4,panes_next hx]
  cases c<;>rfl
 have n1:decide (x.Pid<1)= !decide (1<=x.Pid):=by by_cases h:1<=x.Pid<;>simp[h]<;>omega
 have n2:decide (t.Next<=x.Pid)= !decide (x.Pid<t.Next):=by by_cases h:x.Pid<t.Next<;>simp[h]<;>omega
 have n3:decide (x.Pane<1)= !decide (1<=x.Pane):=by by_cases h:1<=x.Pane<;>simp[h]<;>omega
 have n4:decide (1000000<x.Pane)= !decide (x.Pane<=1000000):=by by_cases h:x.Pane<=1000000<;>simp[h]<;>omega
 simp only[n1,n2,n3,n4]
 have e:(isIdB x.Pane)=(decide (1<=x.Pane)&&decide (x.Pane<=1000000)):=rfl
 rw[e]
 cases decide (1<=x.Pid)with
 | false=>simp only[Bool.not_false,br_t,bd_s,Bool.false_and,Bool.true_or,if_true]
 | true=>
 cases decide (x.Pid<t.Next)with
 | false=>simp only[Bool.not_false,Bool.not_true,br_t,br_f,bd_s,Bool.true_and,Bool.true_or,if_true]
 | true=>
  simp only[Bool.not_true,br_f,Bool.true_and,Bool.false_or]
  cases i with
  | zero=>
   simp only[show decide ((0:Int)<((0:Nat):Int))=false from rfl,br_f,prevT,Bool.false_or]
   cases decide (1<=x.Pane)with
   | false=>simp only[Bool.not_false,br_t,bd_s,Bool.false_and,Bool.true_or,if_true]
   | true=>
   cases decide (x.Pane<=1000000)with
   | false=>simp only[Bool.not_false,Bool.not_true,br_t,br_f,bd_s,Bool.true_and,Bool.true_or,if_true]
   | true=>
    simp only[Bool.not_true,br_f,bd_s,Bool.true_and,Bool.false_or]
    exact hfin _
  | succ i=>
   have hi0:i<t.Live.length:=by have:=(qS1.1 hx).1;omega
   simp only[qT1 (show(0:Int)<((i+1:Nat):Int) by omega),br_t]
   rw[gd_i64 (by omega) (by omega),gd_ix (by omega) (by omega),show(((i+1:Nat):Int)-1).toNat=i by omega,qE1 hi0]
   have e0:prevT t (i+1) x=decide (x.Pid<=t.Live[i].Pid):=by simp[prevT,hi0]
   simp only[bd_s,e0]
   cases decide (x.Pid<=t.Live[i].Pid)with
   | true=>simp only[br_t,bd_s,Bool.true_or,if_true]
   | false=>
    simp only[br_f,Bool.false_or]
    cases decide (1<=x.Pane)with
    | false=>simp only[Bool.not_false,br_t,bd_s,Bool.false_and,Bool.true_or,if_true]
    | true=>
    cases decide (x.Pane<=1000000)with
    | false=>simp only[Bool.not_false,Bool.not_true,br_t,br_f,bd_s,Bool.true_and,Bool.true_or,if_true]
    | true=>
     simp only[Bool.not_true,br_f,bd_s,Bool.true_and,Bool.false_or]
     exact hfin _
theorem pS_TableOk_any {fuel:Nat} (hl:t.Live.length<=2000000) (hf:t.Live.length<fuel):pS_TableOk fuel t=some (!(t.Live.zipIdx.any fun p=>badT t p.2 p.1)&&isIdB t.Next):=by
 unfold pS_TableOk
 have:=loopF_anyI (B:=pS_TableOk_b1 fuel) (fun i=>(t,panesTo t i,t.Live,(t.Live.length:Int),(i:Int))) t.Live (badT t) (.inr false) (.inl t) (fuel:=fuel) (v:=(t,[],t.Live,(t.Live.length:Int),0)) rfl (fun i x hx=>pS_TableOk_step hl hf hx) (by
  unfold pS_TableOk_b1
  simp) hf
 rw[this]
 cases t.Live.zipIdx.any fun p=>badT t p.2 p.1 with
 | true=>rfl
 | false=>
  simp only[jn_l,Bool.false_eq_true,if_false,bd_s,Bool.not_false,Bool.true_and]
  unfold isIdB
  cases decide (1<=t.Next)<;>rfl
def tableOkB (t:ITable):Bool:= !(t.Live.zipIdx.any fun p=>badT t p.2 p.1)&&isIdB t.Next
theorem pS_TableOk_eq {fuel:Nat} (hl:t.Live.length<=2000000) (hf:t.Live.length<fuel):pS_TableOk fuel t=some (tableOkB t):=pS_TableOk_any hl hf
theorem pI_TableOk_eq {fuel:Nat} (hl:t.Live.length<=2000000) (hf:t.Live.length<fuel):pI_TableOk fuel t=some (tableOkB t):=by
 rw[pI_TableOk_any (by omega) hf]
 unfold tableOkB
 cases hn:isIdB t.Next with
 | false=>simp
 | true=>
  congr 1
  have hn2:1<=t.Next/\t.Next<=1000000:=by simpa [isIdB]using hn
  have:∀(i:Nat) (x:IProc),badI t i x=badT t i x:=by
   intro i x
   unfold badI badT
   rw[(wrap_iff .i64 _).2 ⟨by show -9223372036854775808<=_;omega,by show _<=9223372036854775807;omega⟩]
   congr 3
   by_cases h:x.Pid<t.Next
   ·rw[qT1 h,qT1 (by omega)]
   ·rw[qF1 h,qF1 (by omega)]
  simp only[this]
def inB (h:Bool) (a lo hi:Int):Bool:=br h (decide (lo<=a)&&decide (a<=hi)) (a==0)
theorem pS_l16In_eq (F:Nat) (h:Bool) (a lo hi:Int):pS_l16In F h a lo hi=some (inB h a lo hi):=by
 unfold pS_l16In inB
 cases h with
 | false=>rfl
 | true=>cases decide (lo<=a)<;>rfl
theorem br_and (a b:Bool):br a (some b) (some false)=some (a&&b):=by cases a<;>rfl
theorem br_pf (a b:Bool) (x:α):br a (some (x,b)) (some (x,false))=some (x,a&&b):=by cases a<;>rfl
def cmdB (o:IOp):Bool:=decide ((o.Text.size:Int)<=60)&&decide ((o.Dir.size:Int)<=60)
def noCmd (o:IOp):Bool:=decide (o.Text=ByteArray.mk #[])&&decide (o.Dir=ByteArray.mk #[])
def opC (o:IOp) (h0 h1 h2 h3 h4 h5:Bool) (ha lb hb:Int):Bool:=
 inB h0 o.A 1 ha&&(inB h1 o.B lb hb&&(inB h2 o.C 1 120&&(inB h5 (o.Data.length:Int) 1 2000&&(br h3 (wordB o.Name) (decide (o.Name=ByteArray.mk #[]))&&br h4 (cmdB o) (noCmd o)))))
def opB (o:IOp):Bool:=
 br (o.Kind==1) (opC o false false false true true false 1000000 1 1000000) <|
 br (o.Kind==2) (opC o false false false true true false 1000000 1 1000000) <|
 br (o.Kind==3) (opC o true true false false true false 1000000 0 1) <|
 br (o.Kind==4) (opC o true false false false false false 1000000 1 1000000) <|
 br (o.Kind==5) (opC o true false false false false true 1000000 1 1000000) <|
 br (o.Kind==6) (opC o true true false false false false 1000000 0 255) <|
 br (o.Kind==7) (opC o true false false false false false 1000000 1 1000000) <|
 br (o.Kind==8) (opC o true false false false false false 1000000 1 1000000) <|
 br (o.Kind==9) (opC o true true false false false false 1000000 1 1000000) <|
 br (o.Kind==10) (opC o true true true false false false 1000000 68 85&&(o.B==76||(o.B==82||(o.B==85||o.B==68)))) <|
 br (o.Kind==11) (opC o true false false true false false 1000000 1 1000000) <|
 br (o.Kind==12) (opC o true true false false false false 120 1 120) <|
 br (o.Kind==13) (opC o true true false false false false 1000000 1 1000000) <|
 br (o.Kind==14) (opC o true false false false false false 1000000 1 1000000) false
theorem opS_tail (hs:o.Name.size<=1048576) (hf:1048576<F) (h0 h1 h2 h3 h4 h5:Bool):(bd (α:=IOp×Bool) (
  gd ((0:Int)<=(3:Int)/\(3:Int)<(([h0,h1,h2,h3,h4,h5].length:Nat):Int)) <|
  bd ([h0,h1,h2,h3,h4,h5][0+Int.toNat 3]?) fun x24=>
  br x24 (
   bd (pS_WordOk F o.Name) fun x25=>
   br (!x25) (
    some (o,true)) <|
   gd ((0:Int)<=(3:Int)/\(3:Int)<(([h0,h1,h2,h3,h4,h5].length:Nat):Int)) <|
   bd ([h0,h1,h2,h3,h4,h5][0+Int.toNat 3]?) fun x26=>
   br (!x26) (
    br (!decide (o.Name=ByteArray.mk #[])) (
     some (o,true)) <|
    gd ((0:Int)<=(4:Int)/\(4:Int)<(([h0,h1,h2,h3,h4,h5].length:Nat):Int)) <|
    bd ([h0,h1,h2,h3,h4,h5][0+Int.toNat 4]?) fun x27=>
    br (!x27) (
     br (!decide (o.Text=ByteArray.mk #[])) (
      some (o,true)) <|
     some (o,!decide (o.Dir=ByteArray.mk #[]))) <|
    some (o,false)) <|
   gd ((0:Int)<=(4:Int)/\(4:Int)<(([h0,h1,h2,h3,h4,h5].length:Nat):Int)) <|
   bd ([h0,h1,h2,h3,h4,h5][0+Int.toNat 4]?) fun x28=>
   br (!x28) (
    br (!decide (o.Text=ByteArray.mk #[])) (
     some (o,true)) <|
    some (o,!decide (o.Dir=ByteArray.mk #[]))) <|
   some (o,false)) <|
  gd ((0:Int)<=(3:Int)/\(3:Int)<(([h0,h1,h2,h3,h4,h5].length:Nat):Int)) <|
  bd ([h0,h1,h2,h3,h4,h5][0+Int.toNat 3]?) fun x29=>
  br (!x29) (
   br (!decide (o.Name=ByteArray.mk #[])) (
    some (o,true)) <|
   gd ((0:Int)<=(4:Int)/\(4:Int)<(([h0,h1,h2,h3,h4,h5].length:Nat):Int)) <|
   bd ([h0,h1,h2,h3,h4,h5][0+Int.toNat 4]?) fun x30=>
   br (!x30) (
    br (!decide (o.Text=ByteArray.mk #[])) (
     some (o,true)) <|
    some (o,!decide (o.Dir=ByteArray.mk #[]))) <|
   some (o,false)) <|
  gd ((0:Int)<=(4:Int)/\(4:Int)<(([h0,h1,h2,h3,h4,h5].length:Nat):Int)) <|
  bd ([h0,h1,h2,h3,h4,h5][0+Int.toNat 4]?) fun x31=>
  br (!x31) (
   br (!decide (o.Text=ByteArray.mk #[])) (
    some (o,true)) <|
   some (o,!decide (o.Dir=ByteArray.mk #[]))) <|
  some (o,false)) fun(x32,x33)=>
 br x33 (
  some false) <|
 bd (α:=Bool) (
  br (decide ((↑x32.Text.size:Int)<=60)) (
   some (decide ((↑x32.Dir.size:Int)<=60))) <|
  some false) fun x34=>
 some x34)=some (br h3 (wordB o.Name) (decide (o.Name=ByteArray.mk #[]))&&br h4 (cmdB o) (noCmd o)):=by
 have g3:(0:Int)<=(3:Int)/\(3:Int)<(([h0,h1,h2,h3,h4,h5].length:Nat):Int):=⟨by decide,by show(3:Int)<6;decide⟩
 have g4:(0:Int)<=(4:Int)/\(4:Int)<(([h0,h1,h2,h3,h4,h5].length:Nat):Int):=⟨by decide,by show(4:Int)<6;decide⟩
 rw[pS_WordOk_eq hs (by omega)]
 unfold cmdB noCmd
 have ht:decide (o.Text=ByteArray.mk #[])=true->decide ((o.Text.size:Int)<=60)=true:=fun h=>by rw[of_decide_eq_true h];rfl
 have hd:decide (o.Dir=ByteArray.mk #[])=true->decide ((o.Dir.size:Int)<=60)=true:=fun h=>by rw[of_decide_eq_true h];rfl
 simp only[gd_p g3,gd_p g4]
 show bd (br h3 (bd (some (wordB o.Name)) fun x25=>_) _) _=_
 generalize decide (o.Name=ByteArray.mk #[])=n
 cases hn:decide (o.Text=ByteArray.mk #[])<;>cases hm:decide (o.Dir=ByteArray.mk #[])<;>cases ha:decide ((o.Text.size:Int)<=60)<;>cases hb:decide ((o.Dir.size:Int)<=60)<;>simp only[hn,hm,ha,hb,Bool.false_eq_true,imp_false,not_true_eq_false,true_implies]at ht hd<;>cases h3<;>cases h4<;>cases wordB o.Name<;>cases n<;>simp only[ha,hb,br_t,br_f,bd_s,Bool.not_true,Bool.not_false,Bool.and_true,Bool.true_and,Bool.false_and,Bool.and_false,Bool.and_self]<;>first|rfl|(show bd (br _ _ _) _=_;rw[ha];first|rfl|(show bd (some _) _=_;rw[hb];rfl))
theorem opS_mid (h0 h1 h2 h3 h4 h5:Bool) (ha lb hb:Int):(
  gd ((0:Int)<=(0:Int)/\(0:Int)<(([h0,h1,h2,h3,h4,h5].length:Nat):Int)) <|
  bd ([h0,h1,h2,h3,h4,h5][0+Int.toNat 0]?) fun x10=>
  bd (pS_l16In F x10 o.A 1 ha) fun x11=>
  br (!x11) (
   some (o,[h0,h1,h2,h3,h4,h5],true)) <|
  gd ((0:Int)<=(1:Int)/\(1:Int)<(([h0,h1,h2,h3,h4,h5].length:Nat):Int)) <|
  bd ([h0,h1,h2,h3,h4,h5][0+Int.toNat 1]?) fun x12=>
  bd (pS_l16In F x12 o.B lb hb) fun x13=>
  br (!x13) (
   some (o,[h0,h1,h2,h3,h4,h5],true)) <|
  gd ((0:Int)<=(2:Int)/\(2:Int)<(([h0,h1,h2,h3,h4,h5].length:Nat):Int)) <|
  bd ([h0,h1,h2,h3,h4,h5][0+Int.toNat 2]?) fun x14=>
  bd (pS_l16In F x14 o.C 1 120) fun x15=>
  br (!x15) (
   some (o,[h0,h1,h2,h3,h4,h5],true)) <|
  gd ((0:Int)<=(5:Int)/\(5:Int)<(([h0,h1,h2,h3,h4,h5].length:Nat):Int)) <|
  bd ([h0,h1,h2,h3,h4,h5][0+Int.toNat 5]?) fun x16=>
  bd (pS_l16In F x16 (↑o.Data.length:Int) 1 2000) fun x17=>
  some (o,[h0,h1,h2,h3,h4,h5],!x17))=some (o,[h0,h1,h2,h3,h4,h5],!(inB h0 o.A 1 ha&&(inB h1 o.B lb hb&&(inB h2 o.C 1 120&&inB h5 (o.Data.length:Int) 1 2000)))):=by
 have g0:(0:Int)<=(0:Int)/\(0:Int)<(([h0,h1,h2,h3,h4,h5].length:Nat):Int):=⟨by decide,by show(0:Int)<6;decide⟩
 have g1:(0:Int)<=(1:Int)/\(1:Int)<(([h0,h1,h2,h3,h4,h5].length:Nat):Int):=⟨by decide,by show(1:Int)<6;decide⟩
 have g2:(0:Int)<=(2:Int)/\(2:Int)<(([h0,h1,h2,h3,h4,h5].length:Nat):Int):=⟨by decide,by show(2:Int)<6;decide⟩
 have g5:(0:Int)<=(5:Int)/\(5:Int)<(([h0,h1,h2,h3,h4,h5].length:Nat):Int):=⟨by decide,by show(5:Int)<6;decide⟩
 simp only[pS_l16In_eq,gd_p g0,gd_p g1,gd_p g2,gd_p g5]
 show br (!inB h0 o.A 1 ha) _ (br (!inB h1 o.B lb hb) _ (br (!inB h2 o.C 1 120) _ _))=_
 cases inB h0 o.A 1 ha<;>cases inB h1 o.B lb hb<;>cases inB h2 o.C 1 120<;>rfl
def sideB (o:IOp):Bool:=(o.B==76)||((o.B==82)||((o.B==85)||(o.B==68)))
theorem opS_of (hs:o.Name.size<=1048576) (hf:1048576<F) (h0 h1 h2 h3 h4 h5:Bool) (ha lb hb:Int) (hk:1<=o.Kind/\o.Kind<=14) (e1:pS_l16Has F o.Kind=some [h0,h1,h2,h3,h4,h5])
  (e2:(br (o.Kind==12) (some (o,[h0,h1,h2,h3,h4,h5],120,1,120))<|br (o.Kind==3) (some (o,[h0,h1,h2,h3,h4,h5],1000000,0,1))<|br (o.Kind==6) (some (o,[h0,h1,h2,h3,h4,h5],1000000,0,255))<|br (o.Kind==10) (some (o,[h0,h1,h2,h3,h4,h5],1000000,68,85))<|some (o,[h0,h1,h2,h3,h4,h5],1000000,1,1000000))=some (o,[h0,h1,h2,h3,h4,h5],ha,lb,hb)) :
  pS_OpOk F o=some (opC o h0 h1 h2 h3 h4 h5 ha lb hb&&br (o.Kind==10) (sideB o) true):=by
 have ht:=opS_tail (o:=o) hs hf h0 h1 h2 h3 h4 h5
 have hm:=opS_mid (F:=F) (o:=o) h0 h1 h2 h3 h4 h5 ha lb hb
 unfold pS_OpOk
 rw[qF1 (show¬o.Kind<1 by omega),qF1 (show¬14<o.Kind by omega)]
 simp only[br_f,bd_s]
 rw[e1,bd_s,e2,bd_s]
 simp only
 rw[hm,bd_s]
 simp only
 unfold opC
 generalize (br h3 (wordB o.Name) (decide (o.Name=ByteArray.mk #[]))&&br h4 (cmdB o) (noCmd o))=T at ht⊢
 cases inB h0 o.A 1 ha with
 | false=>rfl
 | true=>
 cases inB h1 o.B lb hb with
 | false=>rfl
 | true=>
 cases inB h2 o.C 1 120 with
 | false=>rfl
 | true=>
 cases inB h5 (o.Data.length:Int) 1 2000 with
 | false=>rfl
 | true=>
  simp only[Bool.and_self,Bool.not_true,br_f,Bool.true_and]
  cases o.Kind==10 with
  | false=>
   simp only[br_f,bd_s,Bool.and_true]
   exact ht
  | true=>
   unfold sideB
   simp only[br_t,bne]
   cases o.B==76 with
   | true=>simp only[Bool.not_true,br_f,bd_s,Bool.true_or,Bool.and_true];exact ht
   | false=>
   cases o.B==82 with
   | true=>simp only[Bool.not_true,Bool.not_false,br_t,br_f,bd_s,Bool.true_or,Bool.or_true,Bool.and_true];exact ht
   | false=>
   cases o.B==85 with
   | true=>simp only[Bool.not_true,Bool.not_false,br_t,br_f,bd_s,Bool.true_or,Bool.or_true,Bool.and_true];exact ht
   | false=>
   cases o.B==68 with
   | true=>simp only[Bool.not_true,Bool.not_false,br_t,br_f,bd_s,Bool.true_or,Bool.or_true,Bool.and_true];exact ht
   | false=>simp only[Bool.not_false,br_t,bd_s,Bool.or_self,Bool.and_false]
theorem kinds (k:Int):(k<1∨14<k)∨k=1∨k=2∨k=3∨k=4∨k=5∨k=6∨k=7∨k=8∨k=9∨k=10∨k=11∨k=12∨k=13∨k=14:=by omega
theorem opB_bad (h:o.Kind<1∨14<o.Kind):opB o=false:=by
 have f:∀j:Int,1<=j->j<=14->(o.Kind==j)=false:=fun j h1 h2=>beq_eq_false_iff_ne.2 (by omega)
 unfold opB
 rw[f 1 (by decide) (by decide),f 2 (by decide) (by decide),f 3 (by decide) (by decide),f 4 (by decide) (by decide),f 5 (by decide) (by decide),f 6 (by decide) (by decide),f 7 (by decide) (by decide),f 8 (by decide) (by decide),f 9 (by decide) (by decide),f 10 (by decide) (by decide),f 11 (by decide) (by decide),f 12 (by decide) (by decide),f 13 (by decide) (by decide),f 14 (by decide) (by decide)]
 rfl
theorem pS_OpOk_eq (hs:o.Name.size<=1048576) (hf:1048576<F):pS_OpOk F o=some (opB o):=by
 have go:∀(h0 h1 h2 h3 h4 h5:Bool) (ha lb hb:Int) (k:Int),o.Kind=k->1<=k->k<=14->pS_l16Has F k=some [h0,h1,h2,h3,h4,h5]->(br (k==12) (some (o,[h0,h1,h2,h3,h4,h5],(120:Int),(1:Int),(120:Int)))<|br (k==3) (some (o,[h0,h1,h2,h3,h4,h5],1000000,0,1))<|br (k==6) (some (o,[h0,h1,h2,h3,h4,h5],1000000,0,255))<|br (k==10) (some (o,[h0,h1,h2,h3,h4,h5],1000000,68,85))<|some (o,[h0,h1,h2,h3,h4,h5],1000000,1,1000000))=some (o,[h0,h1,h2,h3,h4,h5],ha,lb,hb)->(opC o h0 h1 h2 h3 h4 h5 ha lb hb&&br (k==10) (sideB o) true)=opB o->pS_OpOk F o=some (opB o):=by
  rintro h0 h1 h2 h3 h4 h5 ha lb hb k rfl k1 k2 e1 e2 e3
  rw[opS_of hs hf h0 h1 h2 h3 h4 h5 ha lb hb ⟨k1,k2⟩ e1 e2,e3]
 rcases kinds o.Kind with h|h|h|h|h|h|h|h|h|h|h|h|h|h|h
 ·rw[opB_bad h]
  unfold pS_OpOk
  rcases h with h|h
  ·rw[qT1 h];rfl
  ·rw[qT1 h,qF1 (show¬o.Kind<1 by omega)];rfl
 ·exact go false false false true true false 1000000 1 1000000 1 h (by decide) (by decide) rfl rfl (by unfold opB;rw[h];exact Bool.and_true _)
 ·exact go false false false true true false 1000000 1 1000000 2 h (by decide) (by decide) rfl rfl (by unfold opB;rw[h];exact Bool.and_true _)
 ·exact go true true false false true false 1000000 0 1 3 h (by decide) (by decide) rfl rfl (by unfold opB;rw[h];exact Bool.and_true _)
 ·exact go true false false false false false 1000000 1 1000000 4 h (by decide) (by decide) rfl rfl (by unfold opB;rw[h];exact Bool.and_true _)
 ·exact go true false false false false true 1000000 1 1000000 5 h (by decide) (by decide) rfl rfl (by unfold opB;rw[h];exact Bool.and_true _)
 ·exact go true true false false false false 1000000 0 255 6 h (by decide) (by decide) rfl rfl (by unfold opB;rw[h];exact Bool.and_true _)
 ·exact go true false false false false false 1000000 1 1000000 7 h (by decide) (by decide) rfl rfl (by unfold opB;rw[h];exact Bool.and_true _)
 ·exact go true false false false false false 1000000 1 1000000 8 h (by decide) (by decide) rfl rfl (by unfold opB;rw[h];exact Bool.and_true _)
 ·exact go true true false false false false 1000000 1 1000000 9 h (by decide) (by decide) rfl rfl (by unfold opB;rw[h];exact Bool.and_true _)
 ·exact go true true true false false false 1000000 68 85 10 h (by decide) (by decide) rfl rfl (by unfold opB;rw[h];rfl)
 ·exact go true false false true false false 1000000 1 1000000 11 h (by decide) (by decide) rfl rfl (by unfold opB;rw[h];exact Bool.and_true _)
 ·exact go true true false false false false 120 1 120 12 h (by decide) (by decide) rfl rfl (by unfold opB;rw[h];exact Bool.and_true _)
 ·exact go true true false false false false 1000000 1 1000000 13 h (by decide) (by decide) rfl rfl (by unfold opB;rw[h];exact Bool.and_true _)
 ·exact go true false false false false false 1000000 1 1000000 14 h (by decide) (by decide) rfl rfl (by unfold opB;rw[h];exact Bool.and_true _)
theorem pI_isSide_eq (F:Nat) (a:Int):pI_isSide F a=some ((a==76)||((a==82)||((a==85)||(a==68)))):=by
 unfold pI_isSide
 cases a==76<;>cases a==82<;>cases a==85<;>rfl
theorem pI_isLength_eq (F:Nat) (a:Int):pI_isLength F a=some (decide (1<=a)&&decide (a<=120)):=by
 unfold pI_isLength
 rw[pI_within_eq]
 rfl
theorem nil_mk:decide (ByteArray.mk #[]=ByteArray.mk #[])=true:=qT1 rfl
theorem nil_len:((([]:List UInt8).length:Int)==0)=true:=rfl
theorem pI_OpOk_eq (hs:o.Name.size<=1048576) (hf:1048576<F):pI_OpOk F o=some (opB o):=by
 have hw:=pI_WordOk_eq (fuel:=F) hs (by omega)
 rcases kinds o.Kind with h|h|h|h|h|h|h|h|h|h|h|h|h|h|h
 ·rw[opB_bad h]
  have f:∀j:Int,1<=j->j<=14->(o.Kind==j)=false:=fun j h1 h2=>beq_eq_false_iff_ne.2 (by omega)
  unfold pI_OpOk
  simp only[f 1 (by decide) (by decide),f 2 (by decide) (by decide),f 3 (by decide) (by decide),f 4 (by decide) (by decide),f 5 (by decide) (by decide),f 6 (by decide) (by decide),f 7 (by decide) (by decide),f 8 (by decide) (by decide),f 9 (by decide) (by decide),f 10 (by decide) (by decide),f 11 (by decide) (by decide),f 12 (by decide) (by decide),f 13 (by decide) (by decide),f 14 (by decide) (by decide),br_f,bd_s,br_pf,br_and,Bool.false_and]
 ·unfold pI_OpOk opB
  simp only[h,Int.reduceBEq,br_t,br_f,bd_s,hw,pI_isCmd_eq,pI_isId_eq,pI_within_eq,pI_isSide_eq,pI_isLength_eq,br_pf,br_and,nil_mk,nil_len,Bool.and_true,Bool.true_and]
  unfold opC inB cmdB noCmd
  simp only[br_t,br_f]
  congr 1
  ac_rfl
 ·unfold pI_OpOk opB
  simp only[h,Int.reduceBEq,br_t,br_f,bd_s,hw,pI_isCmd_eq,pI_isId_eq,pI_within_eq,pI_isSide_eq,pI_isLength_eq,br_pf,br_and,nil_mk,nil_len,Bool.and_true,Bool.true_and]
  unfold opC inB cmdB noCmd
  simp only[br_t,br_f]
  congr 1
  ac_rfl
 ·unfold pI_OpOk opB
  simp only[h,Int.reduceBEq,br_t,br_f,bd_s,hw,pI_isCmd_eq,pI_isId_eq,pI_within_eq,pI_isSide_eq,pI_isLength_eq,br_pf,br_and,nil_mk,nil_len,Bool.and_true,Bool.true_and]
  unfold opC inB cmdB noCmd
  simp only[br_t,br_f]
  congr 1
  ac_rfl
 ·unfold pI_OpOk opB
  simp only[h,Int.reduceBEq,br_t,br_f,bd_s,hw,pI_isCmd_eq,pI_isId_eq,pI_within_eq,pI_isSide_eq,pI_isLength_eq,br_pf,br_and,nil_mk,nil_len,Bool.and_true,Bool.true_and]
  unfold opC inB cmdB noCmd
  simp only[br_t,br_f]
  congr 1
  ac_rfl
 ·unfold pI_OpOk opB
  simp only[h,Int.reduceBEq,br_t,br_f,bd_s,hw,pI_isCmd_eq,pI_isId_eq,pI_within_eq,pI_isSide_eq,pI_isLength_eq,br_pf,br_and,nil_mk,nil_len,Bool.and_true,Bool.true_and]
  unfold opC inB cmdB noCmd
  simp only[br_t,br_f]
  congr 1
  ac_rfl
 ·unfold pI_OpOk opB
  simp only[h,Int.reduceBEq,br_t,br_f,bd_s,hw,pI_isCmd_eq,pI_isId_eq,pI_within_eq,pI_isSide_eq,pI_isLength_eq,br_pf,br_and,nil_mk,nil_len,Bool.and_true,Bool.true_and]
  unfold opC inB cmdB noCmd
  simp only[br_t,br_f]
  congr 1
  ac_rfl
 ·unfold pI_OpOk opB
  simp only[h,Int.reduceBEq,br_t,br_f,bd_s,hw,pI_isCmd_eq,pI_isId_eq,pI_within_eq,pI_isSide_eq,pI_isLength_eq,br_pf,br_and,nil_mk,nil_len,Bool.and_true,Bool.true_and]
  unfold opC inB cmdB noCmd
  simp only[br_t,br_f]
  congr 1
  ac_rfl
 ·unfold pI_OpOk opB
  simp only[h,Int.reduceBEq,br_t,br_f,bd_s,hw,pI_isCmd_eq,pI_isId_eq,pI_within_eq,pI_isSide_eq,pI_isLength_eq,br_pf,br_and,nil_mk,nil_len,Bool.and_true,Bool.true_and]
  unfold opC inB cmdB noCmd
  simp only[br_t,br_f]
  congr 1
  ac_rfl
 ·unfold pI_OpOk opB
  simp only[h,Int.reduceBEq,br_t,br_f,bd_s,hw,pI_isCmd_eq,pI_isId_eq,pI_within_eq,pI_isSide_eq,pI_isLength_eq,br_pf,br_and,nil_mk,nil_len,Bool.and_true,Bool.true_and]
  unfold opC inB cmdB noCmd
  simp only[br_t,br_f]
  congr 1
  ac_rfl
 ·unfold pI_OpOk opB
  simp only[h,Int.reduceBEq,br_t,br_f,bd_s,hw,pI_isCmd_eq,pI_isId_eq,pI_within_eq,pI_isSide_eq,pI_isLength_eq,br_pf,br_and,nil_mk,nil_len,Bool.and_true,Bool.true_and]
  unfold opC inB cmdB noCmd
  simp only[br_t,br_f]
  have hsd:((o.B==76)||((o.B==82)||((o.B==85)||(o.B==68))))=((decide (68<=o.B)&&decide (o.B<=85))&&((o.B==76)||((o.B==82)||((o.B==85)||(o.B==68))))):=by
   rw[Bool.eq_iff_iff]
   simp only[Bool.or_eq_true,Bool.and_eq_true,beq_iff_eq,decide_eq_true_eq]
   omega
  congr 1
  conv=>lhs;rw[hsd]
  ac_rfl
 ·unfold pI_OpOk opB
  simp only[h,Int.reduceBEq,br_t,br_f,bd_s,hw,pI_isCmd_eq,pI_isId_eq,pI_within_eq,pI_isSide_eq,pI_isLength_eq,br_pf,br_and,nil_mk,nil_len,Bool.and_true,Bool.true_and]
  unfold opC inB cmdB noCmd
  simp only[br_t,br_f]
  congr 1
  ac_rfl
 ·unfold pI_OpOk opB
  simp only[h,Int.reduceBEq,br_t,br_f,bd_s,hw,pI_isCmd_eq,pI_isId_eq,pI_within_eq,pI_isSide_eq,pI_isLength_eq,br_pf,br_and,nil_mk,nil_len,Bool.and_true,Bool.true_and]
  unfold opC inB cmdB noCmd
  simp only[br_t,br_f]
  congr 1
  ac_rfl
 ·unfold pI_OpOk opB
  simp only[h,Int.reduceBEq,br_t,br_f,bd_s,hw,pI_isCmd_eq,pI_isId_eq,pI_within_eq,pI_isSide_eq,pI_isLength_eq,br_pf,br_and,nil_mk,nil_len,Bool.and_true,Bool.true_and]
  unfold opC inB cmdB noCmd
  simp only[br_t,br_f]
  congr 1
  ac_rfl
 ·unfold pI_OpOk opB
  simp only[h,Int.reduceBEq,br_t,br_f,bd_s,hw,pI_isCmd_eq,pI_isId_eq,pI_within_eq,pI_isSide_eq,pI_isLength_eq,br_pf,br_and,nil_mk,nil_len,Bool.and_true,Bool.true_and]
  unfold opC inB cmdB noCmd
  simp only[br_t,br_f]
  congr 1
  ac_rfl
def opsV (l:List IHist):Nat:=l.countP fun x=> !x.Lost
theorem opsV_le (l:List IHist):opsV l<=l.length:=List.countP_le_length
theorem pI_OpsOf_eq {l:List IHist} (hl:l.length<=1048576) (hf:1048576<F):pI_OpsOf F l=some (opsV l:Int):=by
 unfold pI_OpsOf
 have key:loopF (pI_OpsOf_b1 F) F (0,l,(l.length:Int),0)=some (opsV l:Int):=by
  refine loopF_run (fun i=>((opsV (l.take i):Int),l,(l.length:Int),(i:Int))) l.length _ rfl (fun i hi=> ?_) (by unfold pI_OpsOf_b1;simp) (by omega)
  have hx:l[i]?=some l[i]:=qE1 hi
  obtain⟨h1,h2,h3,h4,h5⟩:=idx_facts hx (by omega)
  have hm:opsV (l.take (i+1))=opsV (l.take i)+if l[i].Lost then 0 else 1:=by
   unfold opsV
   rw[take_succ_get hx,List.countP_append,List.countP_singleton]
   cases l[i].Lost<;>rfl
  have hlen:=opsV_le (l.take i)
  rw[List.length_take]at hlen
  generalize l[i]=x at hx h3 hm
  unfold pI_OpsOf_b1
  simp only[h1,br_t,gd_t h2,h3,bd_s]
  cases hk:x.Lost with
  | true=>
   rw[hk]at hm
   simp only[Bool.not_true,br_f,bd_s]
   rw[h5,gd_t h4,hm]
   rfl
  | false=>
   rw[hk]at hm
   simp only[Bool.not_false,br_t]
   rw[gd_t (inK64 (by omega) (by omega)),bd_s]
   simp only
   rw[h5,gd_t h4,hm]
   rfl
 rw[key]
 rfl
theorem pS_OpsOf_eq {l:List IHist} (hl:l.length<=1048576) (hf:1048576<F):pS_OpsOf F l=some (opsV l:Int):=pI_OpsOf_eq hl hf
theorem sum3 (a b c:Nat):(((a:Int)+(b:Int)+(c:Int))==0)=(((a:Int)==0)&&(((b:Int)==0)&&((c:Int)==0))):=by
 rw[Bool.eq_iff_iff]
 simp only[Bool.and_eq_true,beq_iff_eq]
 omega
def zeroDiskB (d:IDisk):Bool:=(d.Room==0)&&((d.Fuse==0)&&((d.Next==0)&&(((d.Files.length:Int)==0)&&(((d.Kept.length:Int)==0)&&((d.Turns.length:Int)==0)))))
theorem pI_isZeroDisk_eq {d:IDisk} (h:DkF F d):pI_isZeroDisk F d=some (zeroDiskB d):=by
 have:=h.fl;have:=h.kl;have:=h.tl
 unfold pI_isZeroDisk zeroDiskB
 rw[gd_t (inK64 (by omega) (by omega)),gd_t (inK64 (by omega) (by omega)),sum3]
 simp only[br_and,bd_s]
theorem pS_l22NoDisk_eq (F:Nat) (d:IDisk):pS_l22NoDisk F d=some (zeroDiskB d):=by
 unfold pS_l22NoDisk zeroDiskB
 simp only[br_and,bd_s]
def zeroStateB (s:IState):Bool:=(s.W==0)&&((s.H==0)&&((s.Limit==0)&&((s.Next==0)&&(((s.Panes.length:Int)==0)&&(((s.Wins.length:Int)==0)&&((s.Sess.length:Int)==0))))))
theorem pI_isZeroState_eq {s:IState} (h1:s.Panes.length<=1048576) (h2:s.Wins.length<=1048576) (h3:s.Sess.length<=1048576):pI_isZeroState F s=some (zeroStateB s):=by
 unfold pI_isZeroState zeroStateB
 rw[gd_t (inK64 (by omega) (by omega)),gd_t (inK64 (by omega) (by omega)),sum3]
 simp only[br_and,bd_s]
theorem pS_l22NoState_eq (F:Nat) (s:IState):pS_l22NoState F s=some (zeroStateB s):=by
 unfold pS_l22NoState zeroStateB
 simp only[br_and,bd_s]
def zeroDepotB (p:IDepot):Bool:=zeroDiskB p.Disk&&((p.Gen==0)&&((p.Seq==0)&&((p.Size==0)&& !p.Stuck)))
theorem pI_isZeroDepot_eq {p:IDepot} (h:DkF F p.Disk):pI_isZeroDepot F p=some (zeroDepotB p):=by
 unfold pI_isZeroDepot zeroDepotB
 rw[pI_isZeroDisk_eq h]
 simp only[br_and,bd_s]
def zeroOpB (a1:IOp):Bool:=(a1.Kind==0)&&((a1.A==0)&&((a1.B==0)&&((a1.C==0)&&(decide (a1.Name=ByteArray.mk #[])&&(decide (a1.Text=ByteArray.mk #[])&&(decide (a1.Dir=ByteArray.mk #[])&&((a1.Data.length:Int)==0)))))))
theorem pI_isZeroOp_eq (F:Nat) (o:IOp):pI_isZeroOp F o=some (zeroOpB o):=by
 unfold pI_isZeroOp zeroOpB
 simp only[br_and,bd_s]
theorem pS_l22NoOp_eq (F:Nat) (o:IOp):pS_l22NoOp F o=some (zeroOpB o):=pI_isZeroOp_eq F o
def histB (x:IHist):Bool:=br x.Lost (zeroOpB x.Op) (opB x.Op)
theorem pI_SrvOk_1_eq {x:IHist} (hs:x.Op.Name.size<=1048576) (hf:1048576<F):pI_SrvOk_1 F x=some (!histB x):=by
 unfold pI_SrvOk_1 pI_isHist histB
 rw[pI_isZeroOp_eq,pI_OpOk_eq hs hf]
 cases x.Lost<;>rfl
theorem pI_hists_eq {l:List IHist} (hl:l.length<=1048576) (hn:∀x∈l,x.Op.Name.size<=1048576) (hf:1048576<F):pG_slices_ContainsFunc_IHist_I_SrvOk_1 F l=some (l.any fun x=> !histB x):=by
 unfold pG_slices_ContainsFunc_IHist_I_SrvOk_1 pG_slices_IndexFunc_IHist_I_SrvOk_1
 have h:=loopF_fnd (B:=pG_slices_IndexFunc_IHist_I_SrvOk_1_b1 F) (fun i=>(l,(l.length:Int),(i:Int))) l (fun x=> !histB x) (fun i=> .inr (i:Int)) (.inl ()) (fuel:=F) (v:=(l,(l.length:Int),0)) rfl (fun i x hx=>by
  obtain⟨h1,h2,h3,h4,h5⟩:=idx_facts hx (by omega)
  unfold pG_slices_IndexFunc_IHist_I_SrvOk_1_b1
  simp only[h1,br_t,gd_t h2,h3,bd_s,h5,gd_t h4,pI_SrvOk_1_eq (hn x (qM1 hx)) hf]
  cases histB x<;>rfl) (by unfold pG_slices_IndexFunc_IHist_I_SrvOk_1_b1;simp) (by omega)
 rw[h,<-atV_nonneg]
 unfold atV
 cases l.findIdx? fun x=> !histB x<;>rfl
theorem pS_SrvOk_b1_eq (hl:s.Done.length<=1048576) (hn:∀x∈s.Done,x.Op.Name.size<=1048576) (hf:1048576<F):loopF (pS_SrvOk_b1 F) F (s,s.Done,(s.Done.length:Int),0)=some (if s.Done.any fun x=> !histB x then Sum.inr false else Sum.inl s):=by
 refine loopF_any (B:=pS_SrvOk_b1 F) (fun i=>(s,s.Done,(s.Done.length:Int),(i:Int))) s.Done (fun x=> !histB x) (Sum.inr false) (Sum.inl s) rfl (fun i x hx=> ?_) (by unfold pS_SrvOk_b1;simp) (by omega)
 obtain⟨h1,h2,h3,h4,h5⟩:=idx_facts hx (by omega)
 unfold pS_SrvOk_b1
 simp only[h1,br_t,gd_t h2,h3,bd_s,pS_l22NoOp_eq,pS_OpOk_eq (hn x (qM1 hx)) hf]
 rw[<-br_if]
 unfold histB
 have hfin:∀c:Bool,(br c (some (.inr (.inr false))) (gd (inK IntKind.i64 ((i:Int)+1)) (some (.inl (s,s.Done,(s.Done.length:Int),(i:Int)+1)))):Option ((ISrv×List IHist×Int×Int)⊕(ISrv⊕Bool)))=br c (some (.inr (.inr false))) (some (.inl (s,s.Done,(s.Done.length:Int),((i+1:Nat):Int)))):=by
  intro c
  rw[h5,gd_t h4]
 cases x.Lost<;>cases zeroOpB x.Op<;>cases opB x.Op<;>first|exact hfin true|exact hfin false
structure SvF (F:Nat) (s:ISrv):Prop where
 b:SG F s.Base
 t:SG F s.St
 p:DkF (F+70) s.Dep.Disk
 d:DkF (F+70) s.Disk
 tl:s.Tab.Live.length<=1048576
 hl:s.Done.length<=1048576
 hn:∀x∈s.Done,x.Op.Name.size<=1048576
noncomputable def srvB (s:ISrv):Bool:=(stateB s.Base&&(!decide (0<(s.Base.Panes.length:Int))&&((decide (0<=s.Top)&&decide (s.Top<=400000))&&(tableOkB s.Tab&&(!(s.Done.any fun x=> !histB x)&&(decide (0<=s.Sure)&&decide (s.Sure<=(opsV s.Done:Int)))))))) &&
 br s.Up (stateB s.St&&(depotB s.Dep&&(zeroDiskB s.Disk&&(s.Dep.Seq==(opsV s.Done:Int)+1)))) (zeroStateB s.St&&(zeroDepotB s.Dep&&(diskB s.Disk&&((s.Tab.Live.length:Int)==0))))
theorem pI_SrvOk_eq (h:SvF F s):pI_SrvOk (F+70) s=some (srvB s):=by
 have hfu:=h.d.fu;have htl:=h.tl;have hhl:=h.hl
 have hops:=opsV_le s.Done
 unfold pI_SrvOk srvB
 rw[pI_StateOk_eq h.b,pI_hists_eq hhl h.hn (by omega),pI_OpsOf_eq hhl (by omega),pI_TableOk_eq (by omega) (by omega)]
 simp only[pI_within_eq,bd_s]
 cases stateB s.Base with
 | false=>rfl
 | true=>
 cases decide (0<(s.Base.Panes.length:Int))with
 | true=>rfl
 | false=>
 cases decide (0<=s.Top)&&decide (s.Top<=400000)with
 | false=>rfl
 | true=>
 cases tableOkB s.Tab with
 | false=>rfl
 | true=>
 cases s.Done.any fun x=> !histB x with
 | true=>rfl
 | false=>
 cases decide (0<=s.Sure)&&decide (s.Sure<=(opsV s.Done:Int))with
 | false=>rfl
 | true=>
  simp only[Bool.not_true,Bool.not_false,br_f,bd_s,Bool.true_and]
  cases s.Up with
  | true=>
   rw[br_t,br_t,pI_StateOk_eq h.t,pI_DepotOk_eq h.p,pI_isZeroDisk_eq h.d,pI_OpsOf_eq hhl (by omega)]
   simp only[bd_s]
   rw[gd_t (inK64 (by omega) (by omega))]
   simp only[br_and,bd_s]
  | false=>
   rw[br_f,br_f,pI_isZeroState_eq h.t.f.f.pl h.t.f.f.wl h.t.f.f.sl,pI_isZeroDepot_eq h.p,pI_DiskOk_eq h.d]
   simp only[br_and,bd_s]
theorem pS_SrvOk_eq (h:SvF F s):pS_SrvOk (F+70) s=some (srvB s):=by
 have hfu:=h.d.fu;have htl:=h.tl;have hhl:=h.hl
 have hops:=opsV_le s.Done
 unfold pS_SrvOk srvB
 rw[pS_StateOk_eq h.b,pS_OpsOf_eq hhl (by omega),pS_TableOk_eq (by omega) (by omega)]
 simp only[bd_s,lt_not s.Sure,lt_not s.Top,lt_not 0 s.Top,lt_not 0 s.Sure]
 cases stateB s.Base with
 | false=>rfl
 | true=>
 cases decide (0<(s.Base.Panes.length:Int))with
 | true=>rfl
 | false=>
 cases decide (s.Top<0)with
 | true=>rfl
 | false=>
 cases decide (400000<s.Top)with
 | true=>rfl
 | false=>
 cases tableOkB s.Tab with
 | false=>rfl
 | true=>
  simp only[Bool.not_true,Bool.not_false,br_f,bd_s,Bool.true_and,Bool.and_self]
  cases decide (s.Sure<0)with
  | true=>simp only[br_t,bd_s,Bool.not_true,Bool.false_and,Bool.and_false]
  | false=>
  cases decide ((opsV s.Done:Int)<s.Sure)with
  | true=>simp only[br_t,br_f,bd_s,Bool.not_true,Bool.not_false,Bool.false_and,Bool.and_false]
  | false=>
   simp only[br_f,bd_s,Bool.not_false,Bool.and_true,Bool.true_and]
   rw[pS_SrvOk_b1_eq hhl h.hn (by omega)]
   cases s.Done.any fun x=> !histB x with
   | true=>rfl
   | false=>
    simp only[Bool.false_eq_true,if_false,jn_l,Bool.not_false,Bool.true_and]
    cases s.Up with
    | true=>
     rw[br_t,br_t,pS_StateOk_eq h.t,pS_DepotOk_eq h.p,pS_l22NoDisk_eq,pS_OpsOf_eq hhl (by omega)]
     simp only[bd_s]
     rw[gd_t (inK64 (by omega) (by omega))]
     simp only[br_and,bd_s]
    | false=>
     rw[br_f,br_f,pS_l22NoState_eq,pS_l22NoDisk_eq,pS_DiskOk_eq h.d]
     unfold zeroDepotB
     simp only[br_and,bd_s,Bool.and_assoc]
theorem set_take {J:Type} {l:List α} {g:α->J} {o:List J} {x:α} (hx:l[i]?=some x) (ho:o.length=l.length):((l.take i).map g++o.drop i).set i (g x)=(l.take (i+1)).map g++o.drop (i+1):=by
 have hi:=(qS1.1 hx).1
 have e:l.take (i+1)=l.take i++ [x]:=by rw[List.take_add_one,hx];rfl
 have ed:o.drop i=o[i]'(by omega)::o.drop (i+1):=by rw[List.drop_eq_getElem_cons (by omega)]
 have hl:((l.take i).map g).length=i:=by rw[List.length_map,List.length_take];omega
 rw[e,ed,List.set_append_right _ _ (by omega),hl,Nat.sub_self,List.set_cons_zero,List.map_append,List.append_assoc]
 rfl
theorem loopF_set {J O:Type} {B:List α×List J×Int->Option ((List α×List J×Int)⊕O)} (l:List α) (g:α->J) (out:List J->O) {o:List J} {fuel:Nat} (ho:o.length=l.length)
  (hB:∀(i:Nat) x (o:List J),l[i]?=some x->o.length=l.length->B (l,o,(i:Int))=some (.inl (l,o.set i (g x),((i+1:Nat):Int)))) (hE:∀o,B (l,o,(l.length:Int))=some (.inr (out o))) (hf:l.length<fuel):loopF B fuel (l,o,0)=some (out (l.map g)):=by
 have key:∀(n i fuel:Nat),l.length-i=n->i<=l.length->n<fuel->loopF B fuel (l,(l.take i).map g++o.drop i,(i:Int))=some (out (l.map g)):=by
  intro n
  induction n with
  | zero=>
   intro i fuel hn hi hf
   obtain rfl:i=l.length:=by omega
   cases fuel with
   | zero=>omega
   | succ fuel=>rw[loopF,hE,List.take_length,List.drop_eq_nil_of_le (by omega),List.append_nil]
  | succ n ih=>
   intro i fuel hn hi hf
   have hil:i<l.length:=by omega
   cases fuel with
   | zero=>omega
   | succ fuel=>
    rw[loopF,hB i l[i] _ (qE1 hil) (by simp;omega),set_take (qE1 hil) ho]
    exact ih (i+1) fuel (by omega) (by omega) (by omega)
 have:=key l.length 0 fuel (by omega) (by omega) hf
 simpa using this
theorem loopF_walk {V O:Type} {B:V->Option (V⊕O)} (f:Nat->V) (n:Nat) (E:O) {fuel:Nat} {v:V} (hv:v=f 0) (h:∀i,i<n->B (f i)=some (.inl (f (i+1)))) (he:B (f n)=some (.inr E)) (hf:n<fuel):loopF B fuel v=some E:=by
 subst hv
 have key:∀(m i fuel:Nat),n-i=m->i<=n->m<fuel->loopF B fuel (f i)=some E:=by
  intro m
  induction m with
  | zero=>
   intro i fuel hm hi hf
   obtain rfl:i=n:=by omega
   cases fuel with
   | zero=>omega
   | succ fuel=>rw[loopF,he]
  | succ m ih=>
   intro i fuel hm hi hf
   cases fuel with
   | zero=>omega
   | succ fuel=>
    rw[loopF,h i (by omega)]
    exact ih (i+1) fuel (by omega) (by omega) (by omega)
 exact key n 0 fuel (by omega) (by omega) hf
theorem loopF_sz {B:List α×Int×Int->Option ((List α×Int×Int)⊕(Int⊕Int))} (l:List α) (P:α->Prop) {left:Int} {fuel:Nat} (h0:0<=left) (h1:left<=1048576)
  (hB:∀(i:Nat) x k,l[i]?=some x->0<=k->k<=1048576->∃r,B (l,k,(i:Int))=(if r<0 then some (.inr (.inr (-1)))else some (.inl (l,r,((i+1:Nat):Int))))/\r<=k/\(0<=r->P x)) (hE:∀k,B (l,k,(l.length:Int))=some (.inr (.inl k))) (hf:l.length<fuel) :
  loopF B fuel (l,left,0)=some (.inr (-1))∨∃r,loopF B fuel (l,left,0)=some (.inl r)/\0<=r/\r<=left/\∀x∈l,P x:=by
 have key:∀(n i fuel:Nat) (k:Int),l.length-i=n->i<=l.length->n<fuel->0<=k->k<=left->(∀(j:Nat) x,j<i->l[j]?=some x->P x)->loopF B fuel (l,k,(i:Int))=some (.inr (-1))∨∃r,loopF B fuel (l,k,(i:Int))=some (.inl r)/\0<=r/\r<=left/\∀x∈l,P x:=by
  intro n
  induction n with
  | zero=>
   intro i fuel k hn hi hf hk0 hk1 hP
   obtain rfl:i=l.length:=by omega
   cases fuel with
   | zero=>omega
   | succ fuel=>
    refine .inr ⟨k,by rw[loopF,hE],hk0,hk1,fun x hx=> ?_⟩
    obtain⟨j,hj⟩:=List.getElem?_of_mem hx
    exact hP j x (qS1.1 hj).1 hj
  | succ n ih=>
   intro i fuel k hn hi hf hk0 hk1 hP
   have hil:i<l.length:=by omega
   cases fuel with
   | zero=>omega
   | succ fuel=>
    obtain⟨r,hb,hr,hp⟩:=hB i l[i] k (qE1 hil) hk0 (by omega)
    rw[loopF,hb]
    by_cases hr0:r<0
    ·rw[if_pos hr0];exact .inl rfl
    ·rw[if_neg hr0]
     refine ih (i+1) fuel r (by omega) (by omega) (by omega) (by omega) (by omega) fun j x hj hx=> ?_
     by_cases hji:j=i
     ·subst hji
      rw[qE1 hil]at hx;cases hx
      exact hp (by omega)
     ·exact hP j x (by omega) hx
 exact key l.length 0 fuel left (by omega) (by omega) hf h0 (by omega) fun j x hj=>by omega
theorem to_IntS {fuel:Nat} {l:List Int} (hl:l.length<=1048576) (hf:1048586<fuel):pL_toIntS fuel l=some l:=by
 unfold pL_toIntS
 rw[gd_t ⟨by omega,by omega⟩,gd_t (show roomB K.int _ from⟨by omega,by show _*byt K.int<=_;rw[show byt K.int=8 from rfl];omega⟩)]
 have:=loopF_set (B:=pL_toIntS_b1 fuel) l (fun x=>x) (fun o=>o) (o:=List.replicate (l.length:Int).toNat (zK K.int)) (fuel:=fuel) (by simp) (fun i x o hxi ho=>by
  obtain⟨h1,h2,h3,h4,h5⟩:=idx_facts hxi (by omega)
  have hi:=(qS1.1 hxi).1
  unfold pL_toIntS_b1
  simp only[h1,br_t,gd_t h2,h3,bd_s,ho,show(0+(i:Int).toNat)=i by omega,qE1 (show i<o.length by omega),h5,gd_t h4])
  (fun o=>by unfold pL_toIntS_b1;simp) (by omega)
 rw[this]
 simp
theorem eq_IntS {fuel:Nat} {l:List Int} (hl:l.length<=1048581) (hf:1048586<fuel):pL_eqIntS fuel l l=some true:=by
 unfold pL_eqIntS
 simp only[bne_self_eq_false,br_f]
 have:=loopF_walk (B:=pL_eqIntS_b1 fuel) (fun i=>(l,l,(i:Int))) l.length (.inl ()) (fuel:=fuel) (v:=(l,l,0)) rfl (fun i hi=>by
  obtain⟨h1,h2,h3,h4,h5⟩:=idx_facts (qE1 hi) (by omega)
  unfold pL_eqIntS_b1
  simp only[h1,br_t,gd_t h2,h3,bd_s,Bool.not_true,br_f,h5,gd_t h4,bne_self_eq_false]) (by unfold pL_eqIntS_b1;simp) (by omega)
 rw[this]
 rfl
theorem to_ByteS {fuel:Nat} {l:List UInt8} (hl:l.length<=1048576) (hf:1048586<fuel):pL_toByteS fuel l=some l:=by
 unfold pL_toByteS
 rw[gd_t ⟨by omega,by omega⟩,gd_t (show roomB K.u8 _ from⟨by omega,by show _*byt K.u8<=_;rw[show byt K.u8=1 from rfl];omega⟩)]
 have:=loopF_set (B:=pL_toByteS_b1 fuel) l (fun x=>x) (fun o=>o) (o:=List.replicate (l.length:Int).toNat (zK K.u8)) (fuel:=fuel) (by simp) (fun i x o hxi ho=>by
  obtain⟨h1,h2,h3,h4,h5⟩:=idx_facts hxi (by omega)
  have hi:=(qS1.1 hxi).1
  unfold pL_toByteS_b1
  simp only[h1,br_t,gd_t h2,h3,bd_s,ho,show(0+(i:Int).toNat)=i by omega,qE1 (show i<o.length by omega),h5,gd_t h4,show UInt8.ofNat (x.toNat:Int).toNat=x by simp])
  (fun o=>by unfold pL_toByteS_b1;simp) (by omega)
 rw[this]
 simp
theorem eq_ByteS {fuel:Nat} {l:List UInt8} (hl:l.length<=1048581) (hf:1048586<fuel):pL_eqByteS fuel l l=some true:=by
 unfold pL_eqByteS
 simp only[bne_self_eq_false,br_f]
 have:=loopF_walk (B:=pL_eqByteS_b1 fuel) (fun i=>(l,l,(i:Int))) l.length (.inl ()) (fuel:=fuel) (v:=(l,l,0)) rfl (fun i hi=>by
  obtain⟨h1,h2,h3,h4,h5⟩:=idx_facts (qE1 hi) (by omega)
  unfold pL_eqByteS_b1
  simp only[h1,br_t,gd_t h2,h3,bd_s,Bool.not_true,br_f,h5,gd_t h4,bne_self_eq_false]) (by unfold pL_eqByteS_b1;simp) (by omega)
 rw[this]
 rfl
def tVp (x:LVp):IVp:=IVp.mk x.State x.Mark x.Args x.Part
def FitVp (n:Nat) (x:IVp):Prop:=x.Args.length<=n/\x.Part.length<=n
theorem FitVp.mono {x:IVp} (hm:m<=n) (h:FitVp m x):FitVp n x:=by
 obtain⟨h0,h1⟩:=h
 exact⟨Nat.le_trans h0 hm,Nat.le_trans h1 hm⟩
theorem to_Vp {fuel:Nat} {x:LVp} (hf:1048586<fuel) (h:FitVp 1048576 (tVp x)):pL_toVp fuel x=some (tVp x):=by
 obtain⟨l_Args,l_Part⟩:=h
 have q_Args:=to_IntS (fuel:=fuel) (l:=x.Args) (by simpa [tVp]using l_Args) hf
 have q_Part:=to_ByteS (fuel:=fuel) (l:=x.Part) (by simpa [tVp]using l_Part) hf
 unfold pL_toVp
 simp only[q_Args,q_Part,bd_s]
 rfl
theorem eq_Vp {fuel:Nat} {x:IVp} (hf:1048586<fuel) (h:FitVp 1048581 x):pL_eqVp fuel x x=some true:=by
 obtain⟨l_Args,l_Part⟩:=h
 have q_Args:=eq_IntS (fuel:=fuel) (l:=x.Args) l_Args hf
 have q_Part:=eq_ByteS (fuel:=fuel) (l:=x.Part) l_Part hf
 unfold pL_eqVp
 simp[q_Args,q_Part]
def tAttr (x:LAttr):IAttr:=IAttr.mk x.Fg x.Bg x.Bold x.Under x.Turn
theorem to_Attr {fuel:Nat} {x:LAttr}:pL_toAttr fuel x=some (tAttr x):=by
 unfold pL_toAttr
 rfl
theorem eq_Attr {fuel:Nat} {x:IAttr}:pL_eqAttr fuel x x=some true:=by
 unfold pL_eqAttr
 simp[]
def tCell (x:LCell):ICell:=ICell.mk x.R (tAttr x.A)
theorem to_Cell {fuel:Nat} {x:LCell}:pL_toCell fuel x=some (tCell x):=by
 have q_A:=to_Attr (fuel:=fuel) (x:=x.A)
 unfold pL_toCell
 simp only[q_A,bd_s]
 rfl
theorem eq_Cell {fuel:Nat} {x:ICell}:pL_eqCell fuel x x=some true:=by
 have q_A:=eq_Attr (fuel:=fuel) (x:=x.A)
 unfold pL_eqCell
 simp[q_A]
theorem to_CellS {fuel:Nat} {l:List LCell} (hl:l.length<=1048576) (hf:1048586<fuel):pL_toCellS fuel l=some (l.map tCell):=by
 unfold pL_toCellS
 rw[gd_t ⟨by omega,by omega⟩,gd_t (show roomB K.iCell _ from⟨by omega,by show _*byt K.iCell<=_;rw[show byt K.iCell=32 from rfl];omega⟩)]
 have:=loopF_set (B:=pL_toCellS_b1 fuel) l (tCell) (fun o=>o) (o:=List.replicate (l.length:Int).toNat (zK K.iCell)) (fuel:=fuel) (by simp) (fun i x o hxi ho=>by
  obtain⟨h1,h2,h3,h4,h5⟩:=idx_facts hxi (by omega)
  have hi:=(qS1.1 hxi).1
  unfold pL_toCellS_b1
  have ht:=to_Cell (fuel:=fuel) (x:=x)
  simp only[h1,br_t,gd_t h2,h3,bd_s,ht,ho,show(0+(i:Int).toNat)=i by omega,qE1 (show i<o.length by omega),h5,gd_t h4])
  (fun o=>by unfold pL_toCellS_b1;simp) (by omega)
 rw[this]
 rfl
theorem eq_CellS {fuel:Nat} {l:List ICell} (hl:l.length<=1048581) (hf:1048586<fuel):pL_eqCellS fuel l l=some true:=by
 unfold pL_eqCellS
 simp only[bne_self_eq_false,br_f]
 have:=loopF_walk (B:=pL_eqCellS_b1 fuel) (fun i=>(l,l,(i:Int))) l.length (.inl ()) (fuel:=fuel) (v:=(l,l,0)) rfl (fun i hi=>by
  obtain⟨h1,h2,h3,h4,h5⟩:=idx_facts (qE1 hi) (by omega)
  unfold pL_eqCellS_b1
  have ht:=eq_Cell (fuel:=fuel) (x:=l[i])
  simp only[h1,br_t,gd_t h2,h3,bd_s,ht,Bool.not_true,br_f,h5,gd_t h4,bne_self_eq_false]) (by unfold pL_eqCellS_b1;simp) (by omega)
 rw[this]
 rfl
def tGrid (x:LGrid):IGrid:=IGrid.mk x.W x.H (x.Cells.map tCell)
def FitGrid (n:Nat) (x:IGrid):Prop:=x.Cells.length<=n
theorem FitGrid.mono {x:IGrid} (hm:m<=n) (h:FitGrid m x):FitGrid n x:=Nat.le_trans (show _ from h) hm
theorem to_Grid {fuel:Nat} {x:LGrid} (hf:1048586<fuel) (h:FitGrid 1048576 (tGrid x)):pL_toGrid fuel x=some (tGrid x):=by
 have l_Cells:(tGrid x).Cells.length<=1048576:=h
 have q_Cells:=to_CellS (fuel:=fuel) (l:=x.Cells) (by simpa [tGrid]using l_Cells) hf
 unfold pL_toGrid
 simp only[q_Cells,bd_s]
 rfl
theorem eq_Grid {fuel:Nat} {x:IGrid} (hf:1048586<fuel) (h:FitGrid 1048581 x):pL_eqGrid fuel x x=some true:=by
 have l_Cells:x.Cells.length<=1048581:=h
 have q_Cells:=eq_CellS (fuel:=fuel) (l:=x.Cells) l_Cells hf
 unfold pL_eqGrid
 simp[q_Cells]
def tRow (x:LRow):IRow:=IRow.mk (x.Cells.map tCell)
def FitRow (n:Nat) (x:IRow):Prop:=x.Cells.length<=n
theorem FitRow.mono {x:IRow} (hm:m<=n) (h:FitRow m x):FitRow n x:=Nat.le_trans (show _ from h) hm
theorem to_Row {fuel:Nat} {x:LRow} (hf:1048586<fuel) (h:FitRow 1048576 (tRow x)):pL_toRow fuel x=some (tRow x):=by
 have l_Cells:(tRow x).Cells.length<=1048576:=h
 have q_Cells:=to_CellS (fuel:=fuel) (l:=x.Cells) (by simpa [tRow]using l_Cells) hf
 unfold pL_toRow
 simp only[q_Cells,bd_s]
 rfl
theorem eq_Row {fuel:Nat} {x:IRow} (hf:1048586<fuel) (h:FitRow 1048581 x):pL_eqRow fuel x x=some true:=by
 have l_Cells:x.Cells.length<=1048581:=h
 have q_Cells:=eq_CellS (fuel:=fuel) (l:=x.Cells) l_Cells hf
 unfold pL_eqRow
 simp[q_Cells]
theorem to_RowS {fuel:Nat} {l:List LRow} (hl:l.length<=1048576) (hf:1048586<fuel) (hx:∀y∈l,FitRow 1048576 (tRow y)):pL_toRowS fuel l=some (l.map tRow):=by
 unfold pL_toRowS
 rw[gd_t ⟨by omega,by omega⟩,gd_t (show roomB K.iRow _ from⟨by omega,by show _*byt K.iRow<=_;rw[show byt K.iRow=24 from rfl];omega⟩)]
 have:=loopF_set (B:=pL_toRowS_b1 fuel) l (tRow) (fun o=>o) (o:=List.replicate (l.length:Int).toNat (zK K.iRow)) (fuel:=fuel) (by simp) (fun i x o hxi ho=>by
  obtain⟨h1,h2,h3,h4,h5⟩:=idx_facts hxi (by omega)
  have hi:=(qS1.1 hxi).1
  unfold pL_toRowS_b1
  have ht:=to_Row (fuel:=fuel) (x:=x) hf (hx x (qM1 hxi))
  simp only[h1,br_t,gd_t h2,h3,bd_s,ht,ho,show(0+(i:Int).toNat)=i by omega,qE1 (show i<o.length by omega),h5,gd_t h4])
  (fun o=>by unfold pL_toRowS_b1;simp) (by omega)
 rw[this]
 rfl
theorem eq_RowS {fuel:Nat} {l:List IRow} (hl:l.length<=1048581) (hf:1048586<fuel) (hx:∀y∈l,FitRow 1048581 y):pL_eqRowS fuel l l=some true:=by
 unfold pL_eqRowS
 simp only[bne_self_eq_false,br_f]
 have:=loopF_walk (B:=pL_eqRowS_b1 fuel) (fun i=>(l,l,(i:Int))) l.length (.inl ()) (fuel:=fuel) (v:=(l,l,0)) rfl (fun i hi=>by
  obtain⟨h1,h2,h3,h4,h5⟩:=idx_facts (qE1 hi) (by omega)
  unfold pL_eqRowS_b1
  have ht:=eq_Row (fuel:=fuel) (x:=l[i]) hf (hx _ (List.getElem_mem hi))
  simp only[h1,br_t,gd_t h2,h3,bd_s,ht,Bool.not_true,br_f,h5,gd_t h4,bne_self_eq_false]) (by unfold pL_eqRowS_b1;simp) (by omega)
 rw[this]
 rfl
def tScr (x:LScr):IScr:=IScr.mk x.W x.H (tGrid x.Main) (tGrid x.Alt) x.OnAlt x.X x.Y x.Wrap (tAttr x.A) x.Top x.Bot x.NoWrap x.Hide x.SaveX x.SaveY (tAttr x.SaveA) x.Tabs x.Limit (x.Back.map tRow)
def FitScr (n:Nat) (x:IScr):Prop:=FitGrid n x.Main/\FitGrid n x.Alt/\x.Tabs.length<=n/\x.Back.length<=n/\(∀y∈x.Back,FitRow n y)
theorem FitScr.mono {m n:Nat} {x:IScr} (hm:m<=n) (h:FitScr m x):FitScr n x:=by
 obtain⟨h0,h1,h2,h3,h4⟩:=h
 exact⟨FitGrid.mono hm h0,FitGrid.mono hm h1,Nat.le_trans h2 hm,Nat.le_trans h3 hm,fun y hy=>FitRow.mono hm (h4 y hy)⟩
theorem to_Scr {fuel:Nat} {x:LScr} (hf:1048586<fuel) (h:FitScr 1048576 (tScr x)):pL_toScr fuel x=some (tScr x):=by
 obtain⟨f_Main,f_Alt,l_Tabs,l_Back,e_Back⟩:=h
 have q_Main:=to_Grid (fuel:=fuel) (x:=x.Main) hf f_Main
 have q_Alt:=to_Grid (fuel:=fuel) (x:=x.Alt) hf f_Alt
 have q_A:=to_Attr (fuel:=fuel) (x:=x.A)
 have q_SaveA:=to_Attr (fuel:=fuel) (x:=x.SaveA)
 have q_Tabs:=to_IntS (fuel:=fuel) (l:=x.Tabs) (by simpa [tScr]using l_Tabs) hf
 have q_Back:=to_RowS (fuel:=fuel) (l:=x.Back) (by simpa [tScr]using l_Back) hf (fun y hy=>e_Back _ (List.mem_map.2 ⟨y,hy,rfl⟩))
 unfold pL_toScr
 simp only[q_Main,q_Alt,q_A,q_SaveA,q_Tabs,q_Back,bd_s]
 rfl
theorem eq_Scr {fuel:Nat} {x:IScr} (hf:1048586<fuel) (h:FitScr 1048581 x):pL_eqScr fuel x x=some true:=by
 obtain⟨f_Main,f_Alt,l_Tabs,l_Back,e_Back⟩:=h
 have q_Main:=eq_Grid (fuel:=fuel) (x:=x.Main) hf f_Main
 have q_Alt:=eq_Grid (fuel:=fuel) (x:=x.Alt) hf f_Alt
 have q_A:=eq_Attr (fuel:=fuel) (x:=x.A)
 have q_SaveA:=eq_Attr (fuel:=fuel) (x:=x.SaveA)
 have q_Tabs:=eq_IntS (fuel:=fuel) (l:=x.Tabs) l_Tabs hf
 have q_Back:=eq_RowS (fuel:=fuel) (l:=x.Back) l_Back hf e_Back
 unfold pL_eqScr
 simp[q_Main,q_Alt,q_A,q_SaveA,q_Tabs,q_Back]
def tTerm (x:LTerm):ITerm:=ITerm.mk (tVp x.P) (tScr x.S)
def FitTerm (n:Nat) (x:ITerm):Prop:=FitVp n x.P/\FitScr n x.S
theorem FitTerm.mono {m n:Nat} {x:ITerm} (hm:m<=n) (h:FitTerm m x):FitTerm n x:=by
 obtain⟨h0,h1⟩:=h
 exact⟨FitVp.mono hm h0,FitScr.mono hm h1⟩
theorem to_Term {fuel:Nat} {x:LTerm} (hf:1048586<fuel) (h:FitTerm 1048576 (tTerm x)):pL_toTerm fuel x=some (tTerm x):=by
 obtain⟨f_P,f_S⟩:=h
 have q_P:=to_Vp (fuel:=fuel) (x:=x.P) hf f_P
 have q_S:=to_Scr (fuel:=fuel) (x:=x.S) hf f_S
 unfold pL_toTerm
 simp only[q_P,q_S,bd_s]
 rfl
theorem eq_Term {fuel:Nat} {x:ITerm} (hf:1048586<fuel) (h:FitTerm 1048581 x):pL_eqTerm fuel x x=some true:=by
 obtain⟨f_P,f_S⟩:=h
 have q_P:=eq_Vp (fuel:=fuel) (x:=x.P) hf f_P
 have q_S:=eq_Scr (fuel:=fuel) (x:=x.S) hf f_S
 unfold pL_eqTerm
 simp[q_P,q_S]
def tPane (x:LPane):IPane:=IPane.mk x.Id x.Cmd x.Dir x.Life x.Code x.Pid (tTerm x.Term)
def FitPane (n:Nat) (x:IPane):Prop:=x.Cmd.size<=n/\x.Dir.size<=n/\FitTerm n x.Term
theorem FitPane.mono {m n:Nat} {x:IPane} (hm:m<=n) (h:FitPane m x):FitPane n x:=by
 obtain⟨h0,h1,h2⟩:=h
 exact⟨Nat.le_trans h0 hm,Nat.le_trans h1 hm,FitTerm.mono hm h2⟩
theorem to_Pane {fuel:Nat} {x:LPane} (hf:1048586<fuel) (h:FitPane 1048576 (tPane x)):pL_toPane fuel x=some (tPane x):=by
 obtain⟨s_Cmd,s_Dir,f_Term⟩:=h
 have q_Term:=to_Term (fuel:=fuel) (x:=x.Term) hf f_Term
 unfold pL_toPane
 simp only[q_Term,bd_s]
 rfl
theorem eq_Pane {fuel:Nat} {x:IPane} (hf:1048586<fuel) (h:FitPane 1048581 x):pL_eqPane fuel x x=some true:=by
 obtain⟨s_Cmd,s_Dir,f_Term⟩:=h
 have q_Term:=eq_Term (fuel:=fuel) (x:=x.Term) hf f_Term
 unfold pL_eqPane
 simp[q_Term]
def tNode (x:LNode):INode:=INode.mk x.Pane x.Down x.First
theorem to_Node {fuel:Nat} {x:LNode}:pL_toNode fuel x=some (tNode x):=by
 unfold pL_toNode
 rfl
theorem eq_Node {fuel:Nat} {x:INode}:pL_eqNode fuel x x=some true:=by
 unfold pL_eqNode
 simp[]
theorem to_NodeS {fuel:Nat} {l:List LNode} (hl:l.length<=1048576) (hf:1048586<fuel):pL_toNodeS fuel l=some (l.map tNode):=by
 unfold pL_toNodeS
 rw[gd_t ⟨by omega,by omega⟩,gd_t (show roomB K.iNode _ from⟨by omega,by show _*byt K.iNode<=_;rw[show byt K.iNode=24 from rfl];omega⟩)]
 have:=loopF_set (B:=pL_toNodeS_b1 fuel) l (tNode) (fun o=>o) (o:=List.replicate (l.length:Int).toNat (zK K.iNode)) (fuel:=fuel) (by simp) (fun i x o hxi ho=>by
  obtain⟨h1,h2,h3,h4,h5⟩:=idx_facts hxi (by omega)
  have hi:=(qS1.1 hxi).1
  unfold pL_toNodeS_b1
  have ht:=to_Node (fuel:=fuel) (x:=x)
  simp only[h1,br_t,gd_t h2,h3,bd_s,ht,ho,show(0+(i:Int).toNat)=i by omega,qE1 (show i<o.length by omega),h5,gd_t h4])
  (fun o=>by unfold pL_toNodeS_b1;simp) (by omega)
 rw[this]
 rfl
theorem eq_NodeS {fuel:Nat} {l:List INode} (hl:l.length<=1048581) (hf:1048586<fuel):pL_eqNodeS fuel l l=some true:=by
 unfold pL_eqNodeS
 simp only[bne_self_eq_false,br_f]
 have:=loopF_walk (B:=pL_eqNodeS_b1 fuel) (fun i=>(l,l,(i:Int))) l.length (.inl ()) (fuel:=fuel) (v:=(l,l,0)) rfl (fun i hi=>by
  obtain⟨h1,h2,h3,h4,h5⟩:=idx_facts (qE1 hi) (by omega)
  unfold pL_eqNodeS_b1
  have ht:=eq_Node (fuel:=fuel) (x:=l[i])
  simp only[h1,br_t,gd_t h2,h3,bd_s,ht,Bool.not_true,br_f,h5,gd_t h4,bne_self_eq_false]) (by unfold pL_eqNodeS_b1;simp) (by omega)
 rw[this]
 rfl
def tWin (x:LWin):IWin:=IWin.mk x.Id x.Name (x.Tree.map tNode) x.Active x.Zoom
def FitWin (n:Nat) (x:IWin):Prop:=x.Name.size<=n/\x.Tree.length<=n
theorem FitWin.mono {x:IWin} (hm:m<=n) (h:FitWin m x):FitWin n x:=by
 obtain⟨h0,h1⟩:=h
 exact⟨Nat.le_trans h0 hm,Nat.le_trans h1 hm⟩
theorem to_Win {fuel:Nat} {x:LWin} (hf:1048586<fuel) (h:FitWin 1048576 (tWin x)):pL_toWin fuel x=some (tWin x):=by
 obtain⟨s_Name,l_Tree⟩:=h
 have q_Tree:=to_NodeS (fuel:=fuel) (l:=x.Tree) (by simpa [tWin]using l_Tree) hf
 unfold pL_toWin
 simp only[q_Tree,bd_s]
 rfl
theorem eq_Win {fuel:Nat} {x:IWin} (hf:1048586<fuel) (h:FitWin 1048581 x):pL_eqWin fuel x x=some true:=by
 obtain⟨s_Name,l_Tree⟩:=h
 have q_Tree:=eq_NodeS (fuel:=fuel) (l:=x.Tree) l_Tree hf
 unfold pL_eqWin
 simp[q_Tree]
def tSess (x:LSess):ISess:=ISess.mk x.Name x.Wins x.Active
def FitSess (n:Nat) (x:ISess):Prop:=x.Name.size<=n/\x.Wins.length<=n
theorem FitSess.mono {x:ISess} (hm:m<=n) (h:FitSess m x):FitSess n x:=by
 obtain⟨h0,h1⟩:=h
 exact⟨Nat.le_trans h0 hm,Nat.le_trans h1 hm⟩
theorem to_Sess {fuel:Nat} {x:LSess} (hf:1048586<fuel) (h:FitSess 1048576 (tSess x)):pL_toSess fuel x=some (tSess x):=by
 obtain⟨s_Name,l_Wins⟩:=h
 have q_Wins:=to_IntS (fuel:=fuel) (l:=x.Wins) (by simpa [tSess]using l_Wins) hf
 unfold pL_toSess
 simp only[q_Wins,bd_s]
 rfl
theorem eq_Sess {fuel:Nat} {x:ISess} (hf:1048586<fuel) (h:FitSess 1048581 x):pL_eqSess fuel x x=some true:=by
 obtain⟨s_Name,l_Wins⟩:=h
 have q_Wins:=eq_IntS (fuel:=fuel) (l:=x.Wins) l_Wins hf
 unfold pL_eqSess
 simp[q_Wins]
theorem to_PaneS {fuel:Nat} {l:List LPane} (hl:l.length<=1048576) (hf:1048586<fuel) (hx:∀y∈l,FitPane 1048576 (tPane y)):pL_toPaneS fuel l=some (l.map tPane):=by
 unfold pL_toPaneS
 rw[gd_t ⟨by omega,by omega⟩,gd_t (show roomB K.iPane _ from⟨by omega,by show _*byt K.iPane<=_;rw[show byt K.iPane=400 from rfl];omega⟩)]
 have:=loopF_set (B:=pL_toPaneS_b1 fuel) l (tPane) (fun o=>o) (o:=List.replicate (l.length:Int).toNat (zK K.iPane)) (fuel:=fuel) (by simp) (fun i x o hxi ho=>by
  obtain⟨h1,h2,h3,h4,h5⟩:=idx_facts hxi (by omega)
  have hi:=(qS1.1 hxi).1
  unfold pL_toPaneS_b1
  have ht:=to_Pane (fuel:=fuel) (x:=x) hf (hx x (qM1 hxi))
  simp only[h1,br_t,gd_t h2,h3,bd_s,ht,ho,show(0+(i:Int).toNat)=i by omega,qE1 (show i<o.length by omega),h5,gd_t h4])
  (fun o=>by unfold pL_toPaneS_b1;simp) (by omega)
 rw[this]
 rfl
theorem eq_PaneS {fuel:Nat} {l:List IPane} (hl:l.length<=1048581) (hf:1048586<fuel) (hx:∀y∈l,FitPane 1048581 y):pL_eqPaneS fuel l l=some true:=by
 unfold pL_eqPaneS
 simp only[bne_self_eq_false,br_f]
 have:=loopF_walk (B:=pL_eqPaneS_b1 fuel) (fun i=>(l,l,(i:Int))) l.length (.inl ()) (fuel:=fuel) (v:=(l,l,0)) rfl (fun i hi=>by
  obtain⟨h1,h2,h3,h4,h5⟩:=idx_facts (qE1 hi) (by omega)
  unfold pL_eqPaneS_b1
  have ht:=eq_Pane (fuel:=fuel) (x:=l[i]) hf (hx _ (List.getElem_mem hi))
  simp only[h1,br_t,gd_t h2,h3,bd_s,ht,Bool.not_true,br_f,h5,gd_t h4,bne_self_eq_false]) (by unfold pL_eqPaneS_b1;simp) (by omega)
 rw[this]
 rfl
theorem to_WinS {fuel:Nat} {l:List LWin} (hl:l.length<=1048576) (hf:1048586<fuel) (hx:∀y∈l,FitWin 1048576 (tWin y)):pL_toWinS fuel l=some (l.map tWin):=by
 unfold pL_toWinS
 rw[gd_t ⟨by omega,by omega⟩,gd_t (show roomB K.iWin _ from⟨by omega,by show _*byt K.iWin<=_;rw[show byt K.iWin=64 from rfl];omega⟩)]
 have:=loopF_set (B:=pL_toWinS_b1 fuel) l (tWin) (fun o=>o) (o:=List.replicate (l.length:Int).toNat (zK K.iWin)) (fuel:=fuel) (by simp) (fun i x o hxi ho=>by
  obtain⟨h1,h2,h3,h4,h5⟩:=idx_facts hxi (by omega)
  have hi:=(qS1.1 hxi).1
  unfold pL_toWinS_b1
  have ht:=to_Win (fuel:=fuel) (x:=x) hf (hx x (qM1 hxi))
  simp only[h1,br_t,gd_t h2,h3,bd_s,ht,ho,show(0+(i:Int).toNat)=i by omega,qE1 (show i<o.length by omega),h5,gd_t h4])
  (fun o=>by unfold pL_toWinS_b1;simp) (by omega)
 rw[this]
 rfl
theorem eq_WinS {fuel:Nat} {l:List IWin} (hl:l.length<=1048581) (hf:1048586<fuel) (hx:∀y∈l,FitWin 1048581 y):pL_eqWinS fuel l l=some true:=by
 unfold pL_eqWinS
 simp only[bne_self_eq_false,br_f]
 have:=loopF_walk (B:=pL_eqWinS_b1 fuel) (fun i=>(l,l,(i:Int))) l.length (.inl ()) (fuel:=fuel) (v:=(l,l,0)) rfl (fun i hi=>by
  obtain⟨h1,h2,h3,h4,h5⟩:=idx_facts (qE1 hi) (by omega)
  unfold pL_eqWinS_b1
  have ht:=eq_Win (fuel:=fuel) (x:=l[i]) hf (hx _ (List.getElem_mem hi))
  simp only[h1,br_t,gd_t h2,h3,bd_s,ht,Bool.not_true,br_f,h5,gd_t h4,bne_self_eq_false]) (by unfold pL_eqWinS_b1;simp) (by omega)
 rw[this]
 rfl
theorem to_SessS {fuel:Nat} {l:List LSess} (hl:l.length<=1048576) (hf:1048586<fuel) (hx:∀y∈l,FitSess 1048576 (tSess y)):pL_toSessS fuel l=some (l.map tSess):=by
 unfold pL_toSessS
 rw[gd_t ⟨by omega,by omega⟩,gd_t (show roomB K.iSess _ from⟨by omega,by show _*byt K.iSess<=_;rw[show byt K.iSess=48 from rfl];omega⟩)]
 have:=loopF_set (B:=pL_toSessS_b1 fuel) l (tSess) (fun o=>o) (o:=List.replicate (l.length:Int).toNat (zK K.iSess)) (fuel:=fuel) (by simp) (fun i x o hxi ho=>by
  obtain⟨h1,h2,h3,h4,h5⟩:=idx_facts hxi (by omega)
  have hi:=(qS1.1 hxi).1
  unfold pL_toSessS_b1
  have ht:=to_Sess (fuel:=fuel) (x:=x) hf (hx x (qM1 hxi))
  simp only[h1,br_t,gd_t h2,h3,bd_s,ht,ho,show(0+(i:Int).toNat)=i by omega,qE1 (show i<o.length by omega),h5,gd_t h4])
  (fun o=>by unfold pL_toSessS_b1;simp) (by omega)
 rw[this]
 rfl
theorem eq_SessS {fuel:Nat} {l:List ISess} (hl:l.length<=1048581) (hf:1048586<fuel) (hx:∀y∈l,FitSess 1048581 y):pL_eqSessS fuel l l=some true:=by
 unfold pL_eqSessS
 simp only[bne_self_eq_false,br_f]
 have:=loopF_walk (B:=pL_eqSessS_b1 fuel) (fun i=>(l,l,(i:Int))) l.length (.inl ()) (fuel:=fuel) (v:=(l,l,0)) rfl (fun i hi=>by
  obtain⟨h1,h2,h3,h4,h5⟩:=idx_facts (qE1 hi) (by omega)
  unfold pL_eqSessS_b1
  have ht:=eq_Sess (fuel:=fuel) (x:=l[i]) hf (hx _ (List.getElem_mem hi))
  simp only[h1,br_t,gd_t h2,h3,bd_s,ht,Bool.not_true,br_f,h5,gd_t h4,bne_self_eq_false]) (by unfold pL_eqSessS_b1;simp) (by omega)
 rw[this]
 rfl
def tState (x:LState):IState:=IState.mk x.W x.H x.Limit x.Next (x.Panes.map tPane) (x.Wins.map tWin) (x.Sess.map tSess)
def FitState (n:Nat) (x:IState):Prop:=x.Panes.length<=n/\(∀y∈x.Panes,FitPane n y)/\x.Wins.length<=n/\(∀y∈x.Wins,FitWin n y)/\x.Sess.length<=n/\(∀y∈x.Sess,FitSess n y)
theorem FitState.mono {m n:Nat} {x:IState} (hm:m<=n) (h:FitState m x):FitState n x:=by
 obtain⟨h0,h1,h2,h3,h4,h5⟩:=h
 exact⟨Nat.le_trans h0 hm,fun y hy=>FitPane.mono hm (h1 y hy),Nat.le_trans h2 hm,fun y hy=>FitWin.mono hm (h3 y hy),Nat.le_trans h4 hm,fun y hy=>FitSess.mono hm (h5 y hy)⟩
theorem to_State {fuel:Nat} (hf:1048586<fuel) (h:FitState 1048576 (tState x)):pL_toState fuel x=some (tState x):=by
 obtain⟨l_Panes,e_Panes,l_Wins,e_Wins,l_Sess,e_Sess⟩:=h
 have q_Panes:=to_PaneS (fuel:=fuel) (l:=x.Panes) (by simpa [tState]using l_Panes) hf (fun y hy=>e_Panes _ (List.mem_map.2 ⟨y,hy,rfl⟩))
 have q_Wins:=to_WinS (fuel:=fuel) (l:=x.Wins) (by simpa [tState]using l_Wins) hf (fun y hy=>e_Wins _ (List.mem_map.2 ⟨y,hy,rfl⟩))
 have q_Sess:=to_SessS (fuel:=fuel) (l:=x.Sess) (by simpa [tState]using l_Sess) hf (fun y hy=>e_Sess _ (List.mem_map.2 ⟨y,hy,rfl⟩))
 unfold pL_toState
 simp only[q_Panes,q_Wins,q_Sess,bd_s]
 rfl
theorem eq_State {fuel:Nat} {x:IState} (hf:1048586<fuel) (h:FitState 1048581 x):pL_eqState fuel x x=some true:=by
 obtain⟨l_Panes,e_Panes,l_Wins,e_Wins,l_Sess,e_Sess⟩:=h
 have q_Panes:=eq_PaneS (fuel:=fuel) (l:=x.Panes) l_Panes hf e_Panes
 have q_Wins:=eq_WinS (fuel:=fuel) (l:=x.Wins) l_Wins hf e_Wins
 have q_Sess:=eq_SessS (fuel:=fuel) (l:=x.Sess) l_Sess hf e_Sess
 unfold pL_eqState
 simp[q_Panes,q_Wins,q_Sess]
def tFile (x:LFile):IFile:=IFile.mk x.Id x.Body x.Safe
def FitFile (n:Nat) (x:IFile):Prop:=x.Body.length<=n
theorem FitFile.mono {x:IFile} (hm:m<=n) (h:FitFile m x):FitFile n x:=Nat.le_trans (show _ from h) hm
theorem to_File {fuel:Nat} {x:LFile} (hf:1048586<fuel) (h:FitFile 1048576 (tFile x)):pL_toFile fuel x=some (tFile x):=by
 have l_Body:(tFile x).Body.length<=1048576:=h
 have q_Body:=to_ByteS (fuel:=fuel) (l:=x.Body) (by simpa [tFile]using l_Body) hf
 unfold pL_toFile
 simp only[q_Body,bd_s]
 rfl
theorem eq_File {fuel:Nat} {x:IFile} (hf:1048586<fuel) (h:FitFile 1048581 x):pL_eqFile fuel x x=some true:=by
 have l_Body:x.Body.length<=1048581:=h
 have q_Body:=eq_ByteS (fuel:=fuel) (l:=x.Body) l_Body hf
 unfold pL_eqFile
 simp[q_Body]
def tLink (x:LLink):ILink:=ILink.mk x.Name x.Id
def FitLink (n:Nat) (x:ILink):Prop:=x.Name.size<=n
theorem FitLink.mono {x:ILink} (hm:m<=n) (h:FitLink m x):FitLink n x:=Nat.le_trans (show _ from h) hm
theorem to_Link {fuel:Nat} {x:LLink} (h:FitLink 1048576 (tLink x)):pL_toLink fuel x=some (tLink x):=by
 have s_Name:(tLink x).Name.size<=1048576:=h
 unfold pL_toLink
 rfl
theorem eq_Link {fuel:Nat} {x:ILink} (h:FitLink 1048581 x):pL_eqLink fuel x x=some true:=by
 have s_Name:x.Name.size<=1048581:=h
 unfold pL_eqLink
 simp[]
def tTurn (x:LTurn):ITurn:=ITurn.mk x.Kind x.Name x.To x.Id
def FitTurn (n:Nat) (x:ITurn):Prop:=x.Name.size<=n/\x.To.size<=n
theorem FitTurn.mono {x:ITurn} (hm:m<=n) (h:FitTurn m x):FitTurn n x:=by
 obtain⟨h0,h1⟩:=h
 exact⟨Nat.le_trans h0 hm,Nat.le_trans h1 hm⟩
theorem to_Turn {fuel:Nat} {x:LTurn} (h:FitTurn 1048576 (tTurn x)):pL_toTurn fuel x=some (tTurn x):=by
 obtain⟨s_Name,s_To⟩:=h
 unfold pL_toTurn
 rfl
theorem eq_Turn {fuel:Nat} {x:ITurn} (h:FitTurn 1048581 x):pL_eqTurn fuel x x=some true:=by
 obtain⟨s_Name,s_To⟩:=h
 unfold pL_eqTurn
 simp[]
theorem to_FileS {fuel:Nat} {l:List LFile} (hl:l.length<=1048576) (hf:1048586<fuel) (hx:∀y∈l,FitFile 1048576 (tFile y)):pL_toFileS fuel l=some (l.map tFile):=by
 unfold pL_toFileS
 rw[gd_t ⟨by omega,by omega⟩,gd_t (show roomB K.iFile _ from⟨by omega,by show _*byt K.iFile<=_;rw[show byt K.iFile=40 from rfl];omega⟩)]
 have:=loopF_set (B:=pL_toFileS_b1 fuel) l (tFile) (fun o=>o) (o:=List.replicate (l.length:Int).toNat (zK K.iFile)) (fuel:=fuel) (by simp) (fun i x o hxi ho=>by
  obtain⟨h1,h2,h3,h4,h5⟩:=idx_facts hxi (by omega)
  have hi:=(qS1.1 hxi).1
  unfold pL_toFileS_b1
  have ht:=to_File (fuel:=fuel) (x:=x) hf (hx x (qM1 hxi))
  simp only[h1,br_t,gd_t h2,h3,bd_s,ht,ho,show(0+(i:Int).toNat)=i by omega,qE1 (show i<o.length by omega),h5,gd_t h4])
  (fun o=>by unfold pL_toFileS_b1;simp) (by omega)
 rw[this]
 rfl
theorem eq_FileS {fuel:Nat} {l:List IFile} (hl:l.length<=1048581) (hf:1048586<fuel) (hx:∀y∈l,FitFile 1048581 y):pL_eqFileS fuel l l=some true:=by
 unfold pL_eqFileS
 simp only[bne_self_eq_false,br_f]
 have:=loopF_walk (B:=pL_eqFileS_b1 fuel) (fun i=>(l,l,(i:Int))) l.length (.inl ()) (fuel:=fuel) (v:=(l,l,0)) rfl (fun i hi=>by
  obtain⟨h1,h2,h3,h4,h5⟩:=idx_facts (qE1 hi) (by omega)
  unfold pL_eqFileS_b1
  have ht:=eq_File (fuel:=fuel) (x:=l[i]) hf (hx _ (List.getElem_mem hi))
  simp only[h1,br_t,gd_t h2,h3,bd_s,ht,Bool.not_true,br_f,h5,gd_t h4,bne_self_eq_false]) (by unfold pL_eqFileS_b1;simp) (by omega)
 rw[this]
 rfl
theorem to_LinkS {fuel:Nat} {l:List LLink} (hl:l.length<=1048576) (hf:1048586<fuel) (hx:∀y∈l,FitLink 1048576 (tLink y)):pL_toLinkS fuel l=some (l.map tLink):=by
 unfold pL_toLinkS
 rw[gd_t ⟨by omega,by omega⟩,gd_t (show roomB K.iLink _ from⟨by omega,by show _*byt K.iLink<=_;rw[show byt K.iLink=24 from rfl];omega⟩)]
 have:=loopF_set (B:=pL_toLinkS_b1 fuel) l (tLink) (fun o=>o) (o:=List.replicate (l.length:Int).toNat (zK K.iLink)) (fuel:=fuel) (by simp) (fun i x o hxi ho=>by
  obtain⟨h1,h2,h3,h4,h5⟩:=idx_facts hxi (by omega)
  have hi:=(qS1.1 hxi).1
  unfold pL_toLinkS_b1
  have ht:=to_Link (fuel:=fuel) (x:=x) (hx x (qM1 hxi))
  simp only[h1,br_t,gd_t h2,h3,bd_s,ht,ho,show(0+(i:Int).toNat)=i by omega,qE1 (show i<o.length by omega),h5,gd_t h4])
  (fun o=>by unfold pL_toLinkS_b1;simp) (by omega)
 rw[this]
 rfl
theorem eq_LinkS {fuel:Nat} {l:List ILink} (hl:l.length<=1048581) (hf:1048586<fuel) (hx:∀y∈l,FitLink 1048581 y):pL_eqLinkS fuel l l=some true:=by
 unfold pL_eqLinkS
 simp only[bne_self_eq_false,br_f]
 have:=loopF_walk (B:=pL_eqLinkS_b1 fuel) (fun i=>(l,l,(i:Int))) l.length (.inl ()) (fuel:=fuel) (v:=(l,l,0)) rfl (fun i hi=>by
  obtain⟨h1,h2,h3,h4,h5⟩:=idx_facts (qE1 hi) (by omega)
  unfold pL_eqLinkS_b1
  have ht:=eq_Link (fuel:=fuel) (x:=l[i]) (hx _ (List.getElem_mem hi))
  simp only[h1,br_t,gd_t h2,h3,bd_s,ht,Bool.not_true,br_f,h5,gd_t h4,bne_self_eq_false]) (by unfold pL_eqLinkS_b1;simp) (by omega)
 rw[this]
 rfl
theorem to_TurnS {fuel:Nat} {l:List LTurn} (hl:l.length<=1048576) (hf:1048586<fuel) (hx:∀y∈l,FitTurn 1048576 (tTurn y)):pL_toTurnS fuel l=some (l.map tTurn):=by
 unfold pL_toTurnS
 rw[gd_t ⟨by omega,by omega⟩,gd_t (show roomB K.iTurn _ from⟨by omega,by show _*byt K.iTurn<=_;rw[show byt K.iTurn=48 from rfl];omega⟩)]
 have:=loopF_set (B:=pL_toTurnS_b1 fuel) l (tTurn) (fun o=>o) (o:=List.replicate (l.length:Int).toNat (zK K.iTurn)) (fuel:=fuel) (by simp) (fun i x o hxi ho=>by
  obtain⟨h1,h2,h3,h4,h5⟩:=idx_facts hxi (by omega)
  have hi:=(qS1.1 hxi).1
  unfold pL_toTurnS_b1
  have ht:=to_Turn (fuel:=fuel) (x:=x) (hx x (qM1 hxi))
  simp only[h1,br_t,gd_t h2,h3,bd_s,ht,ho,show(0+(i:Int).toNat)=i by omega,qE1 (show i<o.length by omega),h5,gd_t h4])
  (fun o=>by unfold pL_toTurnS_b1;simp) (by omega)
 rw[this]
 rfl
theorem eq_TurnS {fuel:Nat} {l:List ITurn} (hl:l.length<=1048581) (hf:1048586<fuel) (hx:∀y∈l,FitTurn 1048581 y):pL_eqTurnS fuel l l=some true:=by
 unfold pL_eqTurnS
 simp only[bne_self_eq_false,br_f]
 have:=loopF_walk (B:=pL_eqTurnS_b1 fuel) (fun i=>(l,l,(i:Int))) l.length (.inl ()) (fuel:=fuel) (v:=(l,l,0)) rfl (fun i hi=>by
  obtain⟨h1,h2,h3,h4,h5⟩:=idx_facts (qE1 hi) (by omega)
  unfold pL_eqTurnS_b1
  have ht:=eq_Turn (fuel:=fuel) (x:=l[i]) (hx _ (List.getElem_mem hi))
  simp only[h1,br_t,gd_t h2,h3,bd_s,ht,Bool.not_true,br_f,h5,gd_t h4,bne_self_eq_false]) (by unfold pL_eqTurnS_b1;simp) (by omega)
 rw[this]
 rfl
def tDisk (x:LDisk):IDisk:=IDisk.mk x.Room x.Fuse x.Next (x.Files.map tFile) (x.Kept.map tLink) (x.Turns.map tTurn)
def FitDisk (n:Nat) (x:IDisk):Prop:=x.Files.length<=n/\(∀y∈x.Files,FitFile n y)/\x.Kept.length<=n/\(∀y∈x.Kept,FitLink n y)/\x.Turns.length<=n/\(∀y∈x.Turns,FitTurn n y)
theorem FitDisk.mono {m n:Nat} {x:IDisk} (hm:m<=n) (h:FitDisk m x):FitDisk n x:=by
 obtain⟨h0,h1,h2,h3,h4,h5⟩:=h
 exact⟨Nat.le_trans h0 hm,fun y hy=>FitFile.mono hm (h1 y hy),Nat.le_trans h2 hm,fun y hy=>FitLink.mono hm (h3 y hy),Nat.le_trans h4 hm,fun y hy=>FitTurn.mono hm (h5 y hy)⟩
theorem to_Disk {fuel:Nat} {x:LDisk} (hf:1048586<fuel) (h:FitDisk 1048576 (tDisk x)):pL_toDisk fuel x=some (tDisk x):=by
 obtain⟨l_Files,e_Files,l_Kept,e_Kept,l_Turns,e_Turns⟩:=h
 have q_Files:=to_FileS (fuel:=fuel) (l:=x.Files) (by simpa [tDisk]using l_Files) hf (fun y hy=>e_Files _ (List.mem_map.2 ⟨y,hy,rfl⟩))
 have q_Kept:=to_LinkS (fuel:=fuel) (l:=x.Kept) (by simpa [tDisk]using l_Kept) hf (fun y hy=>e_Kept _ (List.mem_map.2 ⟨y,hy,rfl⟩))
 have q_Turns:=to_TurnS (fuel:=fuel) (l:=x.Turns) (by simpa [tDisk]using l_Turns) hf (fun y hy=>e_Turns _ (List.mem_map.2 ⟨y,hy,rfl⟩))
 unfold pL_toDisk
 simp only[q_Files,q_Kept,q_Turns,bd_s]
 rfl
theorem eq_Disk {fuel:Nat} {x:IDisk} (hf:1048586<fuel) (h:FitDisk 1048581 x):pL_eqDisk fuel x x=some true:=by
 obtain⟨l_Files,e_Files,l_Kept,e_Kept,l_Turns,e_Turns⟩:=h
 have q_Files:=eq_FileS (fuel:=fuel) (l:=x.Files) l_Files hf e_Files
 have q_Kept:=eq_LinkS (fuel:=fuel) (l:=x.Kept) l_Kept hf e_Kept
 have q_Turns:=eq_TurnS (fuel:=fuel) (l:=x.Turns) l_Turns hf e_Turns
 unfold pL_eqDisk
 simp[q_Files,q_Kept,q_Turns]
def tDepot (x:LDepot):IDepot:=IDepot.mk (tDisk x.Disk) x.Gen x.Seq x.Size x.Stuck
def FitDepot (n:Nat) (x:IDepot):Prop:=FitDisk n x.Disk
theorem FitDepot.mono {m n:Nat} {x:IDepot} (hm:m<=n) (h:FitDepot m x):FitDepot n x:=FitDisk.mono hm h
theorem to_Depot {fuel:Nat} {x:LDepot} (hf:1048586<fuel) (h:FitDepot 1048576 (tDepot x)):pL_toDepot fuel x=some (tDepot x):=by
 have f_Disk:FitDisk 1048576 (tDepot x).Disk:=h
 have q_Disk:=to_Disk (fuel:=fuel) (x:=x.Disk) hf f_Disk
 unfold pL_toDepot
 simp only[q_Disk,bd_s]
 rfl
theorem eq_Depot {fuel:Nat} {x:IDepot} (hf:1048586<fuel) (h:FitDepot 1048581 x):pL_eqDepot fuel x x=some true:=by
 have f_Disk:FitDisk 1048581 x.Disk:=h
 have q_Disk:=eq_Disk (fuel:=fuel) (x:=x.Disk) hf f_Disk
 unfold pL_eqDepot
 simp[q_Disk]
def tProc (x:LProc):IProc:=IProc.mk x.Pid x.Pane
theorem to_Proc {fuel:Nat} {x:LProc}:pL_toProc fuel x=some (tProc x):=by
 unfold pL_toProc
 rfl
theorem eq_Proc {fuel:Nat} {x:IProc}:pL_eqProc fuel x x=some true:=by
 unfold pL_eqProc
 simp[]
def tAsk (x:LAsk):IAsk:=IAsk.mk x.Pane x.Cmd x.Dir x.W x.H x.Pid
def FitAsk (n:Nat) (x:IAsk):Prop:=x.Cmd.size<=n/\x.Dir.size<=n
theorem FitAsk.mono {x:IAsk} (hm:m<=n) (h:FitAsk m x):FitAsk n x:=by
 obtain⟨h0,h1⟩:=h
 exact⟨Nat.le_trans h0 hm,Nat.le_trans h1 hm⟩
theorem to_Ask {fuel:Nat} {x:LAsk} (h:FitAsk 1048576 (tAsk x)):pL_toAsk fuel x=some (tAsk x):=by
 obtain⟨s_Cmd,s_Dir⟩:=h
 unfold pL_toAsk
 rfl
theorem eq_Ask {fuel:Nat} {x:IAsk} (h:FitAsk 1048581 x):pL_eqAsk fuel x x=some true:=by
 obtain⟨s_Cmd,s_Dir⟩:=h
 unfold pL_eqAsk
 simp[]
theorem to_ProcS {fuel:Nat} {l:List LProc} (hl:l.length<=1048576) (hf:1048586<fuel):pL_toProcS fuel l=some (l.map tProc):=by
 unfold pL_toProcS
 rw[gd_t ⟨by omega,by omega⟩,gd_t (show roomB K.iProc _ from⟨by omega,by show _*byt K.iProc<=_;rw[show byt K.iProc=16 from rfl];omega⟩)]
 have:=loopF_set (B:=pL_toProcS_b1 fuel) l (tProc) (fun o=>o) (o:=List.replicate (l.length:Int).toNat (zK K.iProc)) (fuel:=fuel) (by simp) (fun i x o hxi ho=>by
  obtain⟨h1,h2,h3,h4,h5⟩:=idx_facts hxi (by omega)
  have hi:=(qS1.1 hxi).1
  unfold pL_toProcS_b1
  have ht:=to_Proc (fuel:=fuel) (x:=x)
  simp only[h1,br_t,gd_t h2,h3,bd_s,ht,ho,show(0+(i:Int).toNat)=i by omega,qE1 (show i<o.length by omega),h5,gd_t h4])
  (fun o=>by unfold pL_toProcS_b1;simp) (by omega)
 rw[this]
 rfl
theorem eq_ProcS {fuel:Nat} {l:List IProc} (hl:l.length<=1048581) (hf:1048586<fuel):pL_eqProcS fuel l l=some true:=by
 unfold pL_eqProcS
 simp only[bne_self_eq_false,br_f]
 have:=loopF_walk (B:=pL_eqProcS_b1 fuel) (fun i=>(l,l,(i:Int))) l.length (.inl ()) (fuel:=fuel) (v:=(l,l,0)) rfl (fun i hi=>by
  obtain⟨h1,h2,h3,h4,h5⟩:=idx_facts (qE1 hi) (by omega)
  unfold pL_eqProcS_b1
  have ht:=eq_Proc (fuel:=fuel) (x:=l[i])
  simp only[h1,br_t,gd_t h2,h3,bd_s,ht,Bool.not_true,br_f,h5,gd_t h4,bne_self_eq_false]) (by unfold pL_eqProcS_b1;simp) (by omega)
 rw[this]
 rfl
theorem to_AskS {fuel:Nat} {l:List LAsk} (hl:l.length<=1048576) (hf:1048586<fuel) (hx:∀y∈l,FitAsk 1048576 (tAsk y)):pL_toAskS fuel l=some (l.map tAsk):=by
 unfold pL_toAskS
 rw[gd_t ⟨by omega,by omega⟩,gd_t (show roomB K.iAsk _ from⟨by omega,by show _*byt K.iAsk<=_;rw[show byt K.iAsk=64 from rfl];omega⟩)]
 have:=loopF_set (B:=pL_toAskS_b1 fuel) l (tAsk) (fun o=>o) (o:=List.replicate (l.length:Int).toNat (zK K.iAsk)) (fuel:=fuel) (by simp) (fun i x o hxi ho=>by
  obtain⟨h1,h2,h3,h4,h5⟩:=idx_facts hxi (by omega)
  have hi:=(qS1.1 hxi).1
  unfold pL_toAskS_b1
  have ht:=to_Ask (fuel:=fuel) (x:=x) (hx x (qM1 hxi))
  simp only[h1,br_t,gd_t h2,h3,bd_s,ht,ho,show(0+(i:Int).toNat)=i by omega,qE1 (show i<o.length by omega),h5,gd_t h4])
  (fun o=>by unfold pL_toAskS_b1;simp) (by omega)
 rw[this]
 rfl
theorem eq_AskS {fuel:Nat} {l:List IAsk} (hl:l.length<=1048581) (hf:1048586<fuel) (hx:∀y∈l,FitAsk 1048581 y):pL_eqAskS fuel l l=some true:=by
 unfold pL_eqAskS
 simp only[bne_self_eq_false,br_f]
 have:=loopF_walk (B:=pL_eqAskS_b1 fuel) (fun i=>(l,l,(i:Int))) l.length (.inl ()) (fuel:=fuel) (v:=(l,l,0)) rfl (fun i hi=>by
  obtain⟨h1,h2,h3,h4,h5⟩:=idx_facts (qE1 hi) (by omega)
  unfold pL_eqAskS_b1
  have ht:=eq_Ask (fuel:=fuel) (x:=l[i]) (hx _ (List.getElem_mem hi))
  simp only[h1,br_t,gd_t h2,h3,bd_s,ht,Bool.not_true,br_f,h5,gd_t h4,bne_self_eq_false]) (by unfold pL_eqAskS_b1;simp) (by omega)
 rw[this]
 rfl
def tTable (x:LTable):ITable:=ITable.mk x.Next (x.Live.map tProc) (x.Asked.map tAsk)
def FitTable (n:Nat) (x:ITable):Prop:=x.Live.length<=n/\x.Asked.length<=n/\(∀y∈x.Asked,FitAsk n y)
theorem FitTable.mono {m n:Nat} {x:ITable} (hm:m<=n) (h:FitTable m x):FitTable n x:=by
 obtain⟨h0,h1,h2⟩:=h
 exact⟨Nat.le_trans h0 hm,Nat.le_trans h1 hm,fun y hy=>FitAsk.mono hm (h2 y hy)⟩
theorem to_Table {fuel:Nat} {x:LTable} (hf:1048586<fuel) (h:FitTable 1048576 (tTable x)):pL_toTable fuel x=some (tTable x):=by
 obtain⟨l_Live,l_Asked,e_Asked⟩:=h
 have q_Live:=to_ProcS (fuel:=fuel) (l:=x.Live) (by simpa [tTable]using l_Live) hf
 have q_Asked:=to_AskS (fuel:=fuel) (l:=x.Asked) (by simpa [tTable]using l_Asked) hf (fun y hy=>e_Asked _ (List.mem_map.2 ⟨y,hy,rfl⟩))
 unfold pL_toTable
 simp only[q_Live,q_Asked,bd_s]
 rfl
theorem eq_Table {fuel:Nat} {x:ITable} (hf:1048586<fuel) (h:FitTable 1048581 x):pL_eqTable fuel x x=some true:=by
 obtain⟨l_Live,l_Asked,e_Asked⟩:=h
 have q_Live:=eq_ProcS (fuel:=fuel) (l:=x.Live) l_Live hf
 have q_Asked:=eq_AskS (fuel:=fuel) (l:=x.Asked) l_Asked hf e_Asked
 unfold pL_eqTable
 simp[q_Live,q_Asked]
def tOp (x:LOp):IOp:=IOp.mk x.Kind x.A x.B x.C x.Name x.Text x.Dir x.Data
def FitOp (n:Nat) (x:IOp):Prop:=x.Name.size<=n/\x.Text.size<=n/\x.Dir.size<=n/\x.Data.length<=n
theorem FitOp.mono {x:IOp} (hm:m<=n) (h:FitOp m x):FitOp n x:=by
 obtain⟨h0,h1,h2,h3⟩:=h
 exact⟨Nat.le_trans h0 hm,Nat.le_trans h1 hm,Nat.le_trans h2 hm,Nat.le_trans h3 hm⟩
theorem to_Op {fuel:Nat} {x:LOp} (hf:1048586<fuel) (h:FitOp 1048576 (tOp x)):pL_toOp fuel x=some (tOp x):=by
 obtain⟨s_Name,s_Text,s_Dir,l_Data⟩:=h
 have q_Data:=to_ByteS (fuel:=fuel) (l:=x.Data) (by simpa [tOp]using l_Data) hf
 unfold pL_toOp
 simp only[q_Data,bd_s]
 rfl
theorem eq_Op {fuel:Nat} {x:IOp} (hf:1048586<fuel) (h:FitOp 1048581 x):pL_eqOp fuel x x=some true:=by
 obtain⟨s_Name,s_Text,s_Dir,l_Data⟩:=h
 have q_Data:=eq_ByteS (fuel:=fuel) (l:=x.Data) l_Data hf
 unfold pL_eqOp
 simp[q_Data]
def tHist (x:LHist):IHist:=IHist.mk x.Lost (tOp x.Op)
def FitHist (n:Nat) (x:IHist):Prop:=FitOp n x.Op
theorem FitHist.mono {m n:Nat} {x:IHist} (hm:m<=n) (h:FitHist m x):FitHist n x:=FitOp.mono hm h
theorem to_Hist {fuel:Nat} {x:LHist} (hf:1048586<fuel) (h:FitHist 1048576 (tHist x)):pL_toHist fuel x=some (tHist x):=by
 have f_Op:FitOp 1048576 (tHist x).Op:=h
 have q_Op:=to_Op (fuel:=fuel) (x:=x.Op) hf f_Op
 unfold pL_toHist
 simp only[q_Op,bd_s]
 rfl
theorem eq_Hist {fuel:Nat} {x:IHist} (hf:1048586<fuel) (h:FitHist 1048581 x):pL_eqHist fuel x x=some true:=by
 have f_Op:FitOp 1048581 x.Op:=h
 have q_Op:=eq_Op (fuel:=fuel) (x:=x.Op) hf f_Op
 unfold pL_eqHist
 simp[q_Op]
theorem to_HistS {fuel:Nat} {l:List LHist} (hl:l.length<=1048576) (hf:1048586<fuel) (hx:∀y∈l,FitHist 1048576 (tHist y)):pL_toHistS fuel l=some (l.map tHist):=by
 unfold pL_toHistS
 rw[gd_t ⟨by omega,by omega⟩,gd_t (show roomB K.iHist _ from⟨by omega,by show _*byt K.iHist<=_;rw[show byt K.iHist=112 from rfl];omega⟩)]
 have:=loopF_set (B:=pL_toHistS_b1 fuel) l (tHist) (fun o=>o) (o:=List.replicate (l.length:Int).toNat (zK K.iHist)) (fuel:=fuel) (by simp) (fun i x o hxi ho=>by
  obtain⟨h1,h2,h3,h4,h5⟩:=idx_facts hxi (by omega)
  have hi:=(qS1.1 hxi).1
  unfold pL_toHistS_b1
  have ht:=to_Hist (fuel:=fuel) (x:=x) hf (hx x (qM1 hxi))
  simp only[h1,br_t,gd_t h2,h3,bd_s,ht,ho,show(0+(i:Int).toNat)=i by omega,qE1 (show i<o.length by omega),h5,gd_t h4])
  (fun o=>by unfold pL_toHistS_b1;simp) (by omega)
 rw[this]
 rfl
theorem eq_HistS {fuel:Nat} {l:List IHist} (hl:l.length<=1048581) (hf:1048586<fuel) (hx:∀y∈l,FitHist 1048581 y):pL_eqHistS fuel l l=some true:=by
 unfold pL_eqHistS
 simp only[bne_self_eq_false,br_f]
 have:=loopF_walk (B:=pL_eqHistS_b1 fuel) (fun i=>(l,l,(i:Int))) l.length (.inl ()) (fuel:=fuel) (v:=(l,l,0)) rfl (fun i hi=>by
  obtain⟨h1,h2,h3,h4,h5⟩:=idx_facts (qE1 hi) (by omega)
  unfold pL_eqHistS_b1
  have ht:=eq_Hist (fuel:=fuel) (x:=l[i]) hf (hx _ (List.getElem_mem hi))
  simp only[h1,br_t,gd_t h2,h3,bd_s,ht,Bool.not_true,br_f,h5,gd_t h4,bne_self_eq_false]) (by unfold pL_eqHistS_b1;simp) (by omega)
 rw[this]
 rfl
def tSrv (x:LSrv):ISrv:=ISrv.mk (tState x.Base) x.Top x.Up (tState x.St) (tDepot x.Dep) (tDisk x.Disk) (tTable x.Tab) x.Sure (x.Done.map tHist)
def FitSrv (n:Nat) (x:ISrv):Prop:=FitState n x.Base/\FitState n x.St/\FitDepot n x.Dep/\FitDisk n x.Disk/\FitTable n x.Tab/\x.Done.length<=n/\(∀y∈x.Done,FitHist n y)
theorem FitSrv.mono {m n:Nat} {x:ISrv} (hm:m<=n) (h:FitSrv m x):FitSrv n x:=by
 obtain⟨h0,h1,h2,h3,h4,h5,h6⟩:=h
 exact⟨FitState.mono hm h0,FitState.mono hm h1,FitDepot.mono hm h2,FitDisk.mono hm h3,FitTable.mono hm h4,Nat.le_trans h5 hm,fun y hy=>FitHist.mono hm (h6 y hy)⟩
theorem to_Srv {fuel:Nat} {x:LSrv} (hf:1048586<fuel) (h:FitSrv 1048576 (tSrv x)):pL_toSrv fuel x=some (tSrv x):=by
 obtain⟨f_Base,f_St,f_Dep,f_Disk,f_Tab,l_Done,e_Done⟩:=h
 have q_Base:=to_State (fuel:=fuel) (x:=x.Base) hf f_Base
 have q_St:=to_State (fuel:=fuel) (x:=x.St) hf f_St
 have q_Dep:=to_Depot (fuel:=fuel) (x:=x.Dep) hf f_Dep
 have q_Disk:=to_Disk (fuel:=fuel) (x:=x.Disk) hf f_Disk
 have q_Tab:=to_Table (fuel:=fuel) (x:=x.Tab) hf f_Tab
 have q_Done:=to_HistS (fuel:=fuel) (l:=x.Done) (by simpa [tSrv]using l_Done) hf (fun y hy=>e_Done _ (List.mem_map.2 ⟨y,hy,rfl⟩))
 unfold pL_toSrv
 simp only[q_Base,q_St,q_Dep,q_Disk,q_Tab,q_Done,bd_s]
 rfl
theorem eq_Srv {fuel:Nat} {x:ISrv} (hf:1048586<fuel) (h:FitSrv 1048581 x):pL_eqSrv fuel x x=some true:=by
 obtain⟨f_Base,f_St,f_Dep,f_Disk,f_Tab,l_Done,e_Done⟩:=h
 have q_Base:=eq_State (fuel:=fuel) (x:=x.Base) hf f_Base
 have q_St:=eq_State (fuel:=fuel) (x:=x.St) hf f_St
 have q_Dep:=eq_Depot (fuel:=fuel) (x:=x.Dep) hf f_Dep
 have q_Disk:=eq_Disk (fuel:=fuel) (x:=x.Disk) hf f_Disk
 have q_Tab:=eq_Table (fuel:=fuel) (x:=x.Tab) hf f_Tab
 have q_Done:=eq_HistS (fuel:=fuel) (l:=x.Done) l_Done hf e_Done
 unfold pL_eqSrv
 simp[q_Base,q_St,q_Dep,q_Disk,q_Tab,q_Done]
theorem sz_IntS {fuel:Nat} {l:List Int} {left:Int} (hm:l.length<=9223372036854775807) (h0:0<=left) (h1:left<=1048576):∃r,pL_szIntS fuel l left=some r/\r<=left/\(0<=r->l.length<=1048576):=by
 unfold pL_szIntS
 rw[gd_i64 (by omega) (by omega)]
 by_cases hn:left-(l.length:Int)<0
 ·rw[qT1 hn];exact⟨-1,rfl,by omega,fun h=>by omega⟩
 rw[qF1 hn]
 exact⟨_,rfl,by omega,fun h=>by omega⟩
theorem sz_ByteS {fuel:Nat} {l:List UInt8} {left:Int} (hm:l.length<=9223372036854775807) (h0:0<=left) (h1:left<=1048576):∃r,pL_szByteS fuel l left=some r/\r<=left/\(0<=r->l.length<=1048576):=by
 unfold pL_szByteS
 rw[gd_i64 (by omega) (by omega)]
 by_cases hn:left-(l.length:Int)<0
 ·rw[qT1 hn];exact⟨-1,rfl,by omega,fun h=>by omega⟩
 rw[qF1 hn]
 exact⟨_,rfl,by omega,fun h=>by omega⟩
theorem sz_Vp {fuel:Nat} {x:LVp} {left:Int} (hf:1048586<fuel) (h:FitVp 9223372036854775807 (tVp x)) (h0:0<=left) (h1:left<=1048576):∃r,pL_szVp fuel x left=some r/\r<=left/\(0<=r->FitVp 1048576 (tVp x)):=by
 obtain⟨l_Args,l_Part⟩:=h
 unfold pL_szVp
 obtain⟨r_Args,a_Args,b_Args,c_Args⟩:=sz_IntS (fuel:=fuel) (l:=x.Args) (left:=left) (by simpa [tVp]using l_Args) (by omega) (by omega)
 rw[a_Args]
 simp only[bd_s]
 by_cases n_Args:r_Args<0
 ·rw[qT1 n_Args];exact⟨-1,rfl,by omega,fun h=>by omega⟩
 rw[qF1 n_Args]
 simp only[br_f]
 have d_Args:=c_Args (by omega)
 obtain⟨r_Part,a_Part,b_Part,c_Part⟩:=sz_ByteS (fuel:=fuel) (l:=x.Part) (left:=r_Args) (by simpa [tVp]using l_Part) (by omega) (by omega)
 rw[a_Part]
 simp only[bd_s]
 by_cases n_Part:r_Part<0
 ·rw[qT1 n_Part];exact⟨-1,rfl,by omega,fun h=>by omega⟩
 rw[qF1 n_Part]
 simp only[br_f]
 have d_Part:=c_Part (by omega)
 exact⟨_,rfl,by omega,fun _=>⟨d_Args,d_Part⟩⟩
theorem sz_CellS {fuel:Nat} {l:List LCell} {left:Int} (hm:l.length<=9223372036854775807) (h0:0<=left) (h1:left<=1048576):∃r,pL_szCellS fuel l left=some r/\r<=left/\(0<=r->l.length<=1048576):=by
 unfold pL_szCellS
 rw[gd_i64 (by omega) (by omega)]
 by_cases hn:left-(l.length:Int)<0
 ·rw[qT1 hn];exact⟨-1,rfl,by omega,fun h=>by omega⟩
 rw[qF1 hn]
 exact⟨_,rfl,by omega,fun h=>by omega⟩
theorem sz_Grid {fuel:Nat} {x:LGrid} {left:Int} (hf:1048586<fuel) (h:FitGrid 9223372036854775807 (tGrid x)) (h0:0<=left) (h1:left<=1048576):∃r,pL_szGrid fuel x left=some r/\r<=left/\(0<=r->FitGrid 1048576 (tGrid x)):=by
 have l_Cells:(tGrid x).Cells.length<=9223372036854775807:=h
 unfold pL_szGrid
 obtain⟨r_Cells,a_Cells,b_Cells,c_Cells⟩:=sz_CellS (fuel:=fuel) (l:=x.Cells) (left:=left) (by simpa [tGrid]using l_Cells) (by omega) (by omega)
 rw[a_Cells]
 simp only[bd_s]
 by_cases n_Cells:r_Cells<0
 ·rw[qT1 n_Cells];exact⟨-1,rfl,by omega,fun h=>by omega⟩
 rw[qF1 n_Cells]
 simp only[br_f]
 have d_Cells:=c_Cells (by omega)
 exact⟨_,rfl,by omega,fun _=>(by show(x.Cells.map tCell).length<=_;rw[List.length_map];exact d_Cells)⟩
theorem sz_Row {fuel:Nat} {x:LRow} {left:Int} (hf:1048586<fuel) (h:FitRow 9223372036854775807 (tRow x)) (h0:0<=left) (h1:left<=1048576):∃r,pL_szRow fuel x left=some r/\r<=left/\(0<=r->FitRow 1048576 (tRow x)):=by
 have l_Cells:(tRow x).Cells.length<=9223372036854775807:=h
 unfold pL_szRow
 obtain⟨r_Cells,a_Cells,b_Cells,c_Cells⟩:=sz_CellS (fuel:=fuel) (l:=x.Cells) (left:=left) (by simpa [tRow]using l_Cells) (by omega) (by omega)
 rw[a_Cells]
 simp only[bd_s]
 by_cases n_Cells:r_Cells<0
 ·rw[qT1 n_Cells];exact⟨-1,rfl,by omega,fun h=>by omega⟩
 rw[qF1 n_Cells]
 simp only[br_f]
 have d_Cells:=c_Cells (by omega)
 exact⟨_,rfl,by omega,fun _=>(by show(x.Cells.map tCell).length<=_;rw[List.length_map];exact d_Cells)⟩
theorem sz_RowS {fuel:Nat} {l:List LRow} {left:Int} (hm:l.length<=9223372036854775807) (h0:0<=left) (h1:left<=1048576) (hf:1048586<fuel) (hx:∀y∈l,FitRow 9223372036854775807 (tRow y)):∃r,pL_szRowS fuel l left=some r/\r<=left/\(0<=r->l.length<=1048576/\∀y∈l,FitRow 1048576 (tRow y)):=by
 unfold pL_szRowS
 rw[gd_i64 (by omega) (by omega)]
 by_cases hn:left-(l.length:Int)<0
 ·rw[qT1 hn];exact⟨-1,rfl,by omega,fun h=>by omega⟩
 rw[qF1 hn]
 have hl:l.length<=1048576:=by omega
 simp only[br_f]
 rcases loopF_sz (B:=pL_szRowS_b1 fuel) l (fun y=>FitRow 1048576 (tRow y)) (left:=left-(l.length:Int)) (fuel:=fuel) (by omega) (by omega) (fun i x k hxi hk0 hk1=>by
   obtain⟨g1,g2,g3,g4,g5⟩:=idx_facts hxi (by omega)
   obtain⟨r,e1,e2,e3⟩:=sz_Row (fuel:=fuel) (x:=x) (left:=k) hf (hx x (qM1 hxi)) hk0 hk1
   refine⟨r,?_,e2,e3⟩
   unfold pL_szRowS_b1
   simp only[g1,br_t,gd_t g2,g3,bd_s,e1,g5,gd_t g4,show IntKind.i64.wrap ((i+1:Nat):Int)=((i+1:Nat):Int)from g4]
   by_cases hr:r<0
   ·simp only[qT1 hr,br_t,if_pos hr]
   ·simp only[qF1 hr,br_f,if_neg hr]) (fun k=>by unfold pL_szRowS_b1;simp) (by omega)with h|⟨r,h,r0,r1,r2⟩
 ·rw[h];exact⟨-1,rfl,by omega,fun h=>by omega⟩
 ·rw[h];exact⟨r,rfl,by omega,fun _=>⟨hl,r2⟩⟩
theorem sz_Scr {fuel:Nat} {x:LScr} {left:Int} (hf:1048586<fuel) (h:FitScr 9223372036854775807 (tScr x)) (h0:0<=left) (h1:left<=1048576):∃r,pL_szScr fuel x left=some r/\r<=left/\(0<=r->FitScr 1048576 (tScr x)):=by
 obtain⟨f_Main,f_Alt,l_Tabs,l_Back,e_Back⟩:=h
 unfold pL_szScr
 obtain⟨r_Main,a_Main,b_Main,c_Main⟩:=sz_Grid (fuel:=fuel) (x:=x.Main) (left:=left) hf f_Main (by omega) (by omega)
 rw[a_Main]
 simp only[bd_s]
 by_cases n_Main:r_Main<0
 ·rw[qT1 n_Main];exact⟨-1,rfl,by omega,fun h=>by omega⟩
 rw[qF1 n_Main]
 simp only[br_f]
 have d_Main:=c_Main (by omega)
 obtain⟨r_Alt,a_Alt,b_Alt,c_Alt⟩:=sz_Grid (fuel:=fuel) (x:=x.Alt) (left:=r_Main) hf f_Alt (by omega) (by omega)
 rw[a_Alt]
 simp only[bd_s]
 by_cases n_Alt:r_Alt<0
 ·rw[qT1 n_Alt];exact⟨-1,rfl,by omega,fun h=>by omega⟩
 rw[qF1 n_Alt]
 simp only[br_f]
 have d_Alt:=c_Alt (by omega)
 obtain⟨r_Tabs,a_Tabs,b_Tabs,c_Tabs⟩:=sz_IntS (fuel:=fuel) (l:=x.Tabs) (left:=r_Alt) (by simpa [tScr]using l_Tabs) (by omega) (by omega)
 rw[a_Tabs]
 simp only[bd_s]
 by_cases n_Tabs:r_Tabs<0
 ·rw[qT1 n_Tabs];exact⟨-1,rfl,by omega,fun h=>by omega⟩
 rw[qF1 n_Tabs]
 simp only[br_f]
 have d_Tabs:=c_Tabs (by omega)
 obtain⟨r_Back,a_Back,b_Back,c_Back⟩:=sz_RowS (fuel:=fuel) (l:=x.Back) (left:=r_Tabs) (by simpa [tScr]using l_Back) (by omega) (by omega) hf (fun y hy=>e_Back _ (List.mem_map.2 ⟨y,hy,rfl⟩))
 rw[a_Back]
 simp only[bd_s]
 by_cases n_Back:r_Back<0
 ·rw[qT1 n_Back];exact⟨-1,rfl,by omega,fun h=>by omega⟩
 rw[qF1 n_Back]
 simp only[br_f]
 have d_Back:=c_Back (by omega)
 exact⟨_,rfl,by omega,fun _=>⟨d_Main,d_Alt,d_Tabs,(by show(x.Back.map tRow).length<=_;rw[List.length_map];exact d_Back.1),(fun y hy=>by obtain⟨z,hz,rfl⟩:=List.mem_map.1 hy;exact d_Back.2 z hz)⟩⟩
theorem sz_Term {fuel:Nat} {x:LTerm} {left:Int} (hf:1048586<fuel) (h:FitTerm 9223372036854775807 (tTerm x)) (h0:0<=left) (h1:left<=1048576):∃r,pL_szTerm fuel x left=some r/\r<=left/\(0<=r->FitTerm 1048576 (tTerm x)):=by
 obtain⟨f_P,f_S⟩:=h
 unfold pL_szTerm
 obtain⟨r_P,a_P,b_P,c_P⟩:=sz_Vp (fuel:=fuel) (x:=x.P) (left:=left) hf f_P (by omega) (by omega)
 rw[a_P]
 simp only[bd_s]
 by_cases n_P:r_P<0
 ·rw[qT1 n_P];exact⟨-1,rfl,by omega,fun h=>by omega⟩
 rw[qF1 n_P]
 simp only[br_f]
 have d_P:=c_P (by omega)
 obtain⟨r_S,a_S,b_S,c_S⟩:=sz_Scr (fuel:=fuel) (x:=x.S) (left:=r_P) hf f_S (by omega) (by omega)
 rw[a_S]
 simp only[bd_s]
 by_cases n_S:r_S<0
 ·rw[qT1 n_S];exact⟨-1,rfl,by omega,fun h=>by omega⟩
 rw[qF1 n_S]
 simp only[br_f]
 have d_S:=c_S (by omega)
 exact⟨_,rfl,by omega,fun _=>⟨d_P,d_S⟩⟩
theorem sz_Pane {fuel:Nat} {x:LPane} {left:Int} (hf:1048586<fuel) (h:FitPane 9223372036854775807 (tPane x)) (h0:0<=left) (h1:left<=1048576):∃r,pL_szPane fuel x left=some r/\r<=left/\(0<=r->FitPane 1048576 (tPane x)):=by
 obtain⟨s_Cmd,s_Dir,f_Term⟩:=h
 have s_Cmd:x.Cmd.size<=9223372036854775807:=s_Cmd
 have s_Dir:x.Dir.size<=9223372036854775807:=s_Dir
 unfold pL_szPane
 rw[gd_i64 (by omega) (by omega)]
 by_cases n_Cmd:left-(x.Cmd.size:Int)<0
 ·rw[qT1 n_Cmd];exact⟨-1,rfl,by omega,fun h=>by omega⟩
 rw[qF1 n_Cmd]
 simp only[br_f]
 rw[gd_i64 (by omega) (by omega)]
 by_cases n_Dir:left-(x.Cmd.size:Int)-(x.Dir.size:Int)<0
 ·rw[qT1 n_Dir];exact⟨-1,rfl,by omega,fun h=>by omega⟩
 rw[qF1 n_Dir]
 simp only[br_f]
 obtain⟨r_Term,a_Term,b_Term,c_Term⟩:=sz_Term (fuel:=fuel) (x:=x.Term) (left:=left-(x.Cmd.size:Int)-(x.Dir.size:Int)) hf f_Term (by omega) (by omega)
 rw[a_Term]
 simp only[bd_s]
 by_cases n_Term:r_Term<0
 ·rw[qT1 n_Term];exact⟨-1,rfl,by omega,fun h=>by omega⟩
 rw[qF1 n_Term]
 simp only[br_f]
 have d_Term:=c_Term (by omega)
 exact⟨_,rfl,by omega,fun _=>⟨(by show x.Cmd.size<=_;omega),(by show x.Dir.size<=_;omega),d_Term⟩⟩
theorem sz_NodeS {fuel:Nat} {l:List LNode} {left:Int} (hm:l.length<=9223372036854775807) (h0:0<=left) (h1:left<=1048576):∃r,pL_szNodeS fuel l left=some r/\r<=left/\(0<=r->l.length<=1048576):=by
 unfold pL_szNodeS
 rw[gd_i64 (by omega) (by omega)]
 by_cases hn:left-(l.length:Int)<0
 ·rw[qT1 hn];exact⟨-1,rfl,by omega,fun h=>by omega⟩
 rw[qF1 hn]
 exact⟨_,rfl,by omega,fun h=>by omega⟩
theorem sz_Win {fuel:Nat} {x:LWin} {left:Int} (hf:1048586<fuel) (h:FitWin 9223372036854775807 (tWin x)) (h0:0<=left) (h1:left<=1048576):∃r,pL_szWin fuel x left=some r/\r<=left/\(0<=r->FitWin 1048576 (tWin x)):=by
 obtain⟨s_Name,l_Tree⟩:=h
 have s_Name:x.Name.size<=9223372036854775807:=s_Name
 unfold pL_szWin
 rw[gd_i64 (by omega) (by omega)]
 by_cases n_Name:left-(x.Name.size:Int)<0
 ·rw[qT1 n_Name];exact⟨-1,rfl,by omega,fun h=>by omega⟩
 rw[qF1 n_Name]
 simp only[br_f]
 obtain⟨r_Tree,a_Tree,b_Tree,c_Tree⟩:=sz_NodeS (fuel:=fuel) (l:=x.Tree) (left:=left-(x.Name.size:Int)) (by simpa [tWin]using l_Tree) (by omega) (by omega)
 rw[a_Tree]
 simp only[bd_s]
 by_cases n_Tree:r_Tree<0
 ·rw[qT1 n_Tree];exact⟨-1,rfl,by omega,fun h=>by omega⟩
 rw[qF1 n_Tree]
 simp only[br_f]
 have d_Tree:=c_Tree (by omega)
 exact⟨_,rfl,by omega,fun _=>⟨(by show x.Name.size<=_;omega),(by show(x.Tree.map tNode).length<=_;rw[List.length_map];exact d_Tree)⟩⟩
theorem sz_Sess {fuel:Nat} {x:LSess} {left:Int} (hf:1048586<fuel) (h:FitSess 9223372036854775807 (tSess x)) (h0:0<=left) (h1:left<=1048576):∃r,pL_szSess fuel x left=some r/\r<=left/\(0<=r->FitSess 1048576 (tSess x)):=by
 obtain⟨s_Name,l_Wins⟩:=h
 have s_Name:x.Name.size<=9223372036854775807:=s_Name
 unfold pL_szSess
 rw[gd_i64 (by omega) (by omega)]
 by_cases n_Name:left-(x.Name.size:Int)<0
 ·rw[qT1 n_Name];exact⟨-1,rfl,by omega,fun h=>by omega⟩
 rw[qF1 n_Name]
 simp only[br_f]
 obtain⟨r_Wins,a_Wins,b_Wins,c_Wins⟩:=sz_IntS (fuel:=fuel) (l:=x.Wins) (left:=left-(x.Name.size:Int)) (by simpa [tSess]using l_Wins) (by omega) (by omega)
 rw[a_Wins]
 simp only[bd_s]
 by_cases n_Wins:r_Wins<0
 ·rw[qT1 n_Wins];exact⟨-1,rfl,by omega,fun h=>by omega⟩
 rw[qF1 n_Wins]
 simp only[br_f]
 have d_Wins:=c_Wins (by omega)
 exact⟨_,rfl,by omega,fun _=>⟨(by show x.Name.size<=_;omega),d_Wins⟩⟩
theorem sz_PaneS {fuel:Nat} {l:List LPane} {left:Int} (hm:l.length<=9223372036854775807) (h0:0<=left) (h1:left<=1048576) (hf:1048586<fuel) (hx:∀y∈l,FitPane 9223372036854775807 (tPane y)):∃r,pL_szPaneS fuel l left=some r/\r<=left/\(0<=r->l.length<=1048576/\∀y∈l,FitPane 1048576 (tPane y)):=by
 unfold pL_szPaneS
 rw[gd_i64 (by omega) (by omega)]
 by_cases hn:left-(l.length:Int)<0
 ·rw[qT1 hn];exact⟨-1,rfl,by omega,fun h=>by omega⟩
 rw[qF1 hn]
 have hl:l.length<=1048576:=by omega
 simp only[br_f]
 rcases loopF_sz (B:=pL_szPaneS_b1 fuel) l (fun y=>FitPane 1048576 (tPane y)) (left:=left-(l.length:Int)) (fuel:=fuel) (by omega) (by omega) (fun i x k hxi hk0 hk1=>by
   obtain⟨g1,g2,g3,g4,g5⟩:=idx_facts hxi (by omega)
   obtain⟨r,e1,e2,e3⟩:=sz_Pane (fuel:=fuel) (x:=x) (left:=k) hf (hx x (qM1 hxi)) hk0 hk1
   refine⟨r,?_,e2,e3⟩
   unfold pL_szPaneS_b1
   simp only[g1,br_t,gd_t g2,g3,bd_s,e1,g5,gd_t g4,show IntKind.i64.wrap ((i+1:Nat):Int)=((i+1:Nat):Int)from g4]
   by_cases hr:r<0
   ·simp only[qT1 hr,br_t,if_pos hr]
   ·simp only[qF1 hr,br_f,if_neg hr]) (fun k=>by unfold pL_szPaneS_b1;simp) (by omega)with h|⟨r,h,r0,r1,r2⟩
 ·rw[h];exact⟨-1,rfl,by omega,fun h=>by omega⟩
 ·rw[h];exact⟨r,rfl,by omega,fun _=>⟨hl,r2⟩⟩
theorem sz_WinS {fuel:Nat} {l:List LWin} {left:Int} (hm:l.length<=9223372036854775807) (h0:0<=left) (h1:left<=1048576) (hf:1048586<fuel) (hx:∀y∈l,FitWin 9223372036854775807 (tWin y)):∃r,pL_szWinS fuel l left=some r/\r<=left/\(0<=r->l.length<=1048576/\∀y∈l,FitWin 1048576 (tWin y)):=by
 unfold pL_szWinS
 rw[gd_i64 (by omega) (by omega)]
 by_cases hn:left-(l.length:Int)<0
 ·rw[qT1 hn];exact⟨-1,rfl,by omega,fun h=>by omega⟩
 rw[qF1 hn]
 have hl:l.length<=1048576:=by omega
 simp only[br_f]
 rcases loopF_sz (B:=pL_szWinS_b1 fuel) l (fun y=>FitWin 1048576 (tWin y)) (left:=left-(l.length:Int)) (fuel:=fuel) (by omega) (by omega) (fun i x k hxi hk0 hk1=>by
   obtain⟨g1,g2,g3,g4,g5⟩:=idx_facts hxi (by omega)
   obtain⟨r,e1,e2,e3⟩:=sz_Win (fuel:=fuel) (x:=x) (left:=k) hf (hx x (qM1 hxi)) hk0 hk1
   refine⟨r,?_,e2,e3⟩
   unfold pL_szWinS_b1
   simp only[g1,br_t,gd_t g2,g3,bd_s,e1,g5,gd_t g4,show IntKind.i64.wrap ((i+1:Nat):Int)=((i+1:Nat):Int)from g4]
   by_cases hr:r<0
   ·simp only[qT1 hr,br_t,if_pos hr]
   ·simp only[qF1 hr,br_f,if_neg hr]) (fun k=>by unfold pL_szWinS_b1;simp) (by omega)with h|⟨r,h,r0,r1,r2⟩
 ·rw[h];exact⟨-1,rfl,by omega,fun h=>by omega⟩
 ·rw[h];exact⟨r,rfl,by omega,fun _=>⟨hl,r2⟩⟩
theorem sz_SessS {fuel:Nat} {l:List LSess} {left:Int} (hm:l.length<=9223372036854775807) (h0:0<=left) (h1:left<=1048576) (hf:1048586<fuel) (hx:∀y∈l,FitSess 9223372036854775807 (tSess y)):∃r,pL_szSessS fuel l left=some r/\r<=left/\(0<=r->l.length<=1048576/\∀y∈l,FitSess 1048576 (tSess y)):=by
 unfold pL_szSessS
 rw[gd_i64 (by omega) (by omega)]
 by_cases hn:left-(l.length:Int)<0
 ·rw[qT1 hn];exact⟨-1,rfl,by omega,fun h=>by omega⟩
 rw[qF1 hn]
 have hl:l.length<=1048576:=by omega
 simp only[br_f]
 rcases loopF_sz (B:=pL_szSessS_b1 fuel) l (fun y=>FitSess 1048576 (tSess y)) (left:=left-(l.length:Int)) (fuel:=fuel) (by omega) (by omega) (fun i x k hxi hk0 hk1=>by
   obtain⟨g1,g2,g3,g4,g5⟩:=idx_facts hxi (by omega)
   obtain⟨r,e1,e2,e3⟩:=sz_Sess (fuel:=fuel) (x:=x) (left:=k) hf (hx x (qM1 hxi)) hk0 hk1
   refine⟨r,?_,e2,e3⟩
   unfold pL_szSessS_b1
   simp only[g1,br_t,gd_t g2,g3,bd_s,e1,g5,gd_t g4,show IntKind.i64.wrap ((i+1:Nat):Int)=((i+1:Nat):Int)from g4]
   by_cases hr:r<0
   ·simp only[qT1 hr,br_t,if_pos hr]
   ·simp only[qF1 hr,br_f,if_neg hr]) (fun k=>by unfold pL_szSessS_b1;simp) (by omega)with h|⟨r,h,r0,r1,r2⟩
 ·rw[h];exact⟨-1,rfl,by omega,fun h=>by omega⟩
 ·rw[h];exact⟨r,rfl,by omega,fun _=>⟨hl,r2⟩⟩
theorem sz_State {fuel:Nat} {left:Int} (hf:1048586<fuel) (h:FitState 9223372036854775807 (tState x)) (h0:0<=left) (h1:left<=1048576):∃r,pL_szState fuel x left=some r/\r<=left/\(0<=r->FitState 1048576 (tState x)):=by
 obtain⟨l_Panes,e_Panes,l_Wins,e_Wins,l_Sess,e_Sess⟩:=h
 unfold pL_szState
 obtain⟨r_Panes,a_Panes,b_Panes,c_Panes⟩:=sz_PaneS (fuel:=fuel) (l:=x.Panes) (left:=left) (by simpa [tState]using l_Panes) (by omega) (by omega) hf (fun y hy=>e_Panes _ (List.mem_map.2 ⟨y,hy,rfl⟩))
 rw[a_Panes]
 simp only[bd_s]
 by_cases n_Panes:r_Panes<0
 ·rw[qT1 n_Panes];exact⟨-1,rfl,by omega,fun h=>by omega⟩
 rw[qF1 n_Panes]
 simp only[br_f]
 have d_Panes:=c_Panes (by omega)
 obtain⟨r_Wins,a_Wins,b_Wins,c_Wins⟩:=sz_WinS (fuel:=fuel) (l:=x.Wins) (left:=r_Panes) (by simpa [tState]using l_Wins) (by omega) (by omega) hf (fun y hy=>e_Wins _ (List.mem_map.2 ⟨y,hy,rfl⟩))
 rw[a_Wins]
 simp only[bd_s]
 by_cases n_Wins:r_Wins<0
 ·rw[qT1 n_Wins];exact⟨-1,rfl,by omega,fun h=>by omega⟩
 rw[qF1 n_Wins]
 simp only[br_f]
 have d_Wins:=c_Wins (by omega)
 obtain⟨r_Sess,a_Sess,b_Sess,c_Sess⟩:=sz_SessS (fuel:=fuel) (l:=x.Sess) (left:=r_Wins) (by simpa [tState]using l_Sess) (by omega) (by omega) hf (fun y hy=>e_Sess _ (List.mem_map.2 ⟨y,hy,rfl⟩))
 rw[a_Sess]
 simp only[bd_s]
 by_cases n_Sess:r_Sess<0
 ·rw[qT1 n_Sess];exact⟨-1,rfl,by omega,fun h=>by omega⟩
 rw[qF1 n_Sess]
 simp only[br_f]
 have d_Sess:=c_Sess (by omega)
 exact⟨_,rfl,by omega,fun _=>⟨(by show(x.Panes.map tPane).length<=_;rw[List.length_map];exact d_Panes.1),(fun y hy=>by obtain⟨z,hz,rfl⟩:=List.mem_map.1 hy;exact d_Panes.2 z hz),(by show(x.Wins.map tWin).length<=_;rw[List.length_map];exact d_Wins.1),(fun y hy=>by obtain⟨z,hz,rfl⟩:=List.mem_map.1 hy;exact d_Wins.2 z hz),(by show(x.Sess.map tSess).length<=_;rw[List.length_map];exact d_Sess.1),(fun y hy=>by obtain⟨z,hz,rfl⟩:=List.mem_map.1 hy;exact d_Sess.2 z hz)⟩⟩
theorem sz_File {fuel:Nat} {x:LFile} {left:Int} (hf:1048586<fuel) (h:FitFile 9223372036854775807 (tFile x)) (h0:0<=left) (h1:left<=1048576):∃r,pL_szFile fuel x left=some r/\r<=left/\(0<=r->FitFile 1048576 (tFile x)):=by
 have l_Body:(tFile x).Body.length<=9223372036854775807:=h
 unfold pL_szFile
 obtain⟨r_Body,a_Body,b_Body,c_Body⟩:=sz_ByteS (fuel:=fuel) (l:=x.Body) (left:=left) (by simpa [tFile]using l_Body) (by omega) (by omega)
 rw[a_Body]
 simp only[bd_s]
 by_cases n_Body:r_Body<0
 ·rw[qT1 n_Body];exact⟨-1,rfl,by omega,fun h=>by omega⟩
 rw[qF1 n_Body]
 simp only[br_f]
 have d_Body:=c_Body (by omega)
 exact⟨_,rfl,by omega,fun _=>d_Body⟩
theorem sz_Link {fuel:Nat} {x:LLink} {left:Int} (h:FitLink 9223372036854775807 (tLink x)) (h0:0<=left) (h1:left<=1048576):∃r,pL_szLink fuel x left=some r/\r<=left/\(0<=r->FitLink 1048576 (tLink x)):=by
 have s_Name:(tLink x).Name.size<=9223372036854775807:=h
 have s_Name:x.Name.size<=9223372036854775807:=s_Name
 unfold pL_szLink
 rw[gd_i64 (by omega) (by omega)]
 by_cases n_Name:left-(x.Name.size:Int)<0
 ·rw[qT1 n_Name];exact⟨-1,rfl,by omega,fun h=>by omega⟩
 rw[qF1 n_Name]
 simp only[br_f]
 exact⟨_,rfl,by omega,fun _=>(by show x.Name.size<=_;omega)⟩
theorem sz_Turn {fuel:Nat} {x:LTurn} {left:Int} (h:FitTurn 9223372036854775807 (tTurn x)) (h0:0<=left) (h1:left<=1048576):∃r,pL_szTurn fuel x left=some r/\r<=left/\(0<=r->FitTurn 1048576 (tTurn x)):=by
 obtain⟨s_Name,s_To⟩:=h
 have s_Name:x.Name.size<=9223372036854775807:=s_Name
 have s_To:x.To.size<=9223372036854775807:=s_To
 unfold pL_szTurn
 rw[gd_i64 (by omega) (by omega)]
 by_cases n_Name:left-(x.Name.size:Int)<0
 ·rw[qT1 n_Name];exact⟨-1,rfl,by omega,fun h=>by omega⟩
 rw[qF1 n_Name]
 simp only[br_f]
 rw[gd_i64 (by omega) (by omega)]
 by_cases n_To:left-(x.Name.size:Int)-(x.To.size:Int)<0
 ·rw[qT1 n_To];exact⟨-1,rfl,by omega,fun h=>by omega⟩
 rw[qF1 n_To]
 simp only[br_f]
 exact⟨_,rfl,by omega,fun _=>⟨(by show x.Name.size<=_;omega),(by show x.To.size<=_;omega)⟩⟩
theorem sz_FileS {fuel:Nat} {l:List LFile} {left:Int} (hm:l.length<=9223372036854775807) (h0:0<=left) (h1:left<=1048576) (hf:1048586<fuel) (hx:∀y∈l,FitFile 9223372036854775807 (tFile y)):∃r,pL_szFileS fuel l left=some r/\r<=left/\(0<=r->l.length<=1048576/\∀y∈l,FitFile 1048576 (tFile y)):=by
 unfold pL_szFileS
 rw[gd_i64 (by omega) (by omega)]
 by_cases hn:left-(l.length:Int)<0
 ·rw[qT1 hn];exact⟨-1,rfl,by omega,fun h=>by omega⟩
 rw[qF1 hn]
 have hl:l.length<=1048576:=by omega
 simp only[br_f]
 rcases loopF_sz (B:=pL_szFileS_b1 fuel) l (fun y=>FitFile 1048576 (tFile y)) (left:=left-(l.length:Int)) (fuel:=fuel) (by omega) (by omega) (fun i x k hxi hk0 hk1=>by
   obtain⟨g1,g2,g3,g4,g5⟩:=idx_facts hxi (by omega)
   obtain⟨r,e1,e2,e3⟩:=sz_File (fuel:=fuel) (x:=x) (left:=k) hf (hx x (qM1 hxi)) hk0 hk1
   refine⟨r,?_,e2,e3⟩
   unfold pL_szFileS_b1
   simp only[g1,br_t,gd_t g2,g3,bd_s,e1,g5,gd_t g4,show IntKind.i64.wrap ((i+1:Nat):Int)=((i+1:Nat):Int)from g4]
   by_cases hr:r<0
   ·simp only[qT1 hr,br_t,if_pos hr]
   ·simp only[qF1 hr,br_f,if_neg hr]) (fun k=>by unfold pL_szFileS_b1;simp) (by omega)with h|⟨r,h,r0,r1,r2⟩
 ·rw[h];exact⟨-1,rfl,by omega,fun h=>by omega⟩
 ·rw[h];exact⟨r,rfl,by omega,fun _=>⟨hl,r2⟩⟩
theorem sz_LinkS {fuel:Nat} {l:List LLink} {left:Int} (hm:l.length<=9223372036854775807) (h0:0<=left) (h1:left<=1048576) (hf:1048586<fuel) (hx:∀y∈l,FitLink 9223372036854775807 (tLink y)):∃r,pL_szLinkS fuel l left=some r/\r<=left/\(0<=r->l.length<=1048576/\∀y∈l,FitLink 1048576 (tLink y)):=by
 unfold pL_szLinkS
 rw[gd_i64 (by omega) (by omega)]
 by_cases hn:left-(l.length:Int)<0
 ·rw[qT1 hn];exact⟨-1,rfl,by omega,fun h=>by omega⟩
 rw[qF1 hn]
 have hl:l.length<=1048576:=by omega
 simp only[br_f]
 rcases loopF_sz (B:=pL_szLinkS_b1 fuel) l (fun y=>FitLink 1048576 (tLink y)) (left:=left-(l.length:Int)) (fuel:=fuel) (by omega) (by omega) (fun i x k hxi hk0 hk1=>by
   obtain⟨g1,g2,g3,g4,g5⟩:=idx_facts hxi (by omega)
   obtain⟨r,e1,e2,e3⟩:=sz_Link (fuel:=fuel) (x:=x) (left:=k) (hx x (qM1 hxi)) hk0 hk1
   refine⟨r,?_,e2,e3⟩
   unfold pL_szLinkS_b1
   simp only[g1,br_t,gd_t g2,g3,bd_s,e1,g5,gd_t g4,show IntKind.i64.wrap ((i+1:Nat):Int)=((i+1:Nat):Int)from g4]
   by_cases hr:r<0
   ·simp only[qT1 hr,br_t,if_pos hr]
   ·simp only[qF1 hr,br_f,if_neg hr]) (fun k=>by unfold pL_szLinkS_b1;simp) (by omega)with h|⟨r,h,r0,r1,r2⟩
 ·rw[h];exact⟨-1,rfl,by omega,fun h=>by omega⟩
 ·rw[h];exact⟨r,rfl,by omega,fun _=>⟨hl,r2⟩⟩
theorem sz_TurnS {fuel:Nat} {l:List LTurn} {left:Int} (hm:l.length<=9223372036854775807) (h0:0<=left) (h1:left<=1048576) (hf:1048586<fuel) (hx:∀y∈l,FitTurn 9223372036854775807 (tTurn y)):∃r,pL_szTurnS fuel l left=some r/\r<=left/\(0<=r->l.length<=1048576/\∀y∈l,FitTurn 1048576 (tTurn y)):=by
 unfold pL_szTurnS
 rw[gd_i64 (by omega) (by omega)]
 by_cases hn:left-(l.length:Int)<0
 ·rw[qT1 hn];exact⟨-1,rfl,by omega,fun h=>by omega⟩
 rw[qF1 hn]
 have hl:l.length<=1048576:=by omega
 simp only[br_f]
 rcases loopF_sz (B:=pL_szTurnS_b1 fuel) l (fun y=>FitTurn 1048576 (tTurn y)) (left:=left-(l.length:Int)) (fuel:=fuel) (by omega) (by omega) (fun i x k hxi hk0 hk1=>by
   obtain⟨g1,g2,g3,g4,g5⟩:=idx_facts hxi (by omega)
   obtain⟨r,e1,e2,e3⟩:=sz_Turn (fuel:=fuel) (x:=x) (left:=k) (hx x (qM1 hxi)) hk0 hk1
   refine⟨r,?_,e2,e3⟩
   unfold pL_szTurnS_b1
   simp only[g1,br_t,gd_t g2,g3,bd_s,e1,g5,gd_t g4,show IntKind.i64.wrap ((i+1:Nat):Int)=((i+1:Nat):Int)from g4]
   by_cases hr:r<0
   ·simp only[qT1 hr,br_t,if_pos hr]
   ·simp only[qF1 hr,br_f,if_neg hr]) (fun k=>by unfold pL_szTurnS_b1;simp) (by omega)with h|⟨r,h,r0,r1,r2⟩
 ·rw[h];exact⟨-1,rfl,by omega,fun h=>by omega⟩
 ·rw[h];exact⟨r,rfl,by omega,fun _=>⟨hl,r2⟩⟩
theorem sz_Disk {fuel:Nat} {x:LDisk} {left:Int} (hf:1048586<fuel) (h:FitDisk 9223372036854775807 (tDisk x)) (h0:0<=left) (h1:left<=1048576):∃r,pL_szDisk fuel x left=some r/\r<=left/\(0<=r->FitDisk 1048576 (tDisk x)):=by
 obtain⟨l_Files,e_Files,l_Kept,e_Kept,l_Turns,e_Turns⟩:=h
 unfold pL_szDisk
 obtain⟨r_Files,a_Files,b_Files,c_Files⟩:=sz_FileS (fuel:=fuel) (l:=x.Files) (left:=left) (by simpa [tDisk]using l_Files) (by omega) (by omega) hf (fun y hy=>e_Files _ (List.mem_map.2 ⟨y,hy,rfl⟩))
 rw[a_Files]
 simp only[bd_s]
 by_cases n_Files:r_Files<0
 ·rw[qT1 n_Files];exact⟨-1,rfl,by omega,fun h=>by omega⟩
 rw[qF1 n_Files]
 simp only[br_f]
 have d_Files:=c_Files (by omega)
 obtain⟨r_Kept,a_Kept,b_Kept,c_Kept⟩:=sz_LinkS (fuel:=fuel) (l:=x.Kept) (left:=r_Files) (by simpa [tDisk]using l_Kept) (by omega) (by omega) hf (fun y hy=>e_Kept _ (List.mem_map.2 ⟨y,hy,rfl⟩))
 rw[a_Kept]
 simp only[bd_s]
 by_cases n_Kept:r_Kept<0
 ·rw[qT1 n_Kept];exact⟨-1,rfl,by omega,fun h=>by omega⟩
 rw[qF1 n_Kept]
 simp only[br_f]
 have d_Kept:=c_Kept (by omega)
 obtain⟨r_Turns,a_Turns,b_Turns,c_Turns⟩:=sz_TurnS (fuel:=fuel) (l:=x.Turns) (left:=r_Kept) (by simpa [tDisk]using l_Turns) (by omega) (by omega) hf (fun y hy=>e_Turns _ (List.mem_map.2 ⟨y,hy,rfl⟩))
 rw[a_Turns]
 simp only[bd_s]
 by_cases n_Turns:r_Turns<0
 ·rw[qT1 n_Turns];exact⟨-1,rfl,by omega,fun h=>by omega⟩
 rw[qF1 n_Turns]
 simp only[br_f]
 have d_Turns:=c_Turns (by omega)
 exact⟨_,rfl,by omega,fun _=>⟨(by show(x.Files.map tFile).length<=_;rw[List.length_map];exact d_Files.1),(fun y hy=>by obtain⟨z,hz,rfl⟩:=List.mem_map.1 hy;exact d_Files.2 z hz),(by show(x.Kept.map tLink).length<=_;rw[List.length_map];exact d_Kept.1),(fun y hy=>by obtain⟨z,hz,rfl⟩:=List.mem_map.1 hy;exact d_Kept.2 z hz),(by show(x.Turns.map tTurn).length<=_;rw[List.length_map];exact d_Turns.1),(fun y hy=>by obtain⟨z,hz,rfl⟩:=List.mem_map.1 hy;exact d_Turns.2 z hz)⟩⟩
theorem sz_Depot {fuel:Nat} {x:LDepot} {left:Int} (hf:1048586<fuel) (h:FitDepot 9223372036854775807 (tDepot x)) (h0:0<=left) (h1:left<=1048576):∃r,pL_szDepot fuel x left=some r/\r<=left/\(0<=r->FitDepot 1048576 (tDepot x)):=by
 have f_Disk:FitDisk 9223372036854775807 (tDepot x).Disk:=h
 unfold pL_szDepot
 obtain⟨r_Disk,a_Disk,b_Disk,c_Disk⟩:=sz_Disk (fuel:=fuel) (x:=x.Disk) (left:=left) hf f_Disk (by omega) (by omega)
 rw[a_Disk]
 simp only[bd_s]
 by_cases n_Disk:r_Disk<0
 ·rw[qT1 n_Disk];exact⟨-1,rfl,by omega,fun h=>by omega⟩
 rw[qF1 n_Disk]
 simp only[br_f]
 have d_Disk:=c_Disk (by omega)
 exact⟨_,rfl,by omega,fun _=>d_Disk⟩
theorem sz_Ask {fuel:Nat} {x:LAsk} {left:Int} (h:FitAsk 9223372036854775807 (tAsk x)) (h0:0<=left) (h1:left<=1048576):∃r,pL_szAsk fuel x left=some r/\r<=left/\(0<=r->FitAsk 1048576 (tAsk x)):=by
 obtain⟨s_Cmd,s_Dir⟩:=h
 have s_Cmd:x.Cmd.size<=9223372036854775807:=s_Cmd
 have s_Dir:x.Dir.size<=9223372036854775807:=s_Dir
 unfold pL_szAsk
 rw[gd_i64 (by omega) (by omega)]
 by_cases n_Cmd:left-(x.Cmd.size:Int)<0
 ·rw[qT1 n_Cmd];exact⟨-1,rfl,by omega,fun h=>by omega⟩
 rw[qF1 n_Cmd]
 simp only[br_f]
 rw[gd_i64 (by omega) (by omega)]
 by_cases n_Dir:left-(x.Cmd.size:Int)-(x.Dir.size:Int)<0
 ·rw[qT1 n_Dir];exact⟨-1,rfl,by omega,fun h=>by omega⟩
 rw[qF1 n_Dir]
 simp only[br_f]
 exact⟨_,rfl,by omega,fun _=>⟨(by show x.Cmd.size<=_;omega),(by show x.Dir.size<=_;omega)⟩⟩
theorem sz_ProcS {fuel:Nat} {l:List LProc} {left:Int} (hm:l.length<=9223372036854775807) (h0:0<=left) (h1:left<=1048576):∃r,pL_szProcS fuel l left=some r/\r<=left/\(0<=r->l.length<=1048576):=by
 unfold pL_szProcS
 rw[gd_i64 (by omega) (by omega)]
 by_cases hn:left-(l.length:Int)<0
 ·rw[qT1 hn];exact⟨-1,rfl,by omega,fun h=>by omega⟩
 rw[qF1 hn]
 exact⟨_,rfl,by omega,fun h=>by omega⟩
theorem sz_AskS {fuel:Nat} {l:List LAsk} {left:Int} (hm:l.length<=9223372036854775807) (h0:0<=left) (h1:left<=1048576) (hf:1048586<fuel) (hx:∀y∈l,FitAsk 9223372036854775807 (tAsk y)):∃r,pL_szAskS fuel l left=some r/\r<=left/\(0<=r->l.length<=1048576/\∀y∈l,FitAsk 1048576 (tAsk y)):=by
 unfold pL_szAskS
 rw[gd_i64 (by omega) (by omega)]
 by_cases hn:left-(l.length:Int)<0
 ·rw[qT1 hn];exact⟨-1,rfl,by omega,fun h=>by omega⟩
 rw[qF1 hn]
 have hl:l.length<=1048576:=by omega
 simp only[br_f]
 rcases loopF_sz (B:=pL_szAskS_b1 fuel) l (fun y=>FitAsk 1048576 (tAsk y)) (left:=left-(l.length:Int)) (fuel:=fuel) (by omega) (by omega) (fun i x k hxi hk0 hk1=>by
   obtain⟨g1,g2,g3,g4,g5⟩:=idx_facts hxi (by omega)
   obtain⟨r,e1,e2,e3⟩:=sz_Ask (fuel:=fuel) (x:=x) (left:=k) (hx x (qM1 hxi)) hk0 hk1
   refine⟨r,?_,e2,e3⟩
   unfold pL_szAskS_b1
   simp only[g1,br_t,gd_t g2,g3,bd_s,e1,g5,gd_t g4,show IntKind.i64.wrap ((i+1:Nat):Int)=((i+1:Nat):Int)from g4]
   by_cases hr:r<0
   ·simp only[qT1 hr,br_t,if_pos hr]
   ·simp only[qF1 hr,br_f,if_neg hr]) (fun k=>by unfold pL_szAskS_b1;simp) (by omega)with h|⟨r,h,r0,r1,r2⟩
 ·rw[h];exact⟨-1,rfl,by omega,fun h=>by omega⟩
 ·rw[h];exact⟨r,rfl,by omega,fun _=>⟨hl,r2⟩⟩
theorem sz_Table {fuel:Nat} {x:LTable} {left:Int} (hf:1048586<fuel) (h:FitTable 9223372036854775807 (tTable x)) (h0:0<=left) (h1:left<=1048576):∃r,pL_szTable fuel x left=some r/\r<=left/\(0<=r->FitTable 1048576 (tTable x)):=by
 obtain⟨l_Live,l_Asked,e_Asked⟩:=h
 unfold pL_szTable
 obtain⟨r_Live,a_Live,b_Live,c_Live⟩:=sz_ProcS (fuel:=fuel) (l:=x.Live) (left:=left) (by simpa [tTable]using l_Live) (by omega) (by omega)
 rw[a_Live]
 simp only[bd_s]
 by_cases n_Live:r_Live<0
 ·rw[qT1 n_Live];exact⟨-1,rfl,by omega,fun h=>by omega⟩
 rw[qF1 n_Live]
 simp only[br_f]
 have d_Live:=c_Live (by omega)
 obtain⟨r_Asked,a_Asked,b_Asked,c_Asked⟩:=sz_AskS (fuel:=fuel) (l:=x.Asked) (left:=r_Live) (by simpa [tTable]using l_Asked) (by omega) (by omega) hf (fun y hy=>e_Asked _ (List.mem_map.2 ⟨y,hy,rfl⟩))
 rw[a_Asked]
 simp only[bd_s]
 by_cases n_Asked:r_Asked<0
 ·rw[qT1 n_Asked];exact⟨-1,rfl,by omega,fun h=>by omega⟩
 rw[qF1 n_Asked]
 simp only[br_f]
 have d_Asked:=c_Asked (by omega)
 exact⟨_,rfl,by omega,fun _=>⟨(by show(x.Live.map tProc).length<=_;rw[List.length_map];exact d_Live),(by show(x.Asked.map tAsk).length<=_;rw[List.length_map];exact d_Asked.1),(fun y hy=>by obtain⟨z,hz,rfl⟩:=List.mem_map.1 hy;exact d_Asked.2 z hz)⟩⟩
theorem sz_Op {fuel:Nat} {x:LOp} {left:Int} (hf:1048586<fuel) (h:FitOp 9223372036854775807 (tOp x)) (h0:0<=left) (h1:left<=1048576):∃r,pL_szOp fuel x left=some r/\r<=left/\(0<=r->FitOp 1048576 (tOp x)):=by
 obtain⟨s_Name,s_Text,s_Dir,l_Data⟩:=h
 have s_Name:x.Name.size<=9223372036854775807:=s_Name
 have s_Text:x.Text.size<=9223372036854775807:=s_Text
 have s_Dir:x.Dir.size<=9223372036854775807:=s_Dir
 unfold pL_szOp
 rw[gd_i64 (by omega) (by omega)]
 by_cases n_Name:left-(x.Name.size:Int)<0
 ·rw[qT1 n_Name];exact⟨-1,rfl,by omega,fun h=>by omega⟩
 rw[qF1 n_Name]
 simp only[br_f]
 rw[gd_i64 (by omega) (by omega)]
 by_cases n_Text:left-(x.Name.size:Int)-(x.Text.size:Int)<0
 ·rw[qT1 n_Text];exact⟨-1,rfl,by omega,fun h=>by omega⟩
 rw[qF1 n_Text]
 simp only[br_f]
 rw[gd_i64 (by omega) (by omega)]
 by_cases n_Dir:left-(x.Name.size:Int)-(x.Text.size:Int)-(x.Dir.size:Int)<0
 ·rw[qT1 n_Dir];exact⟨-1,rfl,by omega,fun h=>by omega⟩
 rw[qF1 n_Dir]
 simp only[br_f]
 obtain⟨r_Data,a_Data,b_Data,c_Data⟩:=sz_ByteS (fuel:=fuel) (l:=x.Data) (left:=left-(x.Name.size:Int)-(x.Text.size:Int)-(x.Dir.size:Int)) (by simpa [tOp]using l_Data) (by omega) (by omega)
 rw[a_Data]
 simp only[bd_s]
 by_cases n_Data:r_Data<0
 ·rw[qT1 n_Data];exact⟨-1,rfl,by omega,fun h=>by omega⟩
 rw[qF1 n_Data]
 simp only[br_f]
 have d_Data:=c_Data (by omega)
 exact⟨_,rfl,by omega,fun _=>⟨(by show x.Name.size<=_;omega),(by show x.Text.size<=_;omega),(by show x.Dir.size<=_;omega),d_Data⟩⟩
theorem sz_Hist {fuel:Nat} {x:LHist} {left:Int} (hf:1048586<fuel) (h:FitHist 9223372036854775807 (tHist x)) (h0:0<=left) (h1:left<=1048576):∃r,pL_szHist fuel x left=some r/\r<=left/\(0<=r->FitHist 1048576 (tHist x)):=by
 have f_Op:FitOp 9223372036854775807 (tHist x).Op:=h
 unfold pL_szHist
 obtain⟨r_Op,a_Op,b_Op,c_Op⟩:=sz_Op (fuel:=fuel) (x:=x.Op) (left:=left) hf f_Op (by omega) (by omega)
 rw[a_Op]
 simp only[bd_s]
 by_cases n_Op:r_Op<0
 ·rw[qT1 n_Op];exact⟨-1,rfl,by omega,fun h=>by omega⟩
 rw[qF1 n_Op]
 simp only[br_f]
 have d_Op:=c_Op (by omega)
 exact⟨_,rfl,by omega,fun _=>d_Op⟩
theorem sz_HistS {fuel:Nat} {l:List LHist} {left:Int} (hm:l.length<=9223372036854775807) (h0:0<=left) (h1:left<=1048576) (hf:1048586<fuel) (hx:∀y∈l,FitHist 9223372036854775807 (tHist y)):∃r,pL_szHistS fuel l left=some r/\r<=left/\(0<=r->l.length<=1048576/\∀y∈l,FitHist 1048576 (tHist y)):=by
 unfold pL_szHistS
 rw[gd_i64 (by omega) (by omega)]
 by_cases hn:left-(l.length:Int)<0
 ·rw[qT1 hn];exact⟨-1,rfl,by omega,fun h=>by omega⟩
 rw[qF1 hn]
 have hl:l.length<=1048576:=by omega
 simp only[br_f]
 rcases loopF_sz (B:=pL_szHistS_b1 fuel) l (fun y=>FitHist 1048576 (tHist y)) (left:=left-(l.length:Int)) (fuel:=fuel) (by omega) (by omega) (fun i x k hxi hk0 hk1=>by
   obtain⟨g1,g2,g3,g4,g5⟩:=idx_facts hxi (by omega)
   obtain⟨r,e1,e2,e3⟩:=sz_Hist (fuel:=fuel) (x:=x) (left:=k) hf (hx x (qM1 hxi)) hk0 hk1
   refine⟨r,?_,e2,e3⟩
   unfold pL_szHistS_b1
   simp only[g1,br_t,gd_t g2,g3,bd_s,e1,g5,gd_t g4,show IntKind.i64.wrap ((i+1:Nat):Int)=((i+1:Nat):Int)from g4]
   by_cases hr:r<0
   ·simp only[qT1 hr,br_t,if_pos hr]
   ·simp only[qF1 hr,br_f,if_neg hr]) (fun k=>by unfold pL_szHistS_b1;simp) (by omega)with h|⟨r,h,r0,r1,r2⟩
 ·rw[h];exact⟨-1,rfl,by omega,fun h=>by omega⟩
 ·rw[h];exact⟨r,rfl,by omega,fun _=>⟨hl,r2⟩⟩
theorem loopF_wt {B:List α×Int×Int->Option ((List α×Int×Int)⊕(Int⊕Int))} (l:List α) (wt:α->Nat)
  (hB:∀(i:Nat) x k,l[i]?=some x->0<=k->k<=1048576->∃r,B (l,k,(i:Int))=(if r<0 then some (.inr (.inr (-1)))else some (.inl (l,r,((i+1:Nat):Int))))/\r<=k/\(0<=r->r+(wt x:Int)<=k)) (hE:∀k,B (l,k,(l.length:Int))=some (.inr (.inl k))) :
  ∀(fuel i:Nat) (k:Int) (o:Int⊕Int),i<=l.length->0<=k->k<=1048576->loopF B fuel (l,k,(i:Int))=some o->o= .inr (-1)∨∃r,o= .inl r/\r+(((l.drop i).map wt).sum:Int)<=k:=by
 intro fuel
 induction fuel with
 | zero=>intro i k o hi h0 h1 h;cases h
 | succ fuel ih=>
  intro i k o hi h0 h1 h
  unfold loopF at h
  by_cases he:i=l.length
  ·subst he
   rw[hE]at h
   cases h
   rw[List.drop_eq_nil_of_le (Nat.le_refl _)]
   exact .inr ⟨_,rfl,by simp⟩
  ·have hx:l[i]?=some (l[i]'(by omega)):=qE1 (by omega)
   obtain⟨r',e,e1,e2⟩:=hB i _ k hx h0 h1
   rw[e]at h
   by_cases hr:r'<0
   ·rw[if_pos hr]at h;cases h;exact .inl rfl
   ·rw[if_neg hr]at h
    rcases ih (i+1) r' o (by omega) (by omega) (by omega) h with h|⟨r,h,h2⟩
    ·exact .inl h
    ·have:=e2 (by omega)
     refine .inr ⟨r,h,?_⟩
     rw[drop_get hx,List.map_cons,List.sum_cons]
     omega
theorem wt_Win {fuel:Nat} {x:LWin} {left:Int} (h:FitWin 9223372036854775807 (tWin x)) (h0:0<=left) (h1:left<=1048576):∃r,pL_szWin fuel x left=some r/\r<=left/\(0<=r->r+(x.Tree.length:Int)<=left):=by
 obtain⟨s_Name,l_Tree⟩:=h
 have s_Name:x.Name.size<=9223372036854775807:=s_Name
 have l_Tree:x.Tree.length<=9223372036854775807:=by simpa [tWin]using l_Tree
 unfold pL_szWin pL_szNodeS
 rw[gd_i64 (by omega) (by omega)]
 by_cases n_Name:left-(x.Name.size:Int)<0
 ·rw[qT1 n_Name];exact⟨-1,rfl,by omega,fun h=>by omega⟩
 rw[qF1 n_Name]
 simp only[br_f]
 rw[gd_i64 (by omega) (by omega)]
 by_cases n2:left-(x.Name.size:Int)-(x.Tree.length:Int)<0
 ·rw[qT1 n2];exact⟨-1,rfl,by omega,fun h=>by omega⟩
 rw[qF1 n2]
 simp only[br_f,bd_s,qF1 n2]
 exact⟨_,rfl,by omega,fun _=>by omega⟩
theorem wt_Sess {fuel:Nat} {x:LSess} {left:Int} (h:FitSess 9223372036854775807 (tSess x)) (h0:0<=left) (h1:left<=1048576):∃r,pL_szSess fuel x left=some r/\r<=left/\(0<=r->r+(x.Wins.length:Int)<=left):=by
 obtain⟨s_Name,l_Tree⟩:=h
 have s_Name:x.Name.size<=9223372036854775807:=s_Name
 have l_Tree:x.Wins.length<=9223372036854775807:=l_Tree
 unfold pL_szSess pL_szIntS
 rw[gd_i64 (by omega) (by omega)]
 by_cases n_Name:left-(x.Name.size:Int)<0
 ·rw[qT1 n_Name];exact⟨-1,rfl,by omega,fun h=>by omega⟩
 rw[qF1 n_Name]
 simp only[br_f]
 rw[gd_i64 (by omega) (by omega)]
 by_cases n2:left-(x.Name.size:Int)-(x.Wins.length:Int)<0
 ·rw[qT1 n2];exact⟨-1,rfl,by omega,fun h=>by omega⟩
 rw[qF1 n2]
 simp only[br_f,bd_s,qF1 n2]
 exact⟨_,rfl,by omega,fun _=>by omega⟩
theorem wt_WinS {fuel:Nat} {l:List LWin} {left r:Int} (hm:l.length<=9223372036854775807) (h0:0<=left) (h1:left<=1048576) (hx:∀y∈l,FitWin 9223372036854775807 (tWin y)) (h:pL_szWinS fuel l left=some r) (hr:0<=r):(l.flatMap fun w=>w.Tree).length<=1048576:=by
 unfold pL_szWinS at h
 rw[gd_i64 (by omega) (by omega)]at h
 by_cases hn:left-(l.length:Int)<0
 ·rw[qT1 hn]at h;cases h;omega
 rw[qF1 hn]at h
 simp only[br_f]at h
 have key:=loopF_wt (B:=pL_szWinS_b1 fuel) l (fun w=>w.Tree.length) (fun i x k hxi hk0 hk1=>by
   obtain⟨g1,g2,g3,g4,g5⟩:=idx_facts hxi (by omega)
   obtain⟨r,e1,e2,e3⟩:=wt_Win (fuel:=fuel) (x:=x) (left:=k) (hx x (qM1 hxi)) hk0 hk1
   refine⟨r,?_,e2,e3⟩
   unfold pL_szWinS_b1
   simp only[g1,br_t,gd_t g2,g3,bd_s,e1,g5,gd_t g4,show IntKind.i64.wrap ((i+1:Nat):Int)=((i+1:Nat):Int)from g4]
   by_cases hr:r<0
   ·simp only[qT1 hr,br_t,if_pos hr]
   ·simp only[qF1 hr,br_f,if_neg hr]) (fun k=>by unfold pL_szWinS_b1;simp) fuel 0 (left-(l.length:Int))
 cases hl:loopF (pL_szWinS_b1 fuel) fuel (l,left-(l.length:Int),0)with
 | none=>rw[hl]at h;cases h
 | some o=>
  rw[hl]at h
  rcases key o (by omega) (by omega) (by omega) hl with rfl|⟨v,rfl,h2⟩
  ·cases h;omega
  ·rw[List.length_flatMap]
   rw[List.drop_zero]at h2
   cases h
   omega
theorem wt_SessS {fuel:Nat} {l:List LSess} {left r:Int} (hm:l.length<=9223372036854775807) (h0:0<=left) (h1:left<=1048576) (hx:∀y∈l,FitSess 9223372036854775807 (tSess y)) (h:pL_szSessS fuel l left=some r) (hr:0<=r):(l.flatMap fun w=>w.Wins).length<=1048576:=by
 unfold pL_szSessS at h
 rw[gd_i64 (by omega) (by omega)]at h
 by_cases hn:left-(l.length:Int)<0
 ·rw[qT1 hn]at h;cases h;omega
 rw[qF1 hn]at h
 simp only[br_f]at h
 have key:=loopF_wt (B:=pL_szSessS_b1 fuel) l (fun w=>w.Wins.length) (fun i x k hxi hk0 hk1=>by
   obtain⟨g1,g2,g3,g4,g5⟩:=idx_facts hxi (by omega)
   obtain⟨r,e1,e2,e3⟩:=wt_Sess (fuel:=fuel) (x:=x) (left:=k) (hx x (qM1 hxi)) hk0 hk1
   refine⟨r,?_,e2,e3⟩
   unfold pL_szSessS_b1
   simp only[g1,br_t,gd_t g2,g3,bd_s,e1,g5,gd_t g4,show IntKind.i64.wrap ((i+1:Nat):Int)=((i+1:Nat):Int)from g4]
   by_cases hr:r<0
   ·simp only[qT1 hr,br_t,if_pos hr]
   ·simp only[qF1 hr,br_f,if_neg hr]) (fun k=>by unfold pL_szSessS_b1;simp) fuel 0 (left-(l.length:Int))
 cases hl:loopF (pL_szSessS_b1 fuel) fuel (l,left-(l.length:Int),0)with
 | none=>rw[hl]at h;cases h
 | some o=>
  rw[hl]at h
  rcases key o (by omega) (by omega) (by omega) hl with rfl|⟨v,rfl,h2⟩
  ·cases h;omega
  ·rw[List.length_flatMap]
   rw[List.drop_zero]at h2
   cases h
   omega
theorem sz_StateG {fuel:Nat} {left:Int} (hf:1048586<fuel) (h:FitState 9223372036854775807 (tState x)) (h0:0<=left) (h1:left<=1048576):∃r,pL_szState fuel x left=some r/\r<=left/\(0<=r->FitState 1048576 (tState x)/\(x.Wins.flatMap fun w=>w.Tree).length<=1048576/\(x.Sess.flatMap fun w=>w.Wins).length<=1048576):=by
 obtain⟨r0,q0,q1,q2⟩:=sz_State (fuel:=fuel) hf h h0 h1
 refine⟨r0,q0,q1,fun hr=>⟨q2 hr,?_⟩⟩
 obtain⟨l_Panes,e_Panes,l_Wins,e_Wins,l_Sess,e_Sess⟩:=h
 have l_Panes:x.Panes.length<=9223372036854775807:=by simpa [tState]using l_Panes
 have l_Wins:x.Wins.length<=9223372036854775807:=by simpa [tState]using l_Wins
 have l_Sess:x.Sess.length<=9223372036854775807:=by simpa [tState]using l_Sess
 have f_Wins:∀y∈x.Wins,FitWin 9223372036854775807 (tWin y):=fun y hy=>e_Wins _ (List.mem_map.2 ⟨y,hy,rfl⟩)
 have f_Sess:∀y∈x.Sess,FitSess 9223372036854775807 (tSess y):=fun y hy=>e_Sess _ (List.mem_map.2 ⟨y,hy,rfl⟩)
 unfold pL_szState at q0
 obtain⟨r1,a1,b1,c1⟩:=sz_PaneS (fuel:=fuel) (l:=x.Panes) (left:=left) l_Panes (by omega) (by omega) hf (fun y hy=>e_Panes _ (List.mem_map.2 ⟨y,hy,rfl⟩))
 rw[a1,bd_s]at q0
 by_cases n1:r1<0
 ·rw[qT1 n1]at q0;cases q0;omega
 rw[qF1 n1,br_f]at q0
 obtain⟨r2,a2,b2,c2⟩:=sz_WinS (fuel:=fuel) (l:=x.Wins) (left:=r1) l_Wins (by omega) (by omega) hf f_Wins
 rw[a2,bd_s]at q0
 by_cases n2:r2<0
 ·rw[qT1 n2]at q0;cases q0;omega
 rw[qF1 n2,br_f]at q0
 obtain⟨r3,a3,b3,c3⟩:=sz_SessS (fuel:=fuel) (l:=x.Sess) (left:=r2) l_Sess (by omega) (by omega) hf f_Sess
 rw[a3,bd_s]at q0
 by_cases n3:r3<0
 ·rw[qT1 n3]at q0;cases q0;omega
 exact⟨wt_WinS l_Wins (by omega) (by omega) f_Wins a2 (by omega),wt_SessS l_Sess (by omega) (by omega) f_Sess a3 (by omega)⟩
theorem paneF_of {p:IPane} (hp:FitPane 1048576 p) {fu:Nat} (hf:1048700<=fu):PaneF fu p:=by
 obtain⟨_,_,⟨a1,a2⟩,b1,b2,b3,b4,b5⟩:=hp
 have b1:p.Term.S.Main.Cells.length<=1048576:=b1
 have b2:p.Term.S.Alt.Cells.length<=1048576:=b2
 refine⟨by omega,by omega,⟨⟨by omega,by omega⟩,⟨by omega,by omega⟩,⟨by omega,by omega⟩,⟨by omega,by omega⟩,fun x hx=> ?_,by omega⟩⟩
 have:x.Cells.length<=1048576:=b5 x hx
 exact⟨by omega,by omega⟩
theorem flat_tree (l:List LWin):((l.map tWin).flatMap fun w=>w.Tree).length=(l.flatMap fun w=>w.Tree).length:=by
 rw[List.length_flatMap,List.length_flatMap,List.map_map]
 congr 1
 exact List.map_congr_left fun w hw=>by show(w.Tree.map tNode).length=_;rw[List.length_map]
theorem flat_wins (l:List LSess):((l.map tSess).flatMap fun w=>w.Wins).length=(l.flatMap fun w=>w.Wins).length:=by
 rw[List.length_flatMap,List.length_flatMap,List.map_map]
 congr 1
theorem sg_of (hF:20000000<F+70) (h:FitState 1048576 (tState x)) (h1:(x.Wins.flatMap fun w=>w.Tree).length<=1048576) (h2:(x.Sess.flatMap fun w=>w.Wins).length<=1048576):SG F (tState x):=by
 obtain⟨a1,a2,a3,a4,a5,a6⟩:=h
 refine⟨⟨⟨hF,a1,a3,a5,fun w hw=>(a4 w hw).2,fun w hw=>(a4 w hw).1,fun w hw=>(a6 w hw).2,fun w hw=>(a6 w hw).1⟩,fun p hp=>paneF_of (a2 p hp) (by omega)⟩,?_,?_⟩
 ·show((x.Wins.map tWin).flatMap fun w=>w.Tree).length<=_;rw[flat_tree];exact h1
 ·show((x.Sess.map tSess).flatMap fun w=>w.Wins).length<=_;rw[flat_wins];exact h2
theorem dk_of {x:IDisk} (hF:20000000<F) (h:FitDisk 1048576 x):DkF F x:=by
 obtain⟨h1,h2,h3,h4,h5,h6⟩:=h
 exact⟨hF,h1,h2,h3,h4,h5,h6⟩
theorem sz_SrvG {fuel:Nat} {x:LSrv} (hf:20000100<=fuel) (h:FitSrv 9223372036854775807 (tSrv x)):∃r,pL_szSrv fuel x 1048576=some r/\(0<=r->FitSrv 1048576 (tSrv x)/\SvF (fuel-70) (tSrv x)):=by
 obtain⟨f1,f2,f3,f4,f5,l6,f6⟩:=h
 have l6:x.Done.length<=9223372036854775807:=by simpa [tSrv]using l6
 unfold pL_szSrv
 obtain⟨r1,a1,b1,c1⟩:=sz_StateG (fuel:=fuel) (x:=x.Base) (left:=1048576) (by omega) f1 (by omega) (by omega)
 rw[a1,bd_s]
 by_cases n1:r1<0
 ·rw[qT1 n1];exact⟨-1,rfl,fun h=>by omega⟩
 rw[qF1 n1,br_f]
 obtain⟨r2,a2,b2,c2⟩:=sz_StateG (fuel:=fuel) (x:=x.St) (left:=r1) (by omega) f2 (by omega) (by omega)
 rw[a2,bd_s]
 by_cases n2:r2<0
 ·rw[qT1 n2];exact⟨-1,rfl,fun h=>by omega⟩
 rw[qF1 n2,br_f]
 obtain⟨r3,a3,b3,c3⟩:=sz_Depot (fuel:=fuel) (x:=x.Dep) (left:=r2) (by omega) f3 (by omega) (by omega)
 rw[a3,bd_s]
 by_cases n3:r3<0
 ·rw[qT1 n3];exact⟨-1,rfl,fun h=>by omega⟩
 rw[qF1 n3,br_f]
 obtain⟨r4,a4,b4,c4⟩:=sz_Disk (fuel:=fuel) (x:=x.Disk) (left:=r3) (by omega) f4 (by omega) (by omega)
 rw[a4,bd_s]
 by_cases n4:r4<0
 ·rw[qT1 n4];exact⟨-1,rfl,fun h=>by omega⟩
 rw[qF1 n4,br_f]
 obtain⟨r5,a5,b5,c5⟩:=sz_Table (fuel:=fuel) (x:=x.Tab) (left:=r4) (by omega) f5 (by omega) (by omega)
 rw[a5,bd_s]
 by_cases n5:r5<0
 ·rw[qT1 n5];exact⟨-1,rfl,fun h=>by omega⟩
 rw[qF1 n5,br_f]
 obtain⟨r6,a6,b6,c6⟩:=sz_HistS (fuel:=fuel) (l:=x.Done) (left:=r5) l6 (by omega) (by omega) (by omega) (fun y hy=>f6 _ (List.mem_map.2 ⟨y,hy,rfl⟩))
 rw[a6,bd_s]
 by_cases n6:r6<0
 ·rw[qT1 n6];exact⟨-1,rfl,fun h=>by omega⟩
 rw[qF1 n6,br_f]
 refine⟨r6,rfl,fun _=> ?_⟩
 obtain⟨p1,s1,s2⟩:=c1 (by omega)
 obtain⟨p2,s3,s4⟩:=c2 (by omega)
 have p3:=c3 (by omega)
 have p4:=c4 (by omega)
 have p5:=c5 (by omega)
 obtain⟨p6,p7⟩:=c6 (by omega)
 have p8:∀y∈(tSrv x).Done,FitHist 1048576 y:=fun y hy=>by
  obtain⟨z,hz,rfl⟩:=List.mem_map.1 hy
  exact p7 z hz
 have p9:(tSrv x).Done.length<=1048576:=by show(x.Done.map tHist).length<=_;rw[List.length_map];exact p6
 refine⟨⟨p1,p2,p3,p4,p5,p9,p8⟩,⟨sg_of (by omega) p1 s1 s2,sg_of (by omega) p2 s3 s4,dk_of (by omega) p3,dk_of (by omega) p4,p5.1,p9,fun y hy=> ?_⟩⟩
 have:=p8 y hy
 exact this.1
theorem plain_law (s:LSrv) (hs:FitSrv 9223372036854775807 (tSrv s)):pL_FnExactSrvOk 20000100 s=some true:=by
 unfold pL_FnExactSrvOk
 obtain⟨r1,a1,a2⟩:=sz_SrvG (fuel:=20000100) (x:=s) (by omega) hs
 rw[a1]
 simp only[bd_s]
 by_cases n1:r1<0
 ·rw[qT1 n1];rfl
 rw[qF1 n1]
 simp only[br_f]
 obtain⟨hs',hg⟩:=a2 (by omega)
 have e1:=to_Srv (fuel:=20000100) (x:=s) (by omega) hs'
 have e3:pS_SrvOk 20000100 (tSrv s)=some (srvB (tSrv s)):=pS_SrvOk_eq hg
 have e4:pI_SrvOk 20000100 (tSrv s)=some (srvB (tSrv s)):=pI_SrvOk_eq hg
 have e5:=eq_Srv (fuel:=20000100) (x:=tSrv s) (by omega) (hs'.mono (by omega))
 simp only[e1,e3,e4,bd_s,e5,Bool.not_true,br_f]
 cases srvB (tSrv s)<;>rfl
open Go.RowKit
def lenN:Nat->Leaf->Prop
 | 0,_=>True
 | _+1,.sc v=>wfV v
 | n+1,.nest _ l=>l.length<=9223372036854775807/\∀x∈l,∀lf∈leaves x,lenN n lf
theorem lenN_of {S:Nat->Prop} {w:World}:∀(n:Nat) {lf:Leaf} {u:Value},LeafV S w lf u->lenN n lf
 | 0,_,_,_=>trivial
 | n+1,.sc v,u,h=>h.2
 | n+1,.nest k l,u,h=>by
  obtain⟨a,cap,_,h1,h2,h3⟩:=Row.open h
  refine⟨h2,fun x hx lf hlf=> ?_⟩
  obtain⟨i,hi⟩:=List.getElem?_of_mem hx
  obtain⟨j,hj⟩:=List.getElem?_of_mem hlf
  obtain⟨b,off,_,_,h4⟩:=h3 (by intro e;subst e;simp at hi)
  obtain⟨u',_,hv⟩:=h4 i x hi j lf hj
  exact lenN_of n hv
theorem lens_of {S:Nat->Prop} {w:World} {lfs:List Leaf} {us:List Value} (n:Nat) (h:All2 (LeafV S w) lfs us):∀lf∈lfs,lenN n lf:=fun lf hm=>by
 obtain⟨i,hi⟩:=List.getElem?_of_mem hm
 obtain⟨u,_,hv⟩:=h.get i lf hi
 exact lenN_of n hv
theorem fit_Row {p:LRow} (h:∀lf∈leaves (k:= .lRow) p,lenN (n+1) lf):FitRow 9223372036854775807 (tRow p):=(show(p.Cells.map tCell).length<=_ by rw[List.length_map];exact(h (.nest .lCell p.Cells) (by simp[leaves])).1)
theorem fit_Pane {p:LPane} (h:∀lf∈leaves (k:= .lPane) p,lenN (n+2) lf):FitPane 9223372036854775807 (tPane p):=⟨h (.sc (.string p.Cmd)) (by simp[leaves]),h (.sc (.string p.Dir)) (by simp[leaves]),⟨⟨(h (.nest .int p.Term.P.Args) (by simp[leaves])).1,(h (.nest .u8 p.Term.P.Part) (by simp[leaves])).1⟩,⟨(show(p.Term.S.Main.Cells.map tCell).length<=_ by rw[List.length_map];exact(h (.nest .lCell p.Term.S.Main.Cells) (by simp[leaves])).1),(show(p.Term.S.Alt.Cells.map tCell).length<=_ by rw[List.length_map];exact(h (.nest .lCell p.Term.S.Alt.Cells) (by simp[leaves])).1),(h (.nest .int p.Term.S.Tabs) (by simp[leaves])).1,(show(p.Term.S.Back.map tRow).length<=_ by rw[List.length_map];exact(h (.nest .lRow p.Term.S.Back) (by simp[leaves])).1),fun y hy=>by obtain⟨z,hz,rfl⟩:=List.mem_map.1 hy;exact fit_Row (n:=n+0) ((h (.nest .lRow p.Term.S.Back) (by simp[leaves])).2 z hz)⟩⟩⟩
theorem fit_Win {p:LWin} (h:∀lf∈leaves (k:= .lWin) p,lenN (n+1) lf):FitWin 9223372036854775807 (tWin p):=⟨h (.sc (.string p.Name)) (by simp[leaves]),(show(p.Tree.map tNode).length<=_ by rw[List.length_map];exact(h (.nest .lNode p.Tree) (by simp[leaves])).1)⟩
theorem fit_Sess {p:LSess} (h:∀lf∈leaves (k:= .lSess) p,lenN (n+1) lf):FitSess 9223372036854775807 (tSess p):=⟨h (.sc (.string p.Name)) (by simp[leaves]),(h (.nest .int p.Wins) (by simp[leaves])).1⟩
theorem fit_File {p:LFile} (h:∀lf∈leaves (k:= .lFile) p,lenN (n+1) lf):FitFile 9223372036854775807 (tFile p):=(h (.nest .u8 p.Body) (by simp[leaves])).1
theorem fit_Link {p:LLink} (h:∀lf∈leaves (k:= .lLink) p,lenN (n+1) lf):FitLink 9223372036854775807 (tLink p):=h (.sc (.string p.Name)) (by simp[leaves])
theorem fit_Turn {p:LTurn} (h:∀lf∈leaves (k:= .lTurn) p,lenN (n+1) lf):FitTurn 9223372036854775807 (tTurn p):=⟨h (.sc (.string p.Name)) (by simp[leaves]),h (.sc (.string p.To)) (by simp[leaves])⟩
theorem fit_Ask {p:LAsk} (h:∀lf∈leaves (k:= .lAsk) p,lenN (n+1) lf):FitAsk 9223372036854775807 (tAsk p):=⟨h (.sc (.string p.Cmd)) (by simp[leaves]),h (.sc (.string p.Dir)) (by simp[leaves])⟩
theorem fit_Hist {p:LHist} (h:∀lf∈leaves (k:= .lHist) p,lenN (n+1) lf):FitHist 9223372036854775807 (tHist p):=⟨h (.sc (.string p.Op.Name)) (by simp[leaves]),h (.sc (.string p.Op.Text)) (by simp[leaves]),h (.sc (.string p.Op.Dir)) (by simp[leaves]),(h (.nest .u8 p.Op.Data) (by simp[leaves])).1⟩
theorem fit_Srv {p:LSrv} (h:∀lf∈leaves (k:= .lSrv) p,lenN (n+3) lf):FitSrv 9223372036854775807 (tSrv p):=⟨⟨(show(p.Base.Panes.map tPane).length<=_ by rw[List.length_map];exact(h (.nest .lPane p.Base.Panes) (by simp[leaves])).1),fun y hy=>by obtain⟨z,hz,rfl⟩:=List.mem_map.1 hy;exact fit_Pane (n:=n+0) ((h (.nest .lPane p.Base.Panes) (by simp[leaves])).2 z hz),(show(p.Base.Wins.map tWin).length<=_ by rw[List.length_map];exact(h (.nest .lWin p.Base.Wins) (by simp[leaves])).1),fun y hy=>by obtain⟨z,hz,rfl⟩:=List.mem_map.1 hy;exact fit_Win (n:=n+1) ((h (.nest .lWin p.Base.Wins) (by simp[leaves])).2 z hz),(show(p.Base.Sess.map tSess).length<=_ by rw[List.length_map];exact(h (.nest .lSess p.Base.Sess) (by simp[leaves])).1),fun y hy=>by obtain⟨z,hz,rfl⟩:=List.mem_map.1 hy;exact fit_Sess (n:=n+1) ((h (.nest .lSess p.Base.Sess) (by simp[leaves])).2 z hz)⟩,⟨(show(p.St.Panes.map tPane).length<=_ by rw[List.length_map];exact(h (.nest .lPane p.St.Panes) (by simp[leaves])).1),fun y hy=>by obtain⟨z,hz,rfl⟩:=List.mem_map.1 hy;exact fit_Pane (n:=n+0) ((h (.nest .lPane p.St.Panes) (by simp[leaves])).2 z hz),(show(p.St.Wins.map tWin).length<=_ by rw[List.length_map];exact(h (.nest .lWin p.St.Wins) (by simp[leaves])).1),fun y hy=>by obtain⟨z,hz,rfl⟩:=List.mem_map.1 hy;exact fit_Win (n:=n+1) ((h (.nest .lWin p.St.Wins) (by simp[leaves])).2 z hz),(show(p.St.Sess.map tSess).length<=_ by rw[List.length_map];exact(h (.nest .lSess p.St.Sess) (by simp[leaves])).1),fun y hy=>by obtain⟨z,hz,rfl⟩:=List.mem_map.1 hy;exact fit_Sess (n:=n+1) ((h (.nest .lSess p.St.Sess) (by simp[leaves])).2 z hz)⟩,⟨(show(p.Dep.Disk.Files.map tFile).length<=_ by rw[List.length_map];exact(h (.nest .lFile p.Dep.Disk.Files) (by simp[leaves])).1),fun y hy=>by obtain⟨z,hz,rfl⟩:=List.mem_map.1 hy;exact fit_File (n:=n+1) ((h (.nest .lFile p.Dep.Disk.Files) (by simp[leaves])).2 z hz),(show(p.Dep.Disk.Kept.map tLink).length<=_ by rw[List.length_map];exact(h (.nest .lLink p.Dep.Disk.Kept) (by simp[leaves])).1),fun y hy=>by obtain⟨z,hz,rfl⟩:=List.mem_map.1 hy;exact fit_Link (n:=n+1) ((h (.nest .lLink p.Dep.Disk.Kept) (by simp[leaves])).2 z hz),(show(p.Dep.Disk.Turns.map tTurn).length<=_ by rw[List.length_map];exact(h (.nest .lTurn p.Dep.Disk.Turns) (by simp[leaves])).1),fun y hy=>by obtain⟨z,hz,rfl⟩:=List.mem_map.1 hy;exact fit_Turn (n:=n+1) ((h (.nest .lTurn p.Dep.Disk.Turns) (by simp[leaves])).2 z hz)⟩,⟨(show(p.Disk.Files.map tFile).length<=_ by rw[List.length_map];exact(h (.nest .lFile p.Disk.Files) (by simp[leaves])).1),fun y hy=>by obtain⟨z,hz,rfl⟩:=List.mem_map.1 hy;exact fit_File (n:=n+1) ((h (.nest .lFile p.Disk.Files) (by simp[leaves])).2 z hz),(show(p.Disk.Kept.map tLink).length<=_ by rw[List.length_map];exact(h (.nest .lLink p.Disk.Kept) (by simp[leaves])).1),fun y hy=>by obtain⟨z,hz,rfl⟩:=List.mem_map.1 hy;exact fit_Link (n:=n+1) ((h (.nest .lLink p.Disk.Kept) (by simp[leaves])).2 z hz),(show(p.Disk.Turns.map tTurn).length<=_ by rw[List.length_map];exact(h (.nest .lTurn p.Disk.Turns) (by simp[leaves])).1),fun y hy=>by obtain⟨z,hz,rfl⟩:=List.mem_map.1 hy;exact fit_Turn (n:=n+1) ((h (.nest .lTurn p.Disk.Turns) (by simp[leaves])).2 z hz)⟩,⟨(show(p.Tab.Live.map tProc).length<=_ by rw[List.length_map];exact(h (.nest .lProc p.Tab.Live) (by simp[leaves])).1),(show(p.Tab.Asked.map tAsk).length<=_ by rw[List.length_map];exact(h (.nest .lAsk p.Tab.Asked) (by simp[leaves])).1),fun y hy=>by obtain⟨z,hz,rfl⟩:=List.mem_map.1 hy;exact fit_Ask (n:=n+1) ((h (.nest .lAsk p.Tab.Asked) (by simp[leaves])).2 z hz)⟩,(show(p.Done.map tHist).length<=_ by rw[List.length_map];exact(h (.nest .lHist p.Done) (by simp[leaves])).1),fun y hy=>by obtain⟨z,hz,rfl⟩:=List.mem_map.1 hy;exact fit_Hist (n:=n+1) ((h (.nest .lHist p.Done) (by simp[leaves])).2 z hz)⟩
theorem law_ofE {P:Program} {f:FuncId} {fn:Func} {c:Code} {E:World->Prop} (hf:P.funcs[f]?=some fn) (hname:(fn.name== "runtime.NumGoroutine")=false) (hb:fn.body=some c) {args:List PV} {us:List Value} {W:World} (hE:E W) (h:PCalls P W.heap.size E f args [] (.v (.bool true)) []) (ha:All3 (Own1 (fun b=>b<W.heap.size) W (extB []) (extS [])) args us []) :
  Calls P f us.toArray W fun e W'=>e= .returned (.bool true)/\Below W.heap.size W W':=by
 refine Arrive.calls hf hname hb (Arrive.mono (h.2 W (fun b=>b<W.heap.size) us [] [] [] (Nat.le_refl _) hE rfl rfl (by simp) (by simp) (fun b hb=>⟨hb,by simp⟩) ha (fun j p cs L hj=>by simp at hj)) ?_)
 rintro e W' ⟨u,Lr,Le',rfl,_,_,_,h5,_,h7⟩
 obtain⟨_,rfl,_⟩:=h5
 exact⟨rfl,h7.os,h7.tape,h7.output,h7.size,fun b hb=>h7.old b hb (by simp)⟩
theorem tab_stays {w w':World} (h:TabW w) (hs:∀b,b<w.heap.size->w'.heap[b]?=w.heap[b]?):TabW w':=by
 unfold TabW Lib.TabIs World.var? at h⊢
 cases hg:Proofs.Tryz.prog.globalNamed "internal/strconv.uint64pow10" with
 | none=>rw[hg]at h;cases h
 | some g=>
  rw[hg]at h
  simp only[Option.bind_some]at h⊢
  by_cases hlt:g<w.heap.size
  ·rw[hs g hlt];exact h
  ·rw[Array.getElem?_eq_none (by omega)]at h;cases h
end Go.Px
