/- What a call may hold, as plain values and a store: a small machine over them, the functions of this program as its contracts, and the plain laws: texts QT2 to QT5. -/
import Derived.Test.YtegmckcdakndaaaGreatDoorQE
import Derived.Test.YtegmckcdakndaaaGreatDoorQC
import Derived.Lib.Join
import Derived.Test.YtegmckcdakndaaaGreatDoorQD
set_option linter.unusedSimpArgs false
set_option linter.unusedVariables false
set_option linter.constructorNameAsVariable false
namespace Go.Px
variable {F i m n:Nat} {t:fL} {x:DJ} {α:Type} {o:oK} {s:bA} {v w:ByteArray} {a b:Int}
theorem aHX (h:n<=4000000):cR K.int n:=by
 refine⟨by omega,?_⟩
 show n*byt K.int<=_
 have:byt K.int=8:=rfl
 rw[this];omega
def nC (t:fL) (i:Nat):List Int:=(t.Live.take i).map (·.Pane)
theorem aFu (t:fL) (i:Nat) (x:jL):((nC t i).any fun n=>n==x.Pane)=G1 t i x:=by
 unfold nC G1
 rw[vE]
 rfl
theorem aDB {x:jL} (z:t.Live[i]?=some x):nC t i++ [x.Pane]=nC t (i+1):=by
 unfold nC
 have D:=(iR.1 z).1
 have e:t.Live.take (i+1)=t.Live.take i++ [x]:=by
  rw[List.take_add_one,z];rfl
 rw[e,e8];rfl
theorem N4 {fuel:Nat} (hl:t.Live.length<=2000000) (hf:t.Live.length<fuel) {x:jL} (H:t.Live[i]?=some x) :
  oT fuel (t,nC t i,t.Live,(t.Live.length:Int),(i:Int))=if aAo t i x then some (.inr (.inr false))else some (.inl (t,nC t (i+1),t.Live,(t.Live.length:Int),((i+1:Nat):Int))):=by
 obtain⟨M,R,W,Y,h5⟩:=aV H (by omega)
 have I:(nC t i).length<=t.Live.length:=by unfold nC;simp;omega
 have hk:dP fuel (nC t i) x.Pane=some (G1 t i x):=by
  rw[mN (by omega) (by omega),aFu]
 unfold oT
 simp only[M,br_t,aE R,W,bd_s,hk]
 unfold aAo
 have z:∀c:Bool,(br c (some (.inr (.inr false))) (gd (cR K.int (nC t i++ [x.Pane]).length) (gd (cN IntKind.i64 ((i:Int)+1)) (some (.inl (t,nC t i++ [x.Pane],t.Live,(t.Live.length:Int),(i:Int)+1))))):Option ((fL×List Int×List jL×Int×Int)⊕(fL⊕Bool)))=if c then some (.inr (.inr false))else some (.inl (t,nC t (i+1),t.Live,(t.Live.length:Int),((i+1:Nat):Int))):=by
  intro c
  rw[aE (aHX (by rw[aW];simp;omega)),h5,aE Y,aDB H]
  cases c<;>rfl
 have n1:decide (x.Pid<1)= !decide (1<=x.Pid):=by by_cases h:1<=x.Pid<;>simp[h]<;>omega
 have n2:decide (t.Next<=x.Pid)= !decide (x.Pid<t.Next):=by by_cases h:x.Pid<t.Next<;>simp[h]<;>omega
 have n3:decide (x.Pane<1)= !decide (1<=x.Pane):=by by_cases h:1<=x.Pane<;>simp[h]<;>omega
 have n4:decide (1000000<x.Pane)= !decide (x.Pane<=1000000):=by by_cases h:x.Pane<=1000000<;>simp[h]<;>omega
 simp only[n1,n2,n3,n4]
 have e:(yY x.Pane)=(decide (1<=x.Pane)&&decide (x.Pane<=1000000)):=rfl
 rw[e]
 cases decide (1<=x.Pid)with
 | false=>simp only[aZ,br_t,bd_s,dJ,dQ,if_true]
 | true=>
 cases decide (x.Pid<t.Next)with
 | false=>simp only[aZ,aM,br_t,br_f,bd_s,aK,dQ,if_true]
 | true=>
  simp only[aM,br_f,aK,b9]
  cases i with
  | zero=>
   simp only[show decide ((0:Int)<((0:Nat):Int))=false from rfl,br_f,NE,b9]
   cases decide (1<=x.Pane)with
   | false=>simp only[aZ,br_t,bd_s,dJ,dQ,if_true]
   | true=>
   cases decide (x.Pane<=1000000)with
   | false=>simp only[aZ,aM,br_t,br_f,bd_s,aK,dQ,if_true]
   | true=>
    simp only[aM,br_f,bd_s,aK,b9]
    exact z _
  | succ i=>
   have D:i<t.Live.length:=by have:=(iR.1 H).1;omega
   simp only[jA (show(0:Int)<((i+1:Nat):Int) by omega),br_t]
   rw[dH (by omega) (by omega),yX (by omega) (by omega),show(((i+1:Nat):Int)-1).toNat=i by omega,iD D]
   have e0:NE t (i+1) x=decide (x.Pid<=t.Live[i].Pid):=by simp[NE,D]
   simp only[bd_s,e0]
   cases decide (x.Pid<=t.Live[i].Pid)with
   | true=>simp only[br_t,bd_s,dQ,if_true]
   | false=>
    simp only[br_f,b9]
    cases decide (1<=x.Pane)with
    | false=>simp only[aZ,br_t,bd_s,dJ,dQ,if_true]
    | true=>
    cases decide (x.Pane<=1000000)with
    | false=>simp only[aZ,aM,br_t,br_f,bd_s,aK,dQ,if_true]
    | true=>
     simp only[aM,br_f,bd_s,aK,b9]
     exact z _
theorem SM {fuel:Nat} (z:t.Live.length<=2000000) (e:t.Live.length<fuel):wN fuel t=some (!(t.Live.zipIdx.any fun p=>aAo t p.2 p.1)&&yY t.Next):=by
 unfold wN
 have:=BH (B:=oT fuel) (fun i=>(t,nC t i,t.Live,(t.Live.length:Int),(i:Int))) t.Live (aAo t) (.inr false) (.inl t) (fuel:=fuel) (v:=(t,[],t.Live,(t.Live.length:Int),0)) rfl (fun i x D=>N4 z e D) (by
  unfold oT
  simp) e
 rw[this]
 cases t.Live.zipIdx.any fun p=>aAo t p.2 p.1 with
 | true=>rfl
 | false=>
  simp only[jn_l,aJ,if_false,bd_s,aZ,aK]
  unfold yY
  cases decide (1<=t.Next)<;>rfl
def A4 (t:fL):Bool:= !(t.Live.zipIdx.any fun p=>aAo t p.2 p.1)&&yY t.Next
theorem U7 {fuel:Nat} (e:t.Live.length<=2000000) (z:t.Live.length<fuel):wN fuel t=some (A4 t):=SM e z
theorem UY {fuel:Nat} (H:t.Live.length<=2000000) (e:t.Live.length<fuel):wD fuel t=some (A4 t):=by
 rw[R9 (by omega) e]
 unfold A4
 cases z:yY t.Next with
 | false=>simp
 | true=>
  congr 1
  have D:1<=t.Next/\t.Next<=1000000:=by simpa [yY]using z
  have:∀(i:Nat) (x:jL),aCn t i x=aAo t i x:=by
   intro i x
   unfold aCn aAo
   rw[(iS .i64 _).2 ⟨by show -9223372036854775808<=_;omega,by show _<=9223372036854775807;omega⟩]
   congr 3
   by_cases h:x.Pid<t.Next
   ·rw[jA h,jA (by omega)]
   ·rw[iM h,iM (by omega)]
  simp only[this]
def FB (h:Bool) (a lo hi:Int):Bool:=br h (decide (lo<=a)&&decide (a<=hi)) (a==0)
theorem aBy (F:Nat) (h:Bool) (a lo e:Int):nL F h a lo e=some (FB h a lo e):=by
 unfold nL FB
 cases h with
 | false=>rfl
 | true=>cases decide (lo<=a)<;>rfl
theorem jH (a b:Bool):br a (some b) (some false)=some (a&&b):=by cases a<;>rfl
theorem vW (a b:Bool) (x:α):br a (some (x,b)) (some (x,false))=some (x,a&&b):=by cases a<;>rfl
def DD (o:oK):Bool:=decide ((o.Text.size:Int)<=60)&&decide ((o.Dir.size:Int)<=60)
def rZ (o:oK):Bool:=decide (o.Text=ByteArray.mk #[])&&decide (o.Dir=ByteArray.mk #[])
def HL (o:oK) (h0 h1 h2 h3 h4 h5:Bool) (ha lb hb:Int):Bool:=
 FB h0 o.A 1 ha&&(FB h1 o.B lb hb&&(FB h2 o.C 1 120&&(FB h5 (o.Data.length:Int) 1 2000&&(br h3 (oZ o.Name) (decide (o.Name=ByteArray.mk #[]))&&br h4 (DD o) (rZ o)))))
def DF (o:oK):Bool:=
 br (o.Kind==1) (HL o false false false true true false 1000000 1 1000000) <|
 br (o.Kind==2) (HL o false false false true true false 1000000 1 1000000) <|
 br (o.Kind==3) (HL o true true false false true false 1000000 0 1) <|
 br (o.Kind==4) (HL o true false false false false false 1000000 1 1000000) <|
 br (o.Kind==5) (HL o true false false false false true 1000000 1 1000000) <|
 br (o.Kind==6) (HL o true true false false false false 1000000 0 255) <|
 br (o.Kind==7) (HL o true false false false false false 1000000 1 1000000) <|
 br (o.Kind==8) (HL o true false false false false false 1000000 1 1000000) <|
 br (o.Kind==9) (HL o true true false false false false 1000000 1 1000000) <|
 br (o.Kind==10) (HL o true true true false false false 1000000 68 85&&(o.B==76||(o.B==82||(o.B==85||o.B==68)))) <|
 br (o.Kind==11) (HL o true false false true false false 1000000 1 1000000) <|
 br (o.Kind==12) (HL o true true false false false false 120 1 120) <|
 br (o.Kind==13) (HL o true true false false false false 1000000 1 1000000) <|
 br (o.Kind==14) (HL o true false false false false false 1000000 1 1000000) false
theorem aHJ (hs:o.Name.size<=1048576) (hf:1048576<F) (D H I e z M:Bool):(bd (α:=oK×Bool) (
  gd ((0:Int)<=(3:Int)/\(3:Int)<(([D,H,I,e,z,M].length:Nat):Int)) <|
  bd ([D,H,I,e,z,M][0+Int.toNat 3]?) fun Y=>
  br Y (
   bd (pT F o.Name) fun R=>
   br (!R) (
    some (o,true)) <|
   gd ((0:Int)<=(3:Int)/\(3:Int)<(([D,H,I,e,z,M].length:Nat):Int)) <|
   bd ([D,H,I,e,z,M][0+Int.toNat 3]?) fun x26=>
   br (!x26) (
    br (!decide (o.Name=ByteArray.mk #[])) (
     some (o,true)) <|
    gd ((0:Int)<=(4:Int)/\(4:Int)<(([D,H,I,e,z,M].length:Nat):Int)) <|
    bd ([D,H,I,e,z,M][0+Int.toNat 4]?) fun x27=>
    br (!x27) (
     br (!decide (o.Text=ByteArray.mk #[])) (
      some (o,true)) <|
     some (o,!decide (o.Dir=ByteArray.mk #[]))) <|
    some (o,false)) <|
   gd ((0:Int)<=(4:Int)/\(4:Int)<(([D,H,I,e,z,M].length:Nat):Int)) <|
   bd ([D,H,I,e,z,M][0+Int.toNat 4]?) fun x28=>
   br (!x28) (
    br (!decide (o.Text=ByteArray.mk #[])) (
     some (o,true)) <|
    some (o,!decide (o.Dir=ByteArray.mk #[]))) <|
   some (o,false)) <|
  gd ((0:Int)<=(3:Int)/\(3:Int)<(([D,H,I,e,z,M].length:Nat):Int)) <|
  bd ([D,H,I,e,z,M][0+Int.toNat 3]?) fun x29=>
  br (!x29) (
   br (!decide (o.Name=ByteArray.mk #[])) (
    some (o,true)) <|
   gd ((0:Int)<=(4:Int)/\(4:Int)<(([D,H,I,e,z,M].length:Nat):Int)) <|
   bd ([D,H,I,e,z,M][0+Int.toNat 4]?) fun x30=>
   br (!x30) (
    br (!decide (o.Text=ByteArray.mk #[])) (
     some (o,true)) <|
    some (o,!decide (o.Dir=ByteArray.mk #[]))) <|
   some (o,false)) <|
  gd ((0:Int)<=(4:Int)/\(4:Int)<(([D,H,I,e,z,M].length:Nat):Int)) <|
  bd ([D,H,I,e,z,M][0+Int.toNat 4]?) fun x31=>
  br (!x31) (
   br (!decide (o.Text=ByteArray.mk #[])) (
    some (o,true)) <|
   some (o,!decide (o.Dir=ByteArray.mk #[]))) <|
  some (o,false)) fun(W,x33)=>
 br x33 (
  some false) <|
 bd (α:=Bool) (
  br (decide ((↑W.Text.size:Int)<=60)) (
   some (decide ((↑W.Dir.size:Int)<=60))) <|
  some false) fun x34=>
 some x34)=some (br e (oZ o.Name) (decide (o.Name=ByteArray.mk #[]))&&br z (DD o) (rZ o)):=by
 have g3:(0:Int)<=(3:Int)/\(3:Int)<(([D,H,I,e,z,M].length:Nat):Int):=⟨by decide,by show(3:Int)<6;decide⟩
 have g4:(0:Int)<=(4:Int)/\(4:Int)<(([D,H,I,e,z,M].length:Nat):Int):=⟨by decide,by show(4:Int)<6;decide⟩
 rw[CG hs (by omega)]
 unfold DD rZ
 have ht:decide (o.Text=ByteArray.mk #[])=true->decide ((o.Text.size:Int)<=60)=true:=fun h=>by rw[of_decide_eq_true h];rfl
 have hd:decide (o.Dir=ByteArray.mk #[])=true->decide ((o.Dir.size:Int)<=60)=true:=fun h=>by rw[of_decide_eq_true h];rfl
 simp only[uP g3,uP g4]
 show bd (br e (bd (some (oZ o.Name)) fun R=>_) _) _=_
 generalize decide (o.Name=ByteArray.mk #[])=n
 cases hn:decide (o.Text=ByteArray.mk #[])<;>cases hm:decide (o.Dir=ByteArray.mk #[])<;>cases ha:decide ((o.Text.size:Int)<=60)<;>cases hb:decide ((o.Dir.size:Int)<=60)<;>simp only[hn,hm,ha,hb,aJ,imp_false,not_true_eq_false,true_implies]at ht hd<;>cases e<;>cases z<;>cases oZ o.Name<;>cases n<;>simp only[ha,hb,br_t,br_f,bd_s,aM,aZ,bE,aK,dJ,Bool.and_false,tG]<;>first|rfl|(show bd (br _ _ _) _=_;rw[ha];first|rfl|(show bd (some _) _=_;rw[hb];rfl))
theorem aJj (e z D I M H:Bool) (R lb W:Int):(
  gd ((0:Int)<=(0:Int)/\(0:Int)<(([e,z,D,I,M,H].length:Nat):Int)) <|
  bd ([e,z,D,I,M,H][0+Int.toNat 0]?) fun Y=>
  bd (nL F Y o.A 1 R) fun x11=>
  br (!x11) (
   some (o,[e,z,D,I,M,H],true)) <|
  gd ((0:Int)<=(1:Int)/\(1:Int)<(([e,z,D,I,M,H].length:Nat):Int)) <|
  bd ([e,z,D,I,M,H][0+Int.toNat 1]?) fun x12=>
  bd (nL F x12 o.B lb W) fun x13=>
  br (!x13) (
   some (o,[e,z,D,I,M,H],true)) <|
  gd ((0:Int)<=(2:Int)/\(2:Int)<(([e,z,D,I,M,H].length:Nat):Int)) <|
  bd ([e,z,D,I,M,H][0+Int.toNat 2]?) fun x14=>
  bd (nL F x14 o.C 1 120) fun x15=>
  br (!x15) (
   some (o,[e,z,D,I,M,H],true)) <|
  gd ((0:Int)<=(5:Int)/\(5:Int)<(([e,z,D,I,M,H].length:Nat):Int)) <|
  bd ([e,z,D,I,M,H][0+Int.toNat 5]?) fun x16=>
  bd (nL F x16 (↑o.Data.length:Int) 1 2000) fun x17=>
  some (o,[e,z,D,I,M,H],!x17))=some (o,[e,z,D,I,M,H],!(FB e o.A 1 R&&(FB z o.B lb W&&(FB D o.C 1 120&&FB H (o.Data.length:Int) 1 2000)))):=by
 have g0:(0:Int)<=(0:Int)/\(0:Int)<(([e,z,D,I,M,H].length:Nat):Int):=⟨by decide,by show(0:Int)<6;decide⟩
 have g1:(0:Int)<=(1:Int)/\(1:Int)<(([e,z,D,I,M,H].length:Nat):Int):=⟨by decide,by show(1:Int)<6;decide⟩
 have g2:(0:Int)<=(2:Int)/\(2:Int)<(([e,z,D,I,M,H].length:Nat):Int):=⟨by decide,by show(2:Int)<6;decide⟩
 have g5:(0:Int)<=(5:Int)/\(5:Int)<(([e,z,D,I,M,H].length:Nat):Int):=⟨by decide,by show(5:Int)<6;decide⟩
 simp only[aBy,uP g0,uP g1,uP g2,uP g5]
 show br (!FB e o.A 1 R) _ (br (!FB z o.B lb W) _ (br (!FB D o.C 1 120) _ _))=_
 cases FB e o.A 1 R<;>cases FB z o.B lb W<;>cases FB D o.C 1 120<;>rfl
def aH8 (o:oK):Bool:=(o.B==76)||((o.B==82)||((o.B==85)||(o.B==68)))
theorem aK8 (hs:o.Name.size<=1048576) (hf:1048576<F) (e z D H I M:Bool) (W lb Y:Int) (hk:1<=o.Kind/\o.Kind<=14) (e1:FY F o.Kind=some [e,z,D,H,I,M])
  (e2:(br (o.Kind==12) (some (o,[e,z,D,H,I,M],120,1,120))<|br (o.Kind==3) (some (o,[e,z,D,H,I,M],1000000,0,1))<|br (o.Kind==6) (some (o,[e,z,D,H,I,M],1000000,0,255))<|br (o.Kind==10) (some (o,[e,z,D,H,I,M],1000000,68,85))<|some (o,[e,z,D,H,I,M],1000000,1,1000000))=some (o,[e,z,D,H,I,M],W,lb,Y)) :
  xP F o=some (HL o e z D H I M W lb Y&&br (o.Kind==10) (aH8 o) true):=by
 have R:=aHJ (o:=o) hs hf e z D H I M
 have hm:=aJj (F:=F) (o:=o) e z D H I M W lb Y
 unfold xP
 rw[iM (show¬o.Kind<1 by omega),iM (show¬14<o.Kind by omega)]
 simp only[br_f,bd_s]
 rw[e1,bd_s,e2,bd_s]
 simp only
 rw[hm,bd_s]
 simp only
 unfold HL
 generalize (br H (oZ o.Name) (decide (o.Name=ByteArray.mk #[]))&&br I (DD o) (rZ o))=T at R⊢
 cases FB e o.A 1 W with
 | false=>rfl
 | true=>
 cases FB z o.B lb Y with
 | false=>rfl
 | true=>
 cases FB D o.C 1 120 with
 | false=>rfl
 | true=>
 cases FB M (o.Data.length:Int) 1 2000 with
 | false=>rfl
 | true=>
  simp only[tG,aM,br_f,aK]
  cases o.Kind==10 with
  | false=>
   simp only[br_f,bd_s,bE]
   exact R
  | true=>
   unfold aH8
   simp only[br_t,bne]
   cases o.B==76 with
   | true=>simp only[aM,br_f,bd_s,dQ,bE];exact R
   | false=>
   cases o.B==82 with
   | true=>simp only[aM,aZ,br_t,br_f,bd_s,dQ,Bool.or_true,bE];exact R
   | false=>
   cases o.B==85 with
   | true=>simp only[aM,aZ,br_t,br_f,bd_s,dQ,Bool.or_true,bE];exact R
   | false=>
   cases o.B==68 with
   | true=>simp only[aM,aZ,br_t,br_f,bd_s,dQ,Bool.or_true,bE];exact R
   | false=>simp only[aZ,br_t,bd_s,Bool.or_self,Bool.and_false]
theorem aKl (k:Int):(k<1∨14<k)∨k=1∨k=2∨k=3∨k=4∨k=5∨k=6∨k=7∨k=8∨k=9∨k=10∨k=11∨k=12∨k=13∨k=14:=by omega
theorem aEr (h:o.Kind<1∨14<o.Kind):DF o=false:=by
 have f:∀j:Int,1<=j->j<=14->(o.Kind==j)=false:=fun j e z=>beq_eq_false_iff_ne.2 (by omega)
 unfold DF
 rw[f 1 (by decide) (by decide),f 2 (by decide) (by decide),f 3 (by decide) (by decide),f 4 (by decide) (by decide),f 5 (by decide) (by decide),f 6 (by decide) (by decide),f 7 (by decide) (by decide),f 8 (by decide) (by decide),f 9 (by decide) (by decide),f 10 (by decide) (by decide),f 11 (by decide) (by decide),f 12 (by decide) (by decide),f 13 (by decide) (by decide),f 14 (by decide) (by decide)]
 rfl
theorem aDw (Y:o.Name.size<=1048576) (hf:1048576<F):xP F o=some (DF o):=by
 have go:∀(e z D H I M:Bool) (R lb W:Int) (k:Int),o.Kind=k->1<=k->k<=14->FY F k=some [e,z,D,H,I,M]->(br (k==12) (some (o,[e,z,D,H,I,M],(120:Int),(1:Int),(120:Int)))<|br (k==3) (some (o,[e,z,D,H,I,M],1000000,0,1))<|br (k==6) (some (o,[e,z,D,H,I,M],1000000,0,255))<|br (k==10) (some (o,[e,z,D,H,I,M],1000000,68,85))<|some (o,[e,z,D,H,I,M],1000000,1,1000000))=some (o,[e,z,D,H,I,M],R,lb,W)->(HL o e z D H I M R lb W&&br (k==10) (aH8 o) true)=DF o->xP F o=some (DF o):=by
  rintro e z D H I M R lb W k rfl k1 k2 e1 e2 e3
  rw[aK8 Y hf e z D H I M R lb W ⟨k1,k2⟩ e1 e2,e3]
 rcases aKl o.Kind with h|h|h|h|h|h|h|h|h|h|h|h|h|h|h
 ·rw[aEr h]
  unfold xP
  rcases h with h|h
  ·rw[jA h];rfl
  ·rw[jA h,iM (show¬o.Kind<1 by omega)];rfl
 ·exact go false false false true true false 1000000 1 1000000 1 h (by decide) (by decide) rfl rfl (by unfold DF;rw[h];exact bE _)
 ·exact go false false false true true false 1000000 1 1000000 2 h (by decide) (by decide) rfl rfl (by unfold DF;rw[h];exact bE _)
 ·exact go true true false false true false 1000000 0 1 3 h (by decide) (by decide) rfl rfl (by unfold DF;rw[h];exact bE _)
 ·exact go true false false false false false 1000000 1 1000000 4 h (by decide) (by decide) rfl rfl (by unfold DF;rw[h];exact bE _)
 ·exact go true false false false false true 1000000 1 1000000 5 h (by decide) (by decide) rfl rfl (by unfold DF;rw[h];exact bE _)
 ·exact go true true false false false false 1000000 0 255 6 h (by decide) (by decide) rfl rfl (by unfold DF;rw[h];exact bE _)
 ·exact go true false false false false false 1000000 1 1000000 7 h (by decide) (by decide) rfl rfl (by unfold DF;rw[h];exact bE _)
 ·exact go true false false false false false 1000000 1 1000000 8 h (by decide) (by decide) rfl rfl (by unfold DF;rw[h];exact bE _)
 ·exact go true true false false false false 1000000 1 1000000 9 h (by decide) (by decide) rfl rfl (by unfold DF;rw[h];exact bE _)
 ·exact go true true true false false false 1000000 68 85 10 h (by decide) (by decide) rfl rfl (by unfold DF;rw[h];rfl)
 ·exact go true false false true false false 1000000 1 1000000 11 h (by decide) (by decide) rfl rfl (by unfold DF;rw[h];exact bE _)
 ·exact go true true false false false false 120 1 120 12 h (by decide) (by decide) rfl rfl (by unfold DF;rw[h];exact bE _)
 ·exact go true true false false false false 1000000 1 1000000 13 h (by decide) (by decide) rfl rfl (by unfold DF;rw[h];exact bE _)
 ·exact go true false false false false false 1000000 1 1000000 14 h (by decide) (by decide) rfl rfl (by unfold DF;rw[h];exact bE _)
theorem fZ (F:Nat) (a:Int):FN F a=some ((a==76)||((a==82)||((a==85)||(a==68)))):=by
 unfold FN
 cases a==76<;>cases a==82<;>cases a==85<;>rfl
theorem eH (F:Nat) (a:Int):pR F a=some (decide (1<=a)&&decide (a<=120)):=by
 unfold pR
 rw[pI_within_eq]
 rfl
theorem qL:decide (ByteArray.mk #[]=ByteArray.mk #[])=true:=jA rfl
theorem nA:((([]:List UInt8).length:Int)==0)=true:=rfl
theorem aDs (D:o.Name.size<=1048576) (H:1048576<F):kJ F o=some (DF o):=by
 have e:=BQ (fuel:=F) D (by omega)
 rcases aKl o.Kind with h|h|h|h|h|h|h|h|h|h|h|h|h|h|h
 ·rw[aEr h]
  have f:∀j:Int,1<=j->j<=14->(o.Kind==j)=false:=fun j I M=>beq_eq_false_iff_ne.2 (by omega)
  unfold kJ
  simp only[f 1 (by decide) (by decide),f 2 (by decide) (by decide),f 3 (by decide) (by decide),f 4 (by decide) (by decide),f 5 (by decide) (by decide),f 6 (by decide) (by decide),f 7 (by decide) (by decide),f 8 (by decide) (by decide),f 9 (by decide) (by decide),f 10 (by decide) (by decide),f 11 (by decide) (by decide),f 12 (by decide) (by decide),f 13 (by decide) (by decide),f 14 (by decide) (by decide),br_f,bd_s,vW,jH,dJ]
 ·unfold kJ DF
  simp only[h,Int.reduceBEq,br_t,br_f,bd_s,e,pI_isCmd_eq,pI_isId_eq,pI_within_eq,fZ,eH,vW,jH,qL,nA,bE,aK]
  unfold HL FB DD rZ
  simp only[br_t,br_f]
  congr 1
  ac_rfl
 ·unfold kJ DF
  simp only[h,Int.reduceBEq,br_t,br_f,bd_s,e,pI_isCmd_eq,pI_isId_eq,pI_within_eq,fZ,eH,vW,jH,qL,nA,bE,aK]
  unfold HL FB DD rZ
  simp only[br_t,br_f]
  congr 1
  ac_rfl
 ·unfold kJ DF
  simp only[h,Int.reduceBEq,br_t,br_f,bd_s,e,pI_isCmd_eq,pI_isId_eq,pI_within_eq,fZ,eH,vW,jH,qL,nA,bE,aK]
  unfold HL FB DD rZ
  simp only[br_t,br_f]
  congr 1
  ac_rfl
 ·unfold kJ DF
  simp only[h,Int.reduceBEq,br_t,br_f,bd_s,e,pI_isCmd_eq,pI_isId_eq,pI_within_eq,fZ,eH,vW,jH,qL,nA,bE,aK]
  unfold HL FB DD rZ
  simp only[br_t,br_f]
  congr 1
  ac_rfl
 ·unfold kJ DF
  simp only[h,Int.reduceBEq,br_t,br_f,bd_s,e,pI_isCmd_eq,pI_isId_eq,pI_within_eq,fZ,eH,vW,jH,qL,nA,bE,aK]
  unfold HL FB DD rZ
  simp only[br_t,br_f]
  congr 1
  ac_rfl
 ·unfold kJ DF
  simp only[h,Int.reduceBEq,br_t,br_f,bd_s,e,pI_isCmd_eq,pI_isId_eq,pI_within_eq,fZ,eH,vW,jH,qL,nA,bE,aK]
  unfold HL FB DD rZ
  simp only[br_t,br_f]
  congr 1
  ac_rfl
 ·unfold kJ DF
  simp only[h,Int.reduceBEq,br_t,br_f,bd_s,e,pI_isCmd_eq,pI_isId_eq,pI_within_eq,fZ,eH,vW,jH,qL,nA,bE,aK]
  unfold HL FB DD rZ
  simp only[br_t,br_f]
  congr 1
  ac_rfl
 ·unfold kJ DF
  simp only[h,Int.reduceBEq,br_t,br_f,bd_s,e,pI_isCmd_eq,pI_isId_eq,pI_within_eq,fZ,eH,vW,jH,qL,nA,bE,aK]
  unfold HL FB DD rZ
  simp only[br_t,br_f]
  congr 1
  ac_rfl
 ·unfold kJ DF
  simp only[h,Int.reduceBEq,br_t,br_f,bd_s,e,pI_isCmd_eq,pI_isId_eq,pI_within_eq,fZ,eH,vW,jH,qL,nA,bE,aK]
  unfold HL FB DD rZ
  simp only[br_t,br_f]
  congr 1
  ac_rfl
 ·unfold kJ DF
  simp only[h,Int.reduceBEq,br_t,br_f,bd_s,e,pI_isCmd_eq,pI_isId_eq,pI_within_eq,fZ,eH,vW,jH,qL,nA,bE,aK]
  unfold HL FB DD rZ
  simp only[br_t,br_f]
  have z:((o.B==76)||((o.B==82)||((o.B==85)||(o.B==68))))=((decide (68<=o.B)&&decide (o.B<=85))&&((o.B==76)||((o.B==82)||((o.B==85)||(o.B==68))))):=by
   rw[dG]
   simp only[eZ,aB,fX,bN]
   omega
  congr 1
  conv=>lhs;rw[z]
  ac_rfl
 ·unfold kJ DF
  simp only[h,Int.reduceBEq,br_t,br_f,bd_s,e,pI_isCmd_eq,pI_isId_eq,pI_within_eq,fZ,eH,vW,jH,qL,nA,bE,aK]
  unfold HL FB DD rZ
  simp only[br_t,br_f]
  congr 1
  ac_rfl
 ·unfold kJ DF
  simp only[h,Int.reduceBEq,br_t,br_f,bd_s,e,pI_isCmd_eq,pI_isId_eq,pI_within_eq,fZ,eH,vW,jH,qL,nA,bE,aK]
  unfold HL FB DD rZ
  simp only[br_t,br_f]
  congr 1
  ac_rfl
 ·unfold kJ DF
  simp only[h,Int.reduceBEq,br_t,br_f,bd_s,e,pI_isCmd_eq,pI_isId_eq,pI_within_eq,fZ,eH,vW,jH,qL,nA,bE,aK]
  unfold HL FB DD rZ
  simp only[br_t,br_f]
  congr 1
  ac_rfl
 ·unfold kJ DF
  simp only[h,Int.reduceBEq,br_t,br_f,bd_s,e,pI_isCmd_eq,pI_isId_eq,pI_within_eq,fZ,eH,vW,jH,qL,nA,bE,aK]
  unfold HL FB DD rZ
  simp only[br_t,br_f]
  congr 1
  ac_rfl
def tS (l:List iZ):Nat:=l.countP fun x=> !x.Lost
theorem Y9 (l:List iZ):tS l<=l.length:=List.countP_le_length
theorem tU {l:List iZ} (hl:l.length<=1048576) (hf:1048576<F):y6 F l=some (tS l:Int):=by
 unfold y6
 have key:aL (xJ F) F (0,l,(l.length:Int),0)=some (tS l:Int):=by
  refine fS (fun i=>((tS (l.take i):Int),l,(l.length:Int),(i:Int))) l.length _ rfl (fun i W=> ?_) (by unfold xJ;simp) (by omega)
  have D:l[i]?=some l[i]:=iD W
  obtain⟨Y,h2,H,I,M⟩:=aV D (by omega)
  have e:tS (l.take (i+1))=tS (l.take i)+if l[i].Lost then 0 else 1:=by
   unfold tS
   rw[cD D,List.countP_append,List.countP_singleton]
   cases l[i].Lost<;>rfl
  have z:=Y9 (l.take i)
  rw[aF]at z
  generalize l[i]=x at D H e
  unfold xJ
  simp only[Y,br_t,aE h2,H,bd_s]
  cases R:x.Lost with
  | true=>
   rw[R]at e
   simp only[aM,br_f,bd_s]
   rw[M,aE I,e]
   rfl
  | false=>
   rw[R]at e
   simp only[aZ,br_t]
   rw[aE (cS (by omega) (by omega)),bd_s]
   simp only
   rw[M,aE I,e]
   rfl
 rw[key]
 rfl
theorem xQ {l:List iZ} (e:l.length<=1048576) (z:1048576<F):EQ F l=some (tS l:Int):=tU e z
theorem aMG (a b c:Nat):(((a:Int)+(b:Int)+(c:Int))==0)=(((a:Int)==0)&&(((b:Int)==0)&&((c:Int)==0))):=by
 rw[dG]
 simp only[aB,fX]
 omega
def vQ (d:cO):Bool:=(d.Room==0)&&((d.Fuse==0)&&((d.Next==0)&&(((d.Files.length:Int)==0)&&(((d.Kept.length:Int)==0)&&((d.Turns.length:Int)==0)))))
theorem zC {d:cO} (h:TO F d):oR F d=some (vQ d):=by
 have:=h.fl;have:=h.kl;have:=h.tl
 unfold oR vQ
 rw[aE (cS (by omega) (by omega)),aE (cS (by omega) (by omega)),aMG]
 simp only[jH,bd_s]
theorem C7 (F:Nat) (d:cO):rG F d=some (vQ d):=by
 unfold rG vQ
 simp only[jH,bd_s]
def wW (s:bA):Bool:=(s.W==0)&&((s.H==0)&&((s.Limit==0)&&((s.Next==0)&&(((s.Panes.length:Int)==0)&&(((s.Wins.length:Int)==0)&&((s.Sess.length:Int)==0))))))
theorem JV (e:s.Panes.length<=1048576) (z:s.Wins.length<=1048576) (D:s.Sess.length<=1048576):qU F s=some (wW s):=by
 unfold qU wW
 rw[aE (cS (by omega) (by omega)),aE (cS (by omega) (by omega)),aMG]
 simp only[jH,bd_s]
theorem MF (F:Nat) (s:bA):tD F s=some (wW s):=by
 unfold tD wW
 simp only[jH,bd_s]
def CZ (p:j6):Bool:=vQ p.Disk&&((p.Gen==0)&&((p.Seq==0)&&((p.Size==0)&& !p.Stuck)))
theorem JU {p:j6} (h:TO F p.Disk):qT F p=some (CZ p):=by
 unfold qT CZ
 rw[zC h]
 simp only[jH,bd_s]
def K0 (a1:oK):Bool:=(a1.Kind==0)&&((a1.A==0)&&((a1.B==0)&&((a1.C==0)&&(decide (a1.Name=ByteArray.mk #[])&&(decide (a1.Text=ByteArray.mk #[])&&(decide (a1.Dir=ByteArray.mk #[])&&((a1.Data.length:Int)==0)))))))
theorem EE (F:Nat) (o:oK):xL F o=some (K0 o):=by
 unfold xL K0
 simp only[jH,bd_s]
theorem U9 (F:Nat) (o:oK):II F o=some (K0 o):=EE F o
def C5 (x:iZ):Bool:=br x.Lost (K0 x.Op) (DF x.Op)
theorem UX {x:iZ} (e:x.Op.Name.size<=1048576) (z:1048576<F):BP F x=some (!C5 x):=by
 unfold BP LZ C5
 rw[EE,aDs e z]
 cases x.Lost<;>rfl
theorem aBq {l:List iZ} (Y:l.length<=1048576) (z:∀x∈l,x.Op.Name.size<=1048576) (D:1048576<F):eC F l=some (l.any fun x=> !C5 x):=by
 unfold eC hJ
 have h:=j3 (B:=eE F) (fun i=>(l,(l.length:Int),(i:Int))) l (fun x=> !C5 x) (fun i=> .inr (i:Int)) (.inl ()) (fuel:=F) (v:=(l,(l.length:Int),0)) rfl (fun i x e=>by
  obtain⟨H,I,M,R,W⟩:=aV e (by omega)
  unfold eE
  simp only[H,br_t,aE I,M,bd_s,W,aE R,UX (z x (tF e)) D]
  cases C5 x<;>rfl) (by unfold eE;simp) (by omega)
 rw[h,<-vU]
 unfold E1
 cases l.findIdx? fun x=> !C5 x<;>rfl
theorem SK {s:lE} (hl:s.Done.length<=1048576) (D:∀x∈s.Done,x.Op.Name.size<=1048576) (H:1048576<F):aL (uB F) F (s,s.Done,(s.Done.length:Int),0)=some (if s.Done.any fun x=> !C5 x then Sum.inr false else Sum.inl s):=by
 refine mP (B:=uB F) (fun i=>(s,s.Done,(s.Done.length:Int),(i:Int))) s.Done (fun x=> !C5 x) (Sum.inr false) (Sum.inl s) rfl (fun i x z=> ?_) (by unfold uB;simp) (by omega)
 obtain⟨I,M,R,W,Y⟩:=aV z (by omega)
 unfold uB
 simp only[I,br_t,aE M,R,bd_s,U9,aDw (D x (tF z)) H]
 rw[<-VN]
 unfold C5
 have e:∀c:Bool,(br c (some (.inr (.inr false))) (gd (cN IntKind.i64 ((i:Int)+1)) (some (.inl (s,s.Done,(s.Done.length:Int),(i:Int)+1)))):Option ((lE×List iZ×Int×Int)⊕(lE⊕Bool)))=br c (some (.inr (.inr false))) (some (.inl (s,s.Done,(s.Done.length:Int),((i+1:Nat):Int)))):=by
  intro c
  rw[Y,aE W]
 cases x.Lost<;>cases K0 x.Op<;>cases DF x.Op<;>first|exact e true|exact e false
structure SvF (F:Nat) (s:lE):Prop where
 b:SG F s.Base
 t:SG F s.St
 p:TO (F+70) s.Dep.Disk
 d:TO (F+70) s.Disk
 tl:s.Tab.Live.length<=1048576
 hl:s.Done.length<=1048576
 hn:∀x∈s.Done,x.Op.Name.size<=1048576
noncomputable def Z3 (s:lE):Bool:=(sW s.Base&&(!decide (0<(s.Base.Panes.length:Int))&&((decide (0<=s.Top)&&decide (s.Top<=400000))&&(A4 s.Tab&&(!(s.Done.any fun x=> !C5 x)&&(decide (0<=s.Sure)&&decide (s.Sure<=(tS s.Done:Int)))))))) &&
 br s.Up (sW s.St&&(PE s.Dep&&(vQ s.Disk&&(s.Dep.Seq==(tS s.Done:Int)+1)))) (wW s.St&&(CZ s.Dep&&(DX s.Disk&&((s.Tab.Live.length:Int)==0))))
theorem aBn {s:lE} (h:SvF F s):JP (F+70) s=some (Z3 s):=by
 have D:=h.d.fu;have H:=h.tl;have e:=h.hl
 have z:=Y9 s.Done
 unfold JP Z3
 rw[GQ h.b,aBq e h.hn (by omega),tU e (by omega),UY (by omega) (by omega)]
 simp only[pI_within_eq,bd_s]
 cases sW s.Base with
 | false=>rfl
 | true=>
 cases decide (0<(s.Base.Panes.length:Int))with
 | true=>rfl
 | false=>
 cases decide (0<=s.Top)&&decide (s.Top<=400000)with
 | false=>rfl
 | true=>
 cases A4 s.Tab with
 | false=>rfl
 | true=>
 cases s.Done.any fun x=> !C5 x with
 | true=>rfl
 | false=>
 cases decide (0<=s.Sure)&&decide (s.Sure<=(tS s.Done:Int))with
 | false=>rfl
 | true=>
  simp only[aM,aZ,br_f,bd_s,aK]
  cases s.Up with
  | true=>
   rw[br_t,br_t,GQ h.t,UV h.p,zC h.d,tU e (by omega)]
   simp only[bd_s]
   rw[aE (cS (by omega) (by omega))]
   simp only[jH,bd_s]
  | false=>
   rw[br_f,br_f,JV h.t.f.f.pl h.t.f.f.wl h.t.f.f.sl,JU h.p,BK h.d]
   simp only[jH,bd_s]
theorem aBu {s:lE} (h:SvF F s):KC (F+70) s=some (Z3 s):=by
 have D:=h.d.fu;have H:=h.tl;have e:=h.hl
 have z:=Y9 s.Done
 unfold KC Z3
 rw[GT h.b,xQ e (by omega),U7 (by omega) (by omega)]
 simp only[bd_s,uF s.Sure,uF s.Top,uF 0 s.Top,uF 0 s.Sure]
 cases sW s.Base with
 | false=>rfl
 | true=>
 cases decide (0<(s.Base.Panes.length:Int))with
 | true=>rfl
 | false=>
 cases decide (s.Top<0)with
 | true=>rfl
 | false=>
 cases decide (400000<s.Top)with
 | true=>rfl
 | false=>
 cases A4 s.Tab with
 | false=>rfl
 | true=>
  simp only[aM,aZ,br_f,bd_s,aK,tG]
  cases decide (s.Sure<0)with
  | true=>simp only[br_t,bd_s,aM,dJ,Bool.and_false]
  | false=>
  cases decide ((tS s.Done:Int)<s.Sure)with
  | true=>simp only[br_t,br_f,bd_s,aM,aZ,dJ,Bool.and_false]
  | false=>
   simp only[br_f,bd_s,aZ,bE,aK]
   rw[SK e h.hn (by omega)]
   cases s.Done.any fun x=> !C5 x with
   | true=>rfl
   | false=>
    simp only[aJ,if_false,jn_l,aZ,aK]
    cases s.Up with
    | true=>
     rw[br_t,br_t,GT h.t,U4 h.p,C7,xQ e (by omega)]
     simp only[bd_s]
     rw[aE (cS (by omega) (by omega))]
     simp only[jH,bd_s]
    | false=>
     rw[br_f,br_f,MF,C7,B9 h.d]
     unfold CZ
     simp only[jH,bd_s,Bool.and_assoc]
theorem aDa {V O:Type} {B:V->Option (V⊕O)} (f:Nat->V) (n:Nat) (E:O) {fuel:Nat} {v:V} (z:v=f 0) (h:∀i,i<n->B (f i)=some (.inl (f (i+1)))) (D:B (f n)=some (.inr E)) (e:n<fuel):aL B fuel v=some E:=by
 subst z
 have key:∀(m i fuel:Nat),n-i=m->i<=n->m<fuel->aL B fuel (f i)=some E:=by
  intro m
  induction m with
  | zero=>
   intro i fuel H I e
   obtain rfl:i=n:=by omega
   cases fuel with
   | zero=>omega
   | succ fuel=>rw[aL,D]
  | succ m ih=>
   intro i fuel H I e
   cases fuel with
   | zero=>omega
   | succ fuel=>
    rw[aL,h i (by omega)]
    exact ih (i+1) fuel (by omega) (by omega) (by omega)
 exact key n 0 fuel (by omega) (by omega) e
theorem aHA {B:List α×Int×Int->Option ((List α×Int×Int)⊕(Int⊕Int))} (l:List α) (P:α->Prop) {left:Int} {fuel:Nat} (h0:0<=left) (h1:left<=1048576)
  (hB:∀(i:Nat) x k,l[i]?=some x->0<=k->k<=1048576->∃r,B (l,k,(i:Int))=(if r<0 then some (.inr (.inr (-1)))else some (.inl (l,r,((i+1:Nat):Int))))/\r<=k/\(0<=r->P x)) (hE:∀k,B (l,k,(l.length:Int))=some (.inr (.inl k))) (R:l.length<fuel) :
  aL B fuel (l,left,0)=some (.inr (-1))∨∃r,aL B fuel (l,left,0)=some (.inl r)/\0<=r/\r<=left/\∀x∈l,P x:=by
 have key:∀(n i fuel:Nat) (k:Int),l.length-i=n->i<=l.length->n<fuel->0<=k->k<=left->(∀(j:Nat) x,j<i->l[j]?=some x->P x)->aL B fuel (l,k,(i:Int))=some (.inr (-1))∨∃r,aL B fuel (l,k,(i:Int))=some (.inl r)/\0<=r/\r<=left/\∀x∈l,P x:=by
  intro n
  induction n with
  | zero=>
   intro i fuel k hn hi R e z W
   obtain rfl:i=l.length:=by omega
   cases fuel with
   | zero=>omega
   | succ fuel=>
    refine .inr ⟨k,by rw[aL,hE],e,z,fun x D=> ?_⟩
    obtain⟨j,M⟩:=bD D
    exact W j x (iR.1 M).1 M
  | succ n ih=>
   intro i fuel k hn hi R e z W
   have H:i<l.length:=by omega
   cases fuel with
   | zero=>omega
   | succ fuel=>
    obtain⟨r,hb,hr,hp⟩:=hB i l[i] k (iD H) e (by omega)
    rw[aL,hb]
    by_cases I:r<0
    ·rw[if_pos I];exact .inl rfl
    ·rw[if_neg I]
     refine ih (i+1) fuel r (by omega) (by omega) (by omega) (by omega) (by omega) fun j x M D=> ?_
     by_cases Y:j=i
     ·subst Y
      rw[iD H]at D;cases D
      exact hp (by omega)
     ·exact W j x (by omega) D
 exact key l.length 0 fuel left (by omega) (by omega) R h0 (by omega) fun j x M=>by omega
section
variable {α:Type} {fuel:Nat}
theorem rM {k:K} {f:α->Option (ty k)} {g:α->ty k} {l:List α} (hl:l.length<=1048576) (M:1048586<fuel) (h:∀x∈l,f x=some (g x)) (Y:byt k<=1000:=by decide):toG k f fuel l=some (l.map g):=by
 unfold toG
 rw[aE ⟨by omega,by omega⟩,aE (show cR k (l.length:Int).toNat from eK (by omega) Y)]
 have key:∀(n i fuel:Nat) (o:List (ty k)),l.length-i=n->i<=l.length->n<fuel->o.length=l.length->o.take i=(l.take i).map g->aL (toB f) fuel (l,o,(i:Int))=some (l.map g):=by
  intro n
  induction n with
  | zero=>
   intro i fuel o hn hi M H D
   obtain rfl:i=l.length:=by omega
   cases fuel with
   | zero=>omega
   | succ fuel=>
    rw[iV,List.take_of_length_le (by omega)]at D
    unfold aL toB
    simp[D]
  | succ n ih=>
   intro i fuel o hn hi M H D
   have z:i<l.length:=by omega
   have I:l[i]?=some l[i]:=iD z
   obtain⟨h1,h2,R,h4,h5⟩:=aV I (by omega)
   have e:=h _ (bQ z)
   have W:=D4 g I
   generalize l[i]=x at I R e W
   cases fuel with
   | zero=>omega
   | succ fuel=>
    have hB:toB f (l,o,(i:Int))=some (.inl (l,o.set i (g x),((i+1:Nat):Int))):=by
     unfold toB
     simp only[h1,br_t,aE h2,R,bd_s,e,H,show(0+(i:Int).toNat)=i by omega,iD (show i<o.length by omega),h5,aE h4]
    unfold aL
    rw[hB]
    refine ih (i+1) fuel _ (by omega) (by omega) (by omega) (by simp[H]) ?_
    have hs:(o.set i (g x))[i]?=some (g x):=jX (by omega)
    rw[cD hs,List.take_set_of_le (bB _),D,W]
 have:=key l.length 0 fuel (List.replicate (l.length:Int).toNat (zK k)) (by omega) (by omega) (by omega) (by simp) (by simp)
 rw[show((0:Nat):Int)=0 from rfl]at this
 rw[this]
 rfl
theorem qI {f:α->α->Option Bool} {l:List α} (Y:l.length<=1048581) (hf:1048586<fuel) (h:∀x∈l,f x x=some true):eqG f fuel l l=some true:=by
 unfold eqG
 rw[show((l.length:Int) !=(l.length:Int))=false by simp,br_f,aDa (B:=eqB f) (fun i=>(l,l,(i:Int))) l.length (.inl ()) (v:=(l,l,0)) rfl (fun i z=>by
  have D:l[i]?=some l[i]:=iD z
  obtain⟨I,M,H,R,W⟩:=aV D (by omega)
  have e:=h _ (bQ z)
  generalize l[i]=x at D H e
  unfold eqB
  simp only[I,br_t,aE M,H,bd_s,e,aM,br_f]
  rw[W,aE R]) (by unfold eqB;simp) (by omega)]
 rfl
theorem TD {l:List α} {left:Int} (z:l.length<=9223372036854775807) (D:0<=left) (H:left<=1048576):∃r,szL l left=some r/\r<=left/\(0<=r->l.length<=1048576):=by
 unfold szL
 rw[dH (by omega) (by omega)]
 by_cases e:left-(l.length:Int)<0
 ·rw[jA e];exact⟨-1,rfl,by omega,fun h=>by omega⟩
 ·rw[iM e];exact⟨_,rfl,by omega,fun h=>by omega⟩
theorem CU {f:α->Int->Option Int} {P:α->Prop} {l:List α} {left:Int} (hm:l.length<=9223372036854775807) (h0:0<=left) (h1:left<=1048576) (hf:1048586<fuel) (h:∀x∈l,∀k,0<=k->k<=1048576->∃r,f x k=some r/\r<=k/\(0<=r->P x)):∃r,szG f fuel l left=some r/\r<=left/\(0<=r->l.length<=1048576/\∀y∈l,P y):=by
 unfold szG
 rw[dH (by omega) (by omega)]
 by_cases I:left-(l.length:Int)<0
 ·rw[jA I];exact⟨-1,rfl,by omega,fun h=>by omega⟩
 rw[iM I]
 have R:l.length<=1048576:=by omega
 simp only[br_f]
 rcases aHA (B:=szC f) l P (left:=left-(l.length:Int)) (fuel:=fuel) (by omega) (by omega) (fun i x k e D H=>by
   obtain⟨W,Y,g3,M,g5⟩:=aV e (by omega)
   obtain⟨r,e1,e2,e3⟩:=h x (tF e) k D H
   refine⟨r,?_,e2,e3⟩
   unfold szC
   simp only[W,br_t,aE Y,g3,bd_s,e1,g5,aE M,show IntKind.i64.wrap ((i+1:Nat):Int)=((i+1:Nat):Int)from M]
   by_cases z:r<0
   ·simp only[jA z,br_t,if_pos z]
   ·simp only[iM z,br_f,if_neg z]) (fun k=>by unfold szC;simp) (by omega)with h|⟨r,h,r0,r1,r2⟩
 ·rw[h];exact⟨-1,rfl,by omega,fun h=>by omega⟩
 ·rw[h];exact⟨r,rfl,by omega,fun _=>⟨R,r2⟩⟩
end
theorem Z8 {fuel:Nat} {l:List Int} (e:l.length<=1048576) (z:1048586<fuel):AC fuel l=some l:=
 (rM (k:= .int) (g:=fun x=>x) e z fun x _=>rfl).trans (by simp)
theorem X1 {fuel:Nat} {l:List Int} (e:l.length<=1048581) (z:1048586<fuel):zJ fuel l l=some true:=
 qI e z fun x _=>by simp
theorem TG {fuel:Nat} {l:List UInt8} (e:l.length<=1048576) (z:1048586<fuel):wL fuel l=some l:=
 (rM (k:= .u8) (g:=fun x=>x) e z fun x _=>by simp).trans (by simp)
theorem P0 {fuel:Nat} {l:List UInt8} (e:l.length<=1048581) (z:1048586<fuel):wH fuel l l=some true:=
 qI e z fun x _=>by simp
def tVp (x:LVp):OU:=OU.mk x.State x.Mark x.Args x.Part
def IU (n:Nat) (x:OU):Prop:=x.Args.length<=n/\x.Part.length<=n
theorem IU.mono {x:OU} (e:m<=n) (h:IU m x):IU n x:=by
 obtain⟨z,D⟩:=h
 exact⟨aX z e,aX D e⟩
theorem aMM {fuel:Nat} {x:LVp} (e:1048586<fuel) (h:IU 1048576 (tVp x)):OP fuel x=some (tVp x):=by
 obtain⟨l_Args,l_Part⟩:=h
 have q_Args:=Z8 (fuel:=fuel) (l:=x.Args) (by simpa [tVp]using l_Args) e
 have q_Part:=TG (fuel:=fuel) (l:=x.Part) (by simpa [tVp]using l_Part) e
 unfold OP
 simp only[q_Args,q_Part,bd_s]
 rfl
theorem aMl {fuel:Nat} {x:OU} (e:1048586<fuel) (h:IU 1048581 x):OL fuel x x=some true:=by
 obtain⟨l_Args,l_Part⟩:=h
 have q_Args:=X1 (fuel:=fuel) (l:=x.Args) l_Args e
 have q_Part:=P0 (fuel:=fuel) (l:=x.Part) l_Part e
 unfold OL
 simp[q_Args,q_Part]
def aEE (x:MQ):oN:=oN.mk x.Fg x.Bg x.Bold x.Under x.Turn
theorem Z7 {fuel:Nat} {x:MQ}:vK fuel x=some (aEE x):=by
 unfold vK
 rfl
theorem X0 {fuel:Nat} {x:oN}:vI fuel x x=some true:=by
 unfold vI
 simp[]
def G4 (x:DH):jB:=jB.mk x.R (aEE x.A)
theorem aJM {fuel:Nat} {x:DH}:z6 fuel x=some (G4 x):=by
 have q_A:=Z7 (fuel:=fuel) (x:=x.A)
 unfold z6
 simp only[q_A,bd_s]
 rfl
theorem aIV {fuel:Nat} {x:jB}:zE fuel x x=some true:=by
 have q_A:=X0 (fuel:=fuel) (x:=x.A)
 unfold zE
 simp[q_A]
theorem aBW {fuel:Nat} {l:List DH} (e:l.length<=1048576) (z:1048586<fuel):B5 fuel l=some (l.map G4):=
 rM (k:= .iCell) (f:=z6 fuel) (g:=G4) e z fun x h=>aJM
theorem aAJ {fuel:Nat} {l:List jB} (e:l.length<=1048581) (z:1048586<fuel):BV fuel l l=some true:=
 qI (f:=zE fuel) e z fun x h=>aIV
def G5 (x:IW):fY:=fY.mk x.W x.H (x.Cells.map G4)
def qA (n:Nat) (x:fY):Prop:=x.Cells.length<=n
theorem qA.mono {x:fY} (e:m<=n) (h:qA m x):qA n x:=aX (show _ from h) e
theorem aEG {fuel:Nat} {x:IW} (e:1048586<fuel) (h:qA 1048576 (G5 x)):AA fuel x=some (G5 x):=by
 have l_Cells:(G5 x).Cells.length<=1048576:=h
 have q_Cells:=aBW (fuel:=fuel) (l:=x.Cells) (by simpa [G5]using l_Cells) e
 unfold AA
 simp only[q_Cells,bd_s]
 rfl
theorem aD8 {fuel:Nat} {x:fY} (e:1048586<fuel) (h:qA 1048581 x):zH fuel x x=some true:=by
 have l_Cells:x.Cells.length<=1048581:=h
 have q_Cells:=aAJ (fuel:=fuel) (l:=x.Cells) l_Cells e
 unfold zH
 simp[q_Cells]
def EX (x:K2):pX:=pX.mk (x.Cells.map G4)
def qB (n:Nat) (x:pX):Prop:=x.Cells.length<=n
theorem qB.mono {x:pX} (e:m<=n) (h:qB m x):qB n x:=aX (show _ from h) e
theorem aLn {fuel:Nat} {x:K2} (e:1048586<fuel) (h:qB 1048576 (EX x)):EO fuel x=some (EX x):=by
 have l_Cells:(EX x).Cells.length<=1048576:=h
 have q_Cells:=aBW (fuel:=fuel) (l:=x.Cells) (by simpa [EX]using l_Cells) e
 unfold EO
 simp only[q_Cells,bd_s]
 rfl
theorem aKX {fuel:Nat} {x:pX} (e:1048586<fuel) (h:qB 1048581 x):EI fuel x x=some true:=by
 have l_Cells:x.Cells.length<=1048581:=h
 have q_Cells:=aAJ (fuel:=fuel) (l:=x.Cells) l_Cells e
 unfold EI
 simp[q_Cells]
theorem aJT {fuel:Nat} {l:List K2} (z:l.length<=1048576) (e:1048586<fuel) (D:∀y∈l,qB 1048576 (EX y)):MD fuel l=some (l.map EX):=
 rM (k:= .iRow) (f:=EO fuel) (g:=EX) z e fun x h=>aLn e (D x h)
theorem aI2 {fuel:Nat} {l:List pX} (z:l.length<=1048581) (e:1048586<fuel) (D:∀y∈l,qB 1048581 y):L8 fuel l l=some true:=
 qI (f:=EI fuel) z e fun x h=>aKX e (D x h)
def Z6 (x:aAf):nG:=nG.mk x.W x.H (G5 x.Main) (G5 x.Alt) x.OnAlt x.X x.Y x.Wrap (aEE x.A) x.Top x.Bot x.NoWrap x.Hide x.SaveX x.SaveY (aEE x.SaveA) x.Tabs x.Limit (x.Back.map EX)
def A7 (n:Nat) (x:nG):Prop:=qA n x.Main/\qA n x.Alt/\x.Tabs.length<=n/\x.Back.length<=n/\(∀y∈x.Back,qB n y)
theorem A7.mono {m n:Nat} {x:nG} (e:m<=n) (h:A7 m x):A7 n x:=by
 obtain⟨z,D,H,I,M⟩:=h
 exact⟨qA.mono e z,qA.mono e D,aX H e,aX I e,fun y R=>qB.mono e (M y R)⟩
theorem aLo {fuel:Nat} {x:aAf} (e:1048586<fuel) (h:A7 1048576 (Z6 x)):J7 fuel x=some (Z6 x):=by
 obtain⟨f_Main,f_Alt,l_Tabs,l_Back,e_Back⟩:=h
 have q_Main:=aEG (fuel:=fuel) (x:=x.Main) e f_Main
 have q_Alt:=aEG (fuel:=fuel) (x:=x.Alt) e f_Alt
 have q_A:=Z7 (fuel:=fuel) (x:=x.A)
 have q_SaveA:=Z7 (fuel:=fuel) (x:=x.SaveA)
 have q_Tabs:=Z8 (fuel:=fuel) (l:=x.Tabs) (by simpa [Z6]using l_Tabs) e
 have q_Back:=aJT (fuel:=fuel) (l:=x.Back) (by simpa [Z6]using l_Back) e (fun y z=>e_Back _ (List.mem_map.2 ⟨y,z,rfl⟩))
 unfold J7
 simp only[q_Main,q_Alt,q_A,q_SaveA,q_Tabs,q_Back,bd_s]
 rfl
theorem aKY {fuel:Nat} {x:nG} (e:1048586<fuel) (h:A7 1048581 x):JZ fuel x x=some true:=by
 obtain⟨f_Main,f_Alt,l_Tabs,l_Back,e_Back⟩:=h
 have q_Main:=aD8 (fuel:=fuel) (x:=x.Main) e f_Main
 have q_Alt:=aD8 (fuel:=fuel) (x:=x.Alt) e f_Alt
 have q_A:=X0 (fuel:=fuel) (x:=x.A)
 have q_SaveA:=X0 (fuel:=fuel) (x:=x.SaveA)
 have q_Tabs:=X1 (fuel:=fuel) (l:=x.Tabs) l_Tabs e
 have q_Back:=aI2 (fuel:=fuel) (l:=x.Back) l_Back e e_Back
 unfold JZ
 simp[q_Main,q_Alt,q_A,q_SaveA,q_Tabs,q_Back]
def aBV (x:MR):uI:=uI.mk (tVp x.P) (Z6 x.S)
def uN (n:Nat) (x:uI):Prop:=IU n x.P/\A7 n x.S
theorem uN.mono {m n:Nat} {x:uI} (e:m<=n) (h:uN m x):uN n x:=by
 obtain⟨z,D⟩:=h
 exact⟨IU.mono e z,A7.mono e D⟩
theorem aJV {fuel:Nat} {x:MR} (e:1048586<fuel) (h:uN 1048576 (aBV x)):FR fuel x=some (aBV x):=by
 obtain⟨f_P,f_S⟩:=h
 have q_P:=aMM (fuel:=fuel) (x:=x.P) e f_P
 have q_S:=aLo (fuel:=fuel) (x:=x.S) e f_S
 unfold FR
 simp only[q_P,q_S,bd_s]
 rfl
theorem aI4 {fuel:Nat} {x:uI} (e:1048586<fuel) (h:uN 1048581 x):FP fuel x x=some true:=by
 obtain⟨f_P,f_S⟩:=h
 have q_P:=aMl (fuel:=fuel) (x:=x.P) e f_P
 have q_S:=aKY (fuel:=fuel) (x:=x.S) e f_S
 unfold FP
 simp[q_P,q_S]
def xY (x:yR):dL:=dL.mk x.Id x.Cmd x.Dir x.Life x.Code x.Pid (aBV x.Term)
def lZ (n:Nat) (x:dL):Prop:=x.Cmd.size<=n/\x.Dir.size<=n/\uN n x.Term
theorem lZ.mono {m n:Nat} {x:dL} (e:m<=n) (h:lZ m x):lZ n x:=by
 obtain⟨z,D,H⟩:=h
 exact⟨aX z e,aX D e,uN.mono e H⟩
theorem aJR {fuel:Nat} {x:yR} (e:1048586<fuel) (h:lZ 1048576 (xY x)):AF fuel x=some (xY x):=by
 obtain⟨s_Cmd,s_Dir,f_Term⟩:=h
 have q_Term:=aJV (fuel:=fuel) (x:=x.Term) e f_Term
 unfold AF
 simp only[q_Term,bd_s]
 rfl
theorem aI0 {fuel:Nat} {x:dL} (e:1048586<fuel) (h:lZ 1048581 x):zN fuel x x=some true:=by
 obtain⟨s_Cmd,s_Dir,f_Term⟩:=h
 have q_Term:=aI4 (fuel:=fuel) (x:=x.Term) e f_Term
 unfold zN
 simp[q_Term]
def TF (x:GE):bV:=bV.mk x.Pane x.Down x.First
theorem aJQ {fuel:Nat} {x:GE}:AE fuel x=some (TF x):=by
 unfold AE
 rfl
theorem aIZ {fuel:Nat} {x:bV}:zM fuel x x=some true:=by
 unfold zM
 simp[]
theorem aIp {fuel:Nat} {l:List GE} (e:l.length<=1048576) (z:1048586<fuel):IA fuel l=some (l.map TF):=
 rM (k:= .iNode) (f:=AE fuel) (g:=TF) e z fun x h=>aJQ
theorem aHc {fuel:Nat} {l:List bV} (e:l.length<=1048581) (z:1048586<fuel):HV fuel l l=some true:=
 qI (f:=zM fuel) e z fun x h=>aIZ
def wZ (x:F9):lF:=lF.mk x.Id x.Name (x.Tree.map TF) x.Active x.Zoom
def nF (n:Nat) (x:lF):Prop:=x.Name.size<=n/\x.Tree.length<=n
theorem nF.mono {x:lF} (e:m<=n) (h:nF m x):nF n x:=by
 obtain⟨z,D⟩:=h
 exact⟨aX z e,aX D e⟩
theorem aLq {fuel:Nat} {x:F9} (e:1048586<fuel) (h:nF 1048576 (wZ x)):EP fuel x=some (wZ x):=by
 obtain⟨s_Name,l_Tree⟩:=h
 have q_Tree:=aIp (fuel:=fuel) (l:=x.Tree) (by simpa [wZ]using l_Tree) e
 unfold EP
 simp only[q_Tree,bd_s]
 rfl
theorem aK0 {fuel:Nat} {x:lF} (e:1048586<fuel) (h:nF 1048581 x):EJ fuel x x=some true:=by
 obtain⟨s_Name,l_Tree⟩:=h
 have q_Tree:=aHc (fuel:=fuel) (l:=x.Tree) l_Tree e
 unfold EJ
 simp[q_Tree]
def oX (x:uJ):kM:=kM.mk x.Name x.Wins x.Active
def kP (n:Nat) (x:kM):Prop:=x.Name.size<=n/\x.Wins.length<=n
theorem kP.mono {x:kM} (e:m<=n) (h:kP m x):kP n x:=by
 obtain⟨z,D⟩:=h
 exact⟨aX z e,aX D e⟩
theorem aJU {fuel:Nat} {x:uJ} (e:1048586<fuel) (h:kP 1048576 (oX x)):AJ fuel x=some (oX x):=by
 obtain⟨s_Name,l_Wins⟩:=h
 have q_Wins:=Z8 (fuel:=fuel) (l:=x.Wins) (by simpa [oX]using l_Wins) e
 unfold AJ
 simp only[q_Wins,bd_s]
 rfl
theorem aI3 {fuel:Nat} {x:kM} (e:1048586<fuel) (h:kP 1048581 x):zP fuel x x=some true:=by
 obtain⟨s_Name,l_Wins⟩:=h
 have q_Wins:=X1 (fuel:=fuel) (l:=x.Wins) l_Wins e
 unfold zP
 simp[q_Wins]
theorem aIq {fuel:Nat} {l:List yR} (z:l.length<=1048576) (e:1048586<fuel) (D:∀y∈l,lZ 1048576 (xY y)):IB fuel l=some (l.map xY):=
 rM (k:= .iPane) (f:=AF fuel) (g:=xY) z e fun x h=>aJR e (D x h)
theorem aHd {fuel:Nat} {l:List dL} (z:l.length<=1048581) (e:1048586<fuel) (D:∀y∈l,lZ 1048581 y):HW fuel l l=some true:=
 qI (f:=zN fuel) z e fun x h=>aI0 e (D x h)
theorem aJX {fuel:Nat} {l:List F9} (z:l.length<=1048576) (e:1048586<fuel) (D:∀y∈l,nF 1048576 (wZ y)):ME fuel l=some (l.map wZ):=
 rM (k:= .iWin) (f:=EP fuel) (g:=wZ) z e fun x h=>aLq e (D x h)
theorem aI6 {fuel:Nat} {l:List lF} (z:l.length<=1048581) (e:1048586<fuel) (D:∀y∈l,nF 1048581 y):L9 fuel l l=some true:=
 qI (f:=EJ fuel) z e fun x h=>aK0 e (D x h)
theorem aIs {fuel:Nat} {l:List uJ} (z:l.length<=1048576) (e:1048586<fuel) (D:∀y∈l,kP 1048576 (oX y)):ID fuel l=some (l.map oX):=
 rM (k:= .iSess) (f:=AJ fuel) (g:=oX) z e fun x h=>aJU e (D x h)
theorem aHf {fuel:Nat} {l:List kM} (z:l.length<=1048581) (e:1048586<fuel) (D:∀y∈l,kP 1048581 y):HY fuel l l=some true:=
 qI (f:=zP fuel) z e fun x h=>aI3 e (D x h)
def mD (x:DJ):bA:=bA.mk x.W x.H x.Limit x.Next (x.Panes.map xY) (x.Wins.map wZ) (x.Sess.map oX)
def kQ (n:Nat) (x:bA):Prop:=x.Panes.length<=n/\(∀y∈x.Panes,lZ n y)/\x.Wins.length<=n/\(∀y∈x.Wins,nF n y)/\x.Sess.length<=n/\(∀y∈x.Sess,kP n y)
theorem kQ.mono {m n:Nat} {x:bA} (e:m<=n) (h:kQ m x):kQ n x:=by
 obtain⟨D,H,I,M,R,W⟩:=h
 exact⟨aX D e,fun y z=>lZ.mono e (H y z),aX I e,fun y z=>nF.mono e (M y z),aX R e,fun y z=>kP.mono e (W y z)⟩
theorem aBX {fuel:Nat} (z:1048586<fuel) (h:kQ 1048576 (mD x)):wM fuel x=some (mD x):=by
 obtain⟨l_Panes,e_Panes,l_Wins,e_Wins,l_Sess,e_Sess⟩:=h
 have q_Panes:=aIq (fuel:=fuel) (l:=x.Panes) (by simpa [mD]using l_Panes) z (fun y e=>e_Panes _ (List.mem_map.2 ⟨y,e,rfl⟩))
 have q_Wins:=aJX (fuel:=fuel) (l:=x.Wins) (by simpa [mD]using l_Wins) z (fun y e=>e_Wins _ (List.mem_map.2 ⟨y,e,rfl⟩))
 have q_Sess:=aIs (fuel:=fuel) (l:=x.Sess) (by simpa [mD]using l_Sess) z (fun y e=>e_Sess _ (List.mem_map.2 ⟨y,e,rfl⟩))
 unfold wM
 simp only[q_Panes,q_Wins,q_Sess,bd_s]
 rfl
theorem aAK {fuel:Nat} {x:bA} (e:1048586<fuel) (h:kQ 1048581 x):wI fuel x x=some true:=by
 obtain⟨l_Panes,e_Panes,l_Wins,e_Wins,l_Sess,e_Sess⟩:=h
 have q_Panes:=aHd (fuel:=fuel) (l:=x.Panes) l_Panes e e_Panes
 have q_Wins:=aI6 (fuel:=fuel) (l:=x.Wins) l_Wins e e_Wins
 have q_Sess:=aHf (fuel:=fuel) (l:=x.Sess) l_Sess e e_Sess
 unfold wI
 simp[q_Panes,q_Wins,q_Sess]
def sC (x:yO):gB:=gB.mk x.Id x.Body x.Safe
def mV (n:Nat) (x:gB):Prop:=x.Body.length<=n
theorem mV.mono {x:gB} (e:m<=n) (h:mV m x):mV n x:=aX (show _ from h) e
theorem aJN {fuel:Nat} {x:yO} (e:1048586<fuel) (h:mV 1048576 (sC x)):z8 fuel x=some (sC x):=by
 have l_Body:(sC x).Body.length<=1048576:=h
 have q_Body:=TG (fuel:=fuel) (l:=x.Body) (by simpa [sC]using l_Body) e
 unfold z8
 simp only[q_Body,bd_s]
 rfl
theorem aIW {fuel:Nat} {x:gB} (e:1048586<fuel) (h:mV 1048581 x):zG fuel x x=some true:=by
 have l_Body:x.Body.length<=1048581:=h
 have q_Body:=P0 (fuel:=fuel) (l:=x.Body) l_Body e
 unfold zG
 simp[q_Body]
def uL (x:yQ):aT:=aT.mk x.Name x.Id
def mW (n:Nat) (x:aT):Prop:=x.Name.size<=n
theorem mW.mono {x:aT} (e:m<=n) (h:mW m x):mW n x:=aX (show _ from h) e
theorem aJP {fuel:Nat} {x:yQ} (h:mW 1048576 (uL x)):AD fuel x=some (uL x):=by
 have s_Name:(uL x).Name.size<=1048576:=h
 unfold AD
 rfl
theorem aIY {fuel:Nat} {x:aT} (h:mW 1048581 x):zL fuel x x=some true:=by
 have s_Name:x.Name.size<=1048581:=h
 unfold zL
 simp[]
def xZ (x:yS):eA:=eA.mk x.Kind x.Name x.To x.Id
def mX (n:Nat) (x:eA):Prop:=x.Name.size<=n/\x.To.size<=n
theorem mX.mono {x:eA} (e:m<=n) (h:mX m x):mX n x:=by
 obtain⟨z,D⟩:=h
 exact⟨aX z e,aX D e⟩
theorem aJW {fuel:Nat} {x:yS} (h:mX 1048576 (xZ x)):AL fuel x=some (xZ x):=by
 obtain⟨s_Name,s_To⟩:=h
 unfold AL
 rfl
theorem aI5 {fuel:Nat} {x:eA} (h:mX 1048581 x):zQ fuel x x=some true:=by
 obtain⟨s_Name,s_To⟩:=h
 unfold zQ
 simp[]
theorem aIm {fuel:Nat} {l:List yO} (z:l.length<=1048576) (e:1048586<fuel) (D:∀y∈l,mV 1048576 (sC y)):H7 fuel l=some (l.map sC):=
 rM (k:= .iFile) (f:=z8 fuel) (g:=sC) z e fun x h=>aJN e (D x h)
theorem aG9 {fuel:Nat} {l:List gB} (z:l.length<=1048581) (e:1048586<fuel) (D:∀y∈l,mV 1048581 y):HS fuel l l=some true:=
 qI (f:=zG fuel) z e fun x h=>aIW e (D x h)
theorem aIo {fuel:Nat} {l:List yQ} (e:l.length<=1048576) (z:1048586<fuel) (D:∀y∈l,mW 1048576 (uL y)):H9 fuel l=some (l.map uL):=
 rM (k:= .iLink) (f:=AD fuel) (g:=uL) e z fun x h=>aJP (D x h)
theorem aHb {fuel:Nat} {l:List aT} (e:l.length<=1048581) (z:1048586<fuel) (D:∀y∈l,mW 1048581 y):HU fuel l l=some true:=
 qI (f:=zL fuel) e z fun x h=>aIY (D x h)
theorem aIu {fuel:Nat} {l:List yS} (e:l.length<=1048576) (z:1048586<fuel) (D:∀y∈l,mX 1048576 (xZ y)):IE fuel l=some (l.map xZ):=
 rM (k:= .iTurn) (f:=AL fuel) (g:=xZ) e z fun x h=>aJW (D x h)
theorem aHh {fuel:Nat} {l:List eA} (e:l.length<=1048581) (z:1048586<fuel) (D:∀y∈l,mX 1048581 y):HZ fuel l l=some true:=
 qI (f:=zQ fuel) e z fun x h=>aI5 (D x h)
def C9 (x:IV):cO:=cO.mk x.Room x.Fuse x.Next (x.Files.map sC) (x.Kept.map uL) (x.Turns.map xZ)
def lX (n:Nat) (x:cO):Prop:=x.Files.length<=n/\(∀y∈x.Files,mV n y)/\x.Kept.length<=n/\(∀y∈x.Kept,mW n y)/\x.Turns.length<=n/\(∀y∈x.Turns,mX n y)
theorem lX.mono {m n:Nat} {x:cO} (e:m<=n) (h:lX m x):lX n x:=by
 obtain⟨D,H,I,M,R,W⟩:=h
 exact⟨aX D e,fun y z=>mV.mono e (H y z),aX I e,fun y z=>mW.mono e (M y z),aX R e,fun y z=>mX.mono e (W y z)⟩
theorem aEF {fuel:Nat} {x:IV} (z:1048586<fuel) (h:lX 1048576 (C9 x)):z7 fuel x=some (C9 x):=by
 obtain⟨l_Files,e_Files,l_Kept,e_Kept,l_Turns,e_Turns⟩:=h
 have q_Files:=aIm (fuel:=fuel) (l:=x.Files) (by simpa [C9]using l_Files) z (fun y e=>e_Files _ (List.mem_map.2 ⟨y,e,rfl⟩))
 have q_Kept:=aIo (fuel:=fuel) (l:=x.Kept) (by simpa [C9]using l_Kept) z (fun y e=>e_Kept _ (List.mem_map.2 ⟨y,e,rfl⟩))
 have q_Turns:=aIu (fuel:=fuel) (l:=x.Turns) (by simpa [C9]using l_Turns) z (fun y e=>e_Turns _ (List.mem_map.2 ⟨y,e,rfl⟩))
 unfold z7
 simp only[q_Files,q_Kept,q_Turns,bd_s]
 rfl
theorem aD7 {fuel:Nat} {x:cO} (e:1048586<fuel) (h:lX 1048581 x):zF fuel x x=some true:=by
 obtain⟨l_Files,e_Files,l_Kept,e_Kept,l_Turns,e_Turns⟩:=h
 have q_Files:=aG9 (fuel:=fuel) (l:=x.Files) l_Files e e_Files
 have q_Kept:=aHb (fuel:=fuel) (l:=x.Kept) l_Kept e e_Kept
 have q_Turns:=aHh (fuel:=fuel) (l:=x.Turns) l_Turns e e_Turns
 unfold zF
 simp[q_Files,q_Kept,q_Turns]
def IM (x:DI):j6:=j6.mk (C9 x.Disk) x.Gen x.Seq x.Size x.Stuck
def pZ (n:Nat) (x:j6):Prop:=lX n x.Disk
theorem pZ.mono {m n:Nat} {x:j6} (e:m<=n) (h:pZ m x):pZ n x:=lX.mono e h
theorem aIl {fuel:Nat} {x:DI} (e:1048586<fuel) (h:pZ 1048576 (IM x)):B6 fuel x=some (IM x):=by
 have f_Disk:lX 1048576 (IM x).Disk:=h
 have q_Disk:=aEF (fuel:=fuel) (x:=x.Disk) e f_Disk
 unfold B6
 simp only[q_Disk,bd_s]
 rfl
theorem aG8 {fuel:Nat} {x:j6} (e:1048586<fuel) (h:pZ 1048581 x):BW fuel x x=some true:=by
 have f_Disk:lX 1048581 x.Disk:=h
 have q_Disk:=aD7 (fuel:=fuel) (x:=x.Disk) e f_Disk
 unfold BW
 simp[q_Disk]
def WW (x:GF):jL:=jL.mk x.Pid x.Pane
theorem aJS {fuel:Nat} {x:GF}:AG fuel x=some (WW x):=by
 unfold AG
 rfl
theorem aI1 {fuel:Nat} {x:jL}:zO fuel x x=some true:=by
 unfold zO
 simp[]
def MM (x:K1):A9:=A9.mk x.Pane x.Cmd x.Dir x.W x.H x.Pid
def pY (n:Nat) (x:A9):Prop:=x.Cmd.size<=n/\x.Dir.size<=n
theorem pY.mono {x:A9} (e:m<=n) (h:pY m x):pY n x:=by
 obtain⟨z,D⟩:=h
 exact⟨aX z e,aX D e⟩
theorem aLm {fuel:Nat} {x:K1} (h:pY 1048576 (MM x)):EN fuel x=some (MM x):=by
 obtain⟨s_Cmd,s_Dir⟩:=h
 unfold EN
 rfl
theorem aKW {fuel:Nat} {x:A9} (h:pY 1048581 x):EH fuel x x=some true:=by
 obtain⟨s_Cmd,s_Dir⟩:=h
 unfold EH
 simp[]
theorem aIr {fuel:Nat} {l:List GF} (e:l.length<=1048576) (z:1048586<fuel):IC fuel l=some (l.map WW):=
 rM (k:= .iProc) (f:=AG fuel) (g:=WW) e z fun x h=>aJS
theorem aHe {fuel:Nat} {l:List jL} (e:l.length<=1048581) (z:1048586<fuel):HX fuel l l=some true:=
 qI (f:=zO fuel) e z fun x h=>aI1
theorem aJL {fuel:Nat} {l:List K1} (e:l.length<=1048576) (z:1048586<fuel) (D:∀y∈l,pY 1048576 (MM y)):MC fuel l=some (l.map MM):=
 rM (k:= .iAsk) (f:=EN fuel) (g:=MM) e z fun x h=>aLm (D x h)
theorem aIU {fuel:Nat} {l:List A9} (e:l.length<=1048581) (z:1048586<fuel) (D:∀y∈l,pY 1048581 y):L7 fuel l l=some true:=
 qI (f:=EH fuel) e z fun x h=>aKW (D x h)
def CV (x:DK):fL:=fL.mk x.Next (x.Live.map WW) (x.Asked.map MM)
def qC (n:Nat) (x:fL):Prop:=x.Live.length<=n/\x.Asked.length<=n/\(∀y∈x.Asked,pY n y)
theorem qC.mono {m n:Nat} {x:fL} (e:m<=n) (h:qC m x):qC n x:=by
 obtain⟨z,D,H⟩:=h
 exact⟨aX z e,aX D e,fun y I=>pY.mono e (H y I)⟩
theorem aIt {fuel:Nat} {x:DK} (e:1048586<fuel) (h:qC 1048576 (CV x)):B7 fuel x=some (CV x):=by
 obtain⟨l_Live,l_Asked,e_Asked⟩:=h
 have q_Live:=aIr (fuel:=fuel) (l:=x.Live) (by simpa [CV]using l_Live) e
 have q_Asked:=aJL (fuel:=fuel) (l:=x.Asked) (by simpa [CV]using l_Asked) e (fun y z=>e_Asked _ (List.mem_map.2 ⟨y,z,rfl⟩))
 unfold B7
 simp only[q_Live,q_Asked,bd_s]
 rfl
theorem aHg {fuel:Nat} {x:fL} (e:1048586<fuel) (h:qC 1048581 x):BX fuel x x=some true:=by
 obtain⟨l_Live,l_Asked,e_Asked⟩:=h
 have q_Live:=aHe (fuel:=fuel) (l:=x.Live) l_Live e
 have q_Asked:=aIU (fuel:=fuel) (l:=x.Asked) l_Asked e e_Asked
 unfold BX
 simp[q_Live,q_Asked]
def tOp (x:LOp):oK:=oK.mk x.Kind x.A x.B x.C x.Name x.Text x.Dir x.Data
def C1 (n:Nat) (x:oK):Prop:=x.Name.size<=n/\x.Text.size<=n/\x.Dir.size<=n/\x.Data.length<=n
theorem C1.mono {x:oK} (e:m<=n) (h:C1 m x):C1 n x:=by
 obtain⟨z,D,H,I⟩:=h
 exact⟨aX z e,aX D e,aX H e,aX I e⟩
theorem aML {fuel:Nat} {x:LOp} (e:1048586<fuel) (h:C1 1048576 (tOp x)):OO fuel x=some (tOp x):=by
 obtain⟨s_Name,s_Text,s_Dir,l_Data⟩:=h
 have q_Data:=TG (fuel:=fuel) (l:=x.Data) (by simpa [tOp]using l_Data) e
 unfold OO
 simp only[q_Data,bd_s]
 rfl
theorem aMk {fuel:Nat} {x:oK} (e:1048586<fuel) (h:C1 1048581 x):OK fuel x x=some true:=by
 obtain⟨s_Name,s_Text,s_Dir,l_Data⟩:=h
 have q_Data:=P0 (fuel:=fuel) (l:=x.Data) l_Data e
 unfold OK
 simp[q_Data]
def wV (x:yP):iZ:=iZ.mk x.Lost (tOp x.Op)
def lY (n:Nat) (x:iZ):Prop:=C1 n x.Op
theorem lY.mono {m n:Nat} {x:iZ} (e:m<=n) (h:lY m x):lY n x:=C1.mono e h
theorem aJO {fuel:Nat} {x:yP} (e:1048586<fuel) (h:lY 1048576 (wV x)):AB fuel x=some (wV x):=by
 have f_Op:C1 1048576 (wV x).Op:=h
 have q_Op:=aML (fuel:=fuel) (x:=x.Op) e f_Op
 unfold AB
 simp only[q_Op,bd_s]
 rfl
theorem aIX {fuel:Nat} {x:iZ} (e:1048586<fuel) (h:lY 1048581 x):zI fuel x x=some true:=by
 have f_Op:C1 1048581 x.Op:=h
 have q_Op:=aMk (fuel:=fuel) (x:=x.Op) e f_Op
 unfold zI
 simp[q_Op]
theorem aIn {fuel:Nat} {l:List yP} (z:l.length<=1048576) (e:1048586<fuel) (D:∀y∈l,lY 1048576 (wV y)):H8 fuel l=some (l.map wV):=
 rM (k:= .iHist) (f:=AB fuel) (g:=wV) z e fun x h=>aJO e (D x h)
theorem aHa {fuel:Nat} {l:List iZ} (z:l.length<=1048581) (e:1048586<fuel) (D:∀y∈l,lY 1048581 y):HT fuel l l=some true:=
 qI (f:=zI fuel) z e fun x h=>aIX e (D x h)
def EY (x:OV):lE:=lE.mk (mD x.Base) x.Top x.Up (mD x.St) (IM x.Dep) (C9 x.Disk) (CV x.Tab) x.Sure (x.Done.map wV)
def A8 (n:Nat) (x:lE):Prop:=kQ n x.Base/\kQ n x.St/\pZ n x.Dep/\lX n x.Disk/\qC n x.Tab/\x.Done.length<=n/\(∀y∈x.Done,lY n y)
theorem A8.mono {m n:Nat} {x:lE} (e:m<=n) (h:A8 m x):A8 n x:=by
 obtain⟨z,D,H,I,M,R,W⟩:=h
 exact⟨kQ.mono e z,kQ.mono e D,pZ.mono e H,lX.mono e I,qC.mono e M,aX R e,fun y Y=>lY.mono e (W y Y)⟩
theorem aLp {fuel:Nat} {x:OV} (e:1048586<fuel) (h:A8 1048576 (EY x)):AK fuel x=some (EY x):=by
 obtain⟨f_Base,f_St,f_Dep,f_Disk,f_Tab,l_Done,e_Done⟩:=h
 have q_Base:=aBX (fuel:=fuel) (x:=x.Base) e f_Base
 have q_St:=aBX (fuel:=fuel) (x:=x.St) e f_St
 have q_Dep:=aIl (fuel:=fuel) (x:=x.Dep) e f_Dep
 have q_Disk:=aEF (fuel:=fuel) (x:=x.Disk) e f_Disk
 have q_Tab:=aIt (fuel:=fuel) (x:=x.Tab) e f_Tab
 have q_Done:=aIn (fuel:=fuel) (l:=x.Done) (by simpa [EY]using l_Done) e (fun y z=>e_Done _ (List.mem_map.2 ⟨y,z,rfl⟩))
 unfold AK
 simp only[q_Base,q_St,q_Dep,q_Disk,q_Tab,q_Done,bd_s]
 rfl
theorem aKZ {fuel:Nat} {x:lE} (e:1048586<fuel) (h:A8 1048581 x):J4 fuel x x=some true:=by
 obtain⟨f_Base,f_St,f_Dep,f_Disk,f_Tab,l_Done,e_Done⟩:=h
 have q_Base:=aAK (fuel:=fuel) (x:=x.Base) e f_Base
 have q_St:=aAK (fuel:=fuel) (x:=x.St) e f_St
 have q_Dep:=aG8 (fuel:=fuel) (x:=x.Dep) e f_Dep
 have q_Disk:=aD7 (fuel:=fuel) (x:=x.Disk) e f_Disk
 have q_Tab:=aHg (fuel:=fuel) (x:=x.Tab) e f_Tab
 have q_Done:=aHa (fuel:=fuel) (l:=x.Done) l_Done e e_Done
 unfold J4
 simp[q_Base,q_St,q_Dep,q_Disk,q_Tab,q_Done]
theorem Z5 {fuel:Nat} {l:List Int} {left:Int} (e:l.length<=9223372036854775807) (z:0<=left) (D:left<=1048576):∃r,vJ fuel l left=some r/\r<=left/\(0<=r->l.length<=1048576):=
 TD e z D
theorem TE {fuel:Nat} {l:List UInt8} {left:Int} (e:l.length<=9223372036854775807) (z:0<=left) (D:left<=1048576):∃r,wJ fuel l left=some r/\r<=left/\(0<=r->l.length<=1048576):=
 TD e z D
theorem aMJ {fuel:Nat} {x:LVp} {left:Int} (e:1048586<fuel) (h:IU 9223372036854775807 (tVp x)) (z:0<=left) (D:left<=1048576):∃r,ON fuel x left=some r/\r<=left/\(0<=r->IU 1048576 (tVp x)):=by
 obtain⟨l_Args,l_Part⟩:=h
 unfold ON
 obtain⟨r_Args,a_Args,b_Args,c_Args⟩:=Z5 (fuel:=fuel) (l:=x.Args) (left:=left) (by simpa [tVp]using l_Args) (by omega) (by omega)
 rw[a_Args]
 simp only[bd_s]
 by_cases n_Args:r_Args<0
 ·rw[jA n_Args];exact⟨-1,rfl,by omega,fun h=>by omega⟩
 rw[iM n_Args]
 simp only[br_f]
 have d_Args:=c_Args (by omega)
 obtain⟨r_Part,a_Part,b_Part,c_Part⟩:=TE (fuel:=fuel) (l:=x.Part) (left:=r_Args) (by simpa [tVp]using l_Part) (by omega) (by omega)
 rw[a_Part]
 simp only[bd_s]
 by_cases n_Part:r_Part<0
 ·rw[jA n_Part];exact⟨-1,rfl,by omega,fun h=>by omega⟩
 rw[iM n_Part]
 simp only[br_f]
 have d_Part:=c_Part (by omega)
 exact⟨_,rfl,by omega,fun _=>⟨d_Args,d_Part⟩⟩
theorem aBS {fuel:Nat} {l:List DH} {left:Int} (e:l.length<=9223372036854775807) (z:0<=left) (D:left<=1048576):∃r,BZ fuel l left=some r/\r<=left/\(0<=r->l.length<=1048576):=
 TD e z D
theorem aEC {fuel:Nat} {x:IW} {left:Int} (e:1048586<fuel) (h:qA 9223372036854775807 (G5 x)) (z:0<=left) (D:left<=1048576):∃r,zU fuel x left=some r/\r<=left/\(0<=r->qA 1048576 (G5 x)):=by
 have l_Cells:(G5 x).Cells.length<=9223372036854775807:=h
 unfold zU
 obtain⟨r_Cells,a_Cells,b_Cells,c_Cells⟩:=aBS (fuel:=fuel) (l:=x.Cells) (left:=left) (by simpa [G5]using l_Cells) (by omega) (by omega)
 rw[a_Cells]
 simp only[bd_s]
 by_cases n_Cells:r_Cells<0
 ·rw[jA n_Cells];exact⟨-1,rfl,by omega,fun h=>by omega⟩
 rw[iM n_Cells]
 simp only[br_f]
 have d_Cells:=c_Cells (by omega)
 exact⟨_,rfl,by omega,fun _=>(by show(x.Cells.map G4).length<=_;rw[aP];exact d_Cells)⟩
theorem aLh {fuel:Nat} {x:K2} {left:Int} (e:1048586<fuel) (h:qB 9223372036854775807 (EX x)) (z:0<=left) (D:left<=1048576):∃r,EM fuel x left=some r/\r<=left/\(0<=r->qB 1048576 (EX x)):=by
 have l_Cells:(EX x).Cells.length<=9223372036854775807:=h
 unfold EM
 obtain⟨r_Cells,a_Cells,b_Cells,c_Cells⟩:=aBS (fuel:=fuel) (l:=x.Cells) (left:=left) (by simpa [EX]using l_Cells) (by omega) (by omega)
 rw[a_Cells]
 simp only[bd_s]
 by_cases n_Cells:r_Cells<0
 ·rw[jA n_Cells];exact⟨-1,rfl,by omega,fun h=>by omega⟩
 rw[iM n_Cells]
 simp only[br_f]
 have d_Cells:=c_Cells (by omega)
 exact⟨_,rfl,by omega,fun _=>(by show(x.Cells.map G4).length<=_;rw[aP];exact d_Cells)⟩
theorem aJF {fuel:Nat} {l:List K2} {left:Int} (z:l.length<=9223372036854775807) (D:0<=left) (H:left<=1048576) (e:1048586<fuel) (I:∀y∈l,qB 9223372036854775807 (EX y)):∃r,MB fuel l left=some r/\r<=left/\(0<=r->l.length<=1048576/\∀y∈l,qB 1048576 (EX y)):=
 CU (f:=EM fuel) z D H e fun x h k M R=>aLh e (I x h) M R
theorem aLi {fuel:Nat} {x:aAf} {left:Int} (e:1048586<fuel) (h:A7 9223372036854775807 (Z6 x)) (I:0<=left) (M:left<=1048576):∃r,J5 fuel x left=some r/\r<=left/\(0<=r->A7 1048576 (Z6 x)):=by
 obtain⟨f_Main,f_Alt,l_Tabs,l_Back,e_Back⟩:=h
 unfold J5
 obtain⟨r_Main,a_Main,b_Main,c_Main⟩:=aEC (fuel:=fuel) (x:=x.Main) (left:=left) e f_Main (by omega) (by omega)
 rw[a_Main]
 simp only[bd_s]
 by_cases n_Main:r_Main<0
 ·rw[jA n_Main];exact⟨-1,rfl,by omega,fun h=>by omega⟩
 rw[iM n_Main]
 simp only[br_f]
 have d_Main:=c_Main (by omega)
 obtain⟨r_Alt,a_Alt,b_Alt,c_Alt⟩:=aEC (fuel:=fuel) (x:=x.Alt) (left:=r_Main) e f_Alt (by omega) (by omega)
 rw[a_Alt]
 simp only[bd_s]
 by_cases n_Alt:r_Alt<0
 ·rw[jA n_Alt];exact⟨-1,rfl,by omega,fun h=>by omega⟩
 rw[iM n_Alt]
 simp only[br_f]
 have d_Alt:=c_Alt (by omega)
 obtain⟨r_Tabs,a_Tabs,b_Tabs,c_Tabs⟩:=Z5 (fuel:=fuel) (l:=x.Tabs) (left:=r_Alt) (by simpa [Z6]using l_Tabs) (by omega) (by omega)
 rw[a_Tabs]
 simp only[bd_s]
 by_cases n_Tabs:r_Tabs<0
 ·rw[jA n_Tabs];exact⟨-1,rfl,by omega,fun h=>by omega⟩
 rw[iM n_Tabs]
 simp only[br_f]
 have d_Tabs:=c_Tabs (by omega)
 obtain⟨r_Back,a_Back,b_Back,c_Back⟩:=aJF (fuel:=fuel) (l:=x.Back) (left:=r_Tabs) (by simpa [Z6]using l_Back) (by omega) (by omega) e (fun y D=>e_Back _ (List.mem_map.2 ⟨y,D,rfl⟩))
 rw[a_Back]
 simp only[bd_s]
 by_cases n_Back:r_Back<0
 ·rw[jA n_Back];exact⟨-1,rfl,by omega,fun h=>by omega⟩
 rw[iM n_Back]
 simp only[br_f]
 have d_Back:=c_Back (by omega)
 exact⟨_,rfl,by omega,fun _=>⟨d_Main,d_Alt,d_Tabs,(by show(x.Back.map EX).length<=_;rw[aP];exact d_Back.1),(fun y D=>by obtain⟨z,H,rfl⟩:=List.mem_map.1 D;exact d_Back.2 z H)⟩⟩
theorem aJI {fuel:Nat} {x:MR} {left:Int} (e:1048586<fuel) (h:uN 9223372036854775807 (aBV x)) (z:0<=left) (D:left<=1048576):∃r,FQ fuel x left=some r/\r<=left/\(0<=r->uN 1048576 (aBV x)):=by
 obtain⟨f_P,f_S⟩:=h
 unfold FQ
 obtain⟨r_P,a_P,b_P,c_P⟩:=aMJ (fuel:=fuel) (x:=x.P) (left:=left) e f_P (by omega) (by omega)
 rw[a_P]
 simp only[bd_s]
 by_cases n_P:r_P<0
 ·rw[jA n_P];exact⟨-1,rfl,by omega,fun h=>by omega⟩
 rw[iM n_P]
 simp only[br_f]
 have d_P:=c_P (by omega)
 obtain⟨r_S,a_S,b_S,c_S⟩:=aLi (fuel:=fuel) (x:=x.S) (left:=r_P) e f_S (by omega) (by omega)
 rw[a_S]
 simp only[bd_s]
 by_cases n_S:r_S<0
 ·rw[jA n_S];exact⟨-1,rfl,by omega,fun h=>by omega⟩
 rw[iM n_S]
 simp only[br_f]
 have d_S:=c_S (by omega)
 exact⟨_,rfl,by omega,fun _=>⟨d_P,d_S⟩⟩
theorem aJE {fuel:Nat} {x:yR} {left:Int} (e:1048586<fuel) (h:lZ 9223372036854775807 (xY x)) (z:0<=left) (D:left<=1048576):∃r,zX fuel x left=some r/\r<=left/\(0<=r->lZ 1048576 (xY x)):=by
 obtain⟨s_Cmd,s_Dir,f_Term⟩:=h
 have s_Cmd:x.Cmd.size<=9223372036854775807:=s_Cmd
 have s_Dir:x.Dir.size<=9223372036854775807:=s_Dir
 unfold zX
 rw[dH (by omega) (by omega)]
 by_cases n_Cmd:left-(x.Cmd.size:Int)<0
 ·rw[jA n_Cmd];exact⟨-1,rfl,by omega,fun h=>by omega⟩
 rw[iM n_Cmd]
 simp only[br_f]
 rw[dH (by omega) (by omega)]
 by_cases n_Dir:left-(x.Cmd.size:Int)-(x.Dir.size:Int)<0
 ·rw[jA n_Dir];exact⟨-1,rfl,by omega,fun h=>by omega⟩
 rw[iM n_Dir]
 simp only[br_f]
 obtain⟨r_Term,a_Term,b_Term,c_Term⟩:=aJI (fuel:=fuel) (x:=x.Term) (left:=left-(x.Cmd.size:Int)-(x.Dir.size:Int)) e f_Term (by omega) (by omega)
 rw[a_Term]
 simp only[bd_s]
 by_cases n_Term:r_Term<0
 ·rw[jA n_Term];exact⟨-1,rfl,by omega,fun h=>by omega⟩
 rw[iM n_Term]
 simp only[br_f]
 have d_Term:=c_Term (by omega)
 exact⟨_,rfl,by omega,fun _=>⟨(by show x.Cmd.size<=_;omega),(by show x.Dir.size<=_;omega),d_Term⟩⟩
theorem aIg {fuel:Nat} {l:List GE} {left:Int} (e:l.length<=9223372036854775807) (z:0<=left) (D:left<=1048576):∃r,B3 fuel l left=some r/\r<=left/\(0<=r->l.length<=1048576):=
 TD e z D
theorem aLj {fuel:Nat} {x:F9} {left:Int} (e:1048586<fuel) (h:nF 9223372036854775807 (wZ x)) (z:0<=left) (D:left<=1048576):∃r,qX fuel x left=some r/\r<=left/\(0<=r->nF 1048576 (wZ x)):=by
 obtain⟨s_Name,l_Tree⟩:=h
 have s_Name:x.Name.size<=9223372036854775807:=s_Name
 unfold qX
 rw[dH (by omega) (by omega)]
 by_cases n_Name:left-(x.Name.size:Int)<0
 ·rw[jA n_Name];exact⟨-1,rfl,by omega,fun h=>by omega⟩
 rw[iM n_Name]
 simp only[br_f]
 obtain⟨r_Tree,a_Tree,b_Tree,c_Tree⟩:=aIg (fuel:=fuel) (l:=x.Tree) (left:=left-(x.Name.size:Int)) (by simpa [wZ]using l_Tree) (by omega) (by omega)
 rw[a_Tree]
 simp only[bd_s]
 by_cases n_Tree:r_Tree<0
 ·rw[jA n_Tree];exact⟨-1,rfl,by omega,fun h=>by omega⟩
 rw[iM n_Tree]
 simp only[br_f]
 have d_Tree:=c_Tree (by omega)
 exact⟨_,rfl,by omega,fun _=>⟨(by show x.Name.size<=_;omega),(by show(x.Tree.map TF).length<=_;rw[aP];exact d_Tree)⟩⟩
theorem aJG {fuel:Nat} {x:uJ} {left:Int} (e:1048586<fuel) (h:kP 9223372036854775807 (oX x)) (z:0<=left) (D:left<=1048576):∃r,nY fuel x left=some r/\r<=left/\(0<=r->kP 1048576 (oX x)):=by
 obtain⟨s_Name,l_Wins⟩:=h
 have s_Name:x.Name.size<=9223372036854775807:=s_Name
 unfold nY
 rw[dH (by omega) (by omega)]
 by_cases n_Name:left-(x.Name.size:Int)<0
 ·rw[jA n_Name];exact⟨-1,rfl,by omega,fun h=>by omega⟩
 rw[iM n_Name]
 simp only[br_f]
 obtain⟨r_Wins,a_Wins,b_Wins,c_Wins⟩:=Z5 (fuel:=fuel) (l:=x.Wins) (left:=left-(x.Name.size:Int)) (by simpa [oX]using l_Wins) (by omega) (by omega)
 rw[a_Wins]
 simp only[bd_s]
 by_cases n_Wins:r_Wins<0
 ·rw[jA n_Wins];exact⟨-1,rfl,by omega,fun h=>by omega⟩
 rw[iM n_Wins]
 simp only[br_f]
 have d_Wins:=c_Wins (by omega)
 exact⟨_,rfl,by omega,fun _=>⟨(by show x.Name.size<=_;omega),d_Wins⟩⟩
theorem aBT {fuel:Nat} {l:List yR} {left:Int} (z:l.length<=9223372036854775807) (D:0<=left) (H:left<=1048576) (e:1048586<fuel) (I:∀y∈l,lZ 9223372036854775807 (xY y)):∃r,H4 fuel l left=some r/\r<=left/\(0<=r->l.length<=1048576/\∀y∈l,lZ 1048576 (xY y)):=
 CU (f:=zX fuel) z D H e fun x h k M R=>aJE e (I x h) M R
theorem aED {fuel:Nat} {l:List F9} {left:Int} (z:l.length<=9223372036854775807) (D:0<=left) (H:left<=1048576) (e:1048586<fuel) (I:∀y∈l,nF 9223372036854775807 (wZ y)):∃r,zZ fuel l left=some r/\r<=left/\(0<=r->l.length<=1048576/\∀y∈l,nF 1048576 (wZ y)):=
 CU (f:=qX fuel) z D H e fun x h k M R=>aLj e (I x h) M R
theorem aBU {fuel:Nat} {l:List uJ} {left:Int} (z:l.length<=9223372036854775807) (D:0<=left) (H:left<=1048576) (e:1048586<fuel) (I:∀y∈l,kP 9223372036854775807 (oX y)):∃r,wK fuel l left=some r/\r<=left/\(0<=r->l.length<=1048576/\∀y∈l,kP 1048576 (oX y)):=
 CU (f:=nY fuel) z D H e fun x h k M R=>aJG e (I x h) M R
theorem aIi {fuel:Nat} {left:Int} (H:1048586<fuel) (h:kQ 9223372036854775807 (mD x)) (I:0<=left) (M:left<=1048576):∃r,pH fuel x left=some r/\r<=left/\(0<=r->kQ 1048576 (mD x)):=by
 obtain⟨l_Panes,e_Panes,l_Wins,e_Wins,l_Sess,e_Sess⟩:=h
 unfold pH
 obtain⟨r_Panes,a_Panes,b_Panes,c_Panes⟩:=aBT (fuel:=fuel) (l:=x.Panes) (left:=left) (by simpa [mD]using l_Panes) (by omega) (by omega) H (fun y e=>e_Panes _ (List.mem_map.2 ⟨y,e,rfl⟩))
 rw[a_Panes]
 simp only[bd_s]
 by_cases n_Panes:r_Panes<0
 ·rw[jA n_Panes];exact⟨-1,rfl,by omega,fun h=>by omega⟩
 rw[iM n_Panes]
 simp only[br_f]
 have d_Panes:=c_Panes (by omega)
 obtain⟨r_Wins,a_Wins,b_Wins,c_Wins⟩:=aED (fuel:=fuel) (l:=x.Wins) (left:=r_Panes) (by simpa [mD]using l_Wins) (by omega) (by omega) H (fun y e=>e_Wins _ (List.mem_map.2 ⟨y,e,rfl⟩))
 rw[a_Wins]
 simp only[bd_s]
 by_cases n_Wins:r_Wins<0
 ·rw[jA n_Wins];exact⟨-1,rfl,by omega,fun h=>by omega⟩
 rw[iM n_Wins]
 simp only[br_f]
 have d_Wins:=c_Wins (by omega)
 obtain⟨r_Sess,a_Sess,b_Sess,c_Sess⟩:=aBU (fuel:=fuel) (l:=x.Sess) (left:=r_Wins) (by simpa [mD]using l_Sess) (by omega) (by omega) H (fun y e=>e_Sess _ (List.mem_map.2 ⟨y,e,rfl⟩))
 rw[a_Sess]
 simp only[bd_s]
 by_cases n_Sess:r_Sess<0
 ·rw[jA n_Sess];exact⟨-1,rfl,by omega,fun h=>by omega⟩
 rw[iM n_Sess]
 simp only[br_f]
 have d_Sess:=c_Sess (by omega)
 exact⟨_,rfl,by omega,fun _=>⟨(by show(x.Panes.map xY).length<=_;rw[aP];exact d_Panes.1),(fun y e=>by obtain⟨z,D,rfl⟩:=List.mem_map.1 e;exact d_Panes.2 z D),(by show(x.Wins.map wZ).length<=_;rw[aP];exact d_Wins.1),(fun y e=>by obtain⟨z,D,rfl⟩:=List.mem_map.1 e;exact d_Wins.2 z D),(by show(x.Sess.map oX).length<=_;rw[aP];exact d_Sess.1),(fun y e=>by obtain⟨z,D,rfl⟩:=List.mem_map.1 e;exact d_Sess.2 z D)⟩⟩
theorem aJB {fuel:Nat} {x:yO} {left:Int} (e:1048586<fuel) (h:mV 9223372036854775807 (sC x)) (z:0<=left) (D:left<=1048576):∃r,zT fuel x left=some r/\r<=left/\(0<=r->mV 1048576 (sC x)):=by
 have l_Body:(sC x).Body.length<=9223372036854775807:=h
 unfold zT
 obtain⟨r_Body,a_Body,b_Body,c_Body⟩:=TE (fuel:=fuel) (l:=x.Body) (left:=left) (by simpa [sC]using l_Body) (by omega) (by omega)
 rw[a_Body]
 simp only[bd_s]
 by_cases n_Body:r_Body<0
 ·rw[jA n_Body];exact⟨-1,rfl,by omega,fun h=>by omega⟩
 rw[iM n_Body]
 simp only[br_f]
 have d_Body:=c_Body (by omega)
 exact⟨_,rfl,by omega,fun _=>d_Body⟩
theorem aJD {fuel:Nat} {x:yQ} {left:Int} (h:mW 9223372036854775807 (uL x)) (e:0<=left) (z:left<=1048576):∃r,zW fuel x left=some r/\r<=left/\(0<=r->mW 1048576 (uL x)):=by
 have s_Name:(uL x).Name.size<=9223372036854775807:=h
 have s_Name:x.Name.size<=9223372036854775807:=s_Name
 unfold zW
 rw[dH (by omega) (by omega)]
 by_cases n_Name:left-(x.Name.size:Int)<0
 ·rw[jA n_Name];exact⟨-1,rfl,by omega,fun h=>by omega⟩
 rw[iM n_Name]
 simp only[br_f]
 exact⟨_,rfl,by omega,fun _=>(by show x.Name.size<=_;omega)⟩
theorem aJJ {fuel:Nat} {x:yS} {left:Int} (h:mX 9223372036854775807 (xZ x)) (e:0<=left) (z:left<=1048576):∃r,zY fuel x left=some r/\r<=left/\(0<=r->mX 1048576 (xZ x)):=by
 obtain⟨s_Name,s_To⟩:=h
 have s_Name:x.Name.size<=9223372036854775807:=s_Name
 have s_To:x.To.size<=9223372036854775807:=s_To
 unfold zY
 rw[dH (by omega) (by omega)]
 by_cases n_Name:left-(x.Name.size:Int)<0
 ·rw[jA n_Name];exact⟨-1,rfl,by omega,fun h=>by omega⟩
 rw[iM n_Name]
 simp only[br_f]
 rw[dH (by omega) (by omega)]
 by_cases n_To:left-(x.Name.size:Int)-(x.To.size:Int)<0
 ·rw[jA n_To];exact⟨-1,rfl,by omega,fun h=>by omega⟩
 rw[iM n_To]
 simp only[br_f]
 exact⟨_,rfl,by omega,fun _=>⟨(by show x.Name.size<=_;omega),(by show x.To.size<=_;omega)⟩⟩
theorem aId {fuel:Nat} {l:List yO} {left:Int} (z:l.length<=9223372036854775807) (D:0<=left) (H:left<=1048576) (e:1048586<fuel) (I:∀y∈l,mV 9223372036854775807 (sC y)):∃r,H0 fuel l left=some r/\r<=left/\(0<=r->l.length<=1048576/\∀y∈l,mV 1048576 (sC y)):=
 CU (f:=zT fuel) z D H e fun x h k M R=>aJB e (I x h) M R
theorem aIf {fuel:Nat} {l:List yQ} {left:Int} (e:l.length<=9223372036854775807) (z:0<=left) (D:left<=1048576) (H:1048586<fuel) (I:∀y∈l,mW 9223372036854775807 (uL y)):∃r,H3 fuel l left=some r/\r<=left/\(0<=r->l.length<=1048576/\∀y∈l,mW 1048576 (uL y)):=
 CU (f:=zW fuel) e z D H fun x h k M R=>aJD (I x h) M R
theorem aIk {fuel:Nat} {l:List yS} {left:Int} (e:l.length<=9223372036854775807) (z:0<=left) (D:left<=1048576) (H:1048586<fuel) (I:∀y∈l,mX 9223372036854775807 (xZ y)):∃r,H6 fuel l left=some r/\r<=left/\(0<=r->l.length<=1048576/\∀y∈l,mX 1048576 (xZ y)):=
 CU (f:=zY fuel) e z D H fun x h k M R=>aJJ (I x h) M R
theorem aEB {fuel:Nat} {x:IV} {left:Int} (H:1048586<fuel) (h:lX 9223372036854775807 (C9 x)) (I:0<=left) (M:left<=1048576):∃r,zR fuel x left=some r/\r<=left/\(0<=r->lX 1048576 (C9 x)):=by
 obtain⟨l_Files,e_Files,l_Kept,e_Kept,l_Turns,e_Turns⟩:=h
 unfold zR
 obtain⟨r_Files,a_Files,b_Files,c_Files⟩:=aId (fuel:=fuel) (l:=x.Files) (left:=left) (by simpa [C9]using l_Files) (by omega) (by omega) H (fun y e=>e_Files _ (List.mem_map.2 ⟨y,e,rfl⟩))
 rw[a_Files]
 simp only[bd_s]
 by_cases n_Files:r_Files<0
 ·rw[jA n_Files];exact⟨-1,rfl,by omega,fun h=>by omega⟩
 rw[iM n_Files]
 simp only[br_f]
 have d_Files:=c_Files (by omega)
 obtain⟨r_Kept,a_Kept,b_Kept,c_Kept⟩:=aIf (fuel:=fuel) (l:=x.Kept) (left:=r_Files) (by simpa [C9]using l_Kept) (by omega) (by omega) H (fun y e=>e_Kept _ (List.mem_map.2 ⟨y,e,rfl⟩))
 rw[a_Kept]
 simp only[bd_s]
 by_cases n_Kept:r_Kept<0
 ·rw[jA n_Kept];exact⟨-1,rfl,by omega,fun h=>by omega⟩
 rw[iM n_Kept]
 simp only[br_f]
 have d_Kept:=c_Kept (by omega)
 obtain⟨r_Turns,a_Turns,b_Turns,c_Turns⟩:=aIk (fuel:=fuel) (l:=x.Turns) (left:=r_Kept) (by simpa [C9]using l_Turns) (by omega) (by omega) H (fun y e=>e_Turns _ (List.mem_map.2 ⟨y,e,rfl⟩))
 rw[a_Turns]
 simp only[bd_s]
 by_cases n_Turns:r_Turns<0
 ·rw[jA n_Turns];exact⟨-1,rfl,by omega,fun h=>by omega⟩
 rw[iM n_Turns]
 simp only[br_f]
 have d_Turns:=c_Turns (by omega)
 exact⟨_,rfl,by omega,fun _=>⟨(by show(x.Files.map sC).length<=_;rw[aP];exact d_Files.1),(fun y e=>by obtain⟨z,D,rfl⟩:=List.mem_map.1 e;exact d_Files.2 z D),(by show(x.Kept.map uL).length<=_;rw[aP];exact d_Kept.1),(fun y e=>by obtain⟨z,D,rfl⟩:=List.mem_map.1 e;exact d_Kept.2 z D),(by show(x.Turns.map xZ).length<=_;rw[aP];exact d_Turns.1),(fun y e=>by obtain⟨z,D,rfl⟩:=List.mem_map.1 e;exact d_Turns.2 z D)⟩⟩
theorem aIc {fuel:Nat} {x:DI} {left:Int} (e:1048586<fuel) (h:pZ 9223372036854775807 (IM x)) (z:0<=left) (D:left<=1048576):∃r,B0 fuel x left=some r/\r<=left/\(0<=r->pZ 1048576 (IM x)):=by
 have f_Disk:lX 9223372036854775807 (IM x).Disk:=h
 unfold B0
 obtain⟨r_Disk,a_Disk,b_Disk,c_Disk⟩:=aEB (fuel:=fuel) (x:=x.Disk) (left:=left) e f_Disk (by omega) (by omega)
 rw[a_Disk]
 simp only[bd_s]
 by_cases n_Disk:r_Disk<0
 ·rw[jA n_Disk];exact⟨-1,rfl,by omega,fun h=>by omega⟩
 rw[iM n_Disk]
 simp only[br_f]
 have d_Disk:=c_Disk (by omega)
 exact⟨_,rfl,by omega,fun _=>d_Disk⟩
theorem aLg {fuel:Nat} {x:K1} {left:Int} (h:pY 9223372036854775807 (MM x)) (e:0<=left) (z:left<=1048576):∃r,EK fuel x left=some r/\r<=left/\(0<=r->pY 1048576 (MM x)):=by
 obtain⟨s_Cmd,s_Dir⟩:=h
 have s_Cmd:x.Cmd.size<=9223372036854775807:=s_Cmd
 have s_Dir:x.Dir.size<=9223372036854775807:=s_Dir
 unfold EK
 rw[dH (by omega) (by omega)]
 by_cases n_Cmd:left-(x.Cmd.size:Int)<0
 ·rw[jA n_Cmd];exact⟨-1,rfl,by omega,fun h=>by omega⟩
 rw[iM n_Cmd]
 simp only[br_f]
 rw[dH (by omega) (by omega)]
 by_cases n_Dir:left-(x.Cmd.size:Int)-(x.Dir.size:Int)<0
 ·rw[jA n_Dir];exact⟨-1,rfl,by omega,fun h=>by omega⟩
 rw[iM n_Dir]
 simp only[br_f]
 exact⟨_,rfl,by omega,fun _=>⟨(by show x.Cmd.size<=_;omega),(by show x.Dir.size<=_;omega)⟩⟩
theorem aIh {fuel:Nat} {l:List GF} {left:Int} (e:l.length<=9223372036854775807) (z:0<=left) (D:left<=1048576):∃r,H5 fuel l left=some r/\r<=left/\(0<=r->l.length<=1048576):=
 TD e z D
theorem aJA {fuel:Nat} {l:List K1} {left:Int} (e:l.length<=9223372036854775807) (z:0<=left) (D:left<=1048576) (H:1048586<fuel) (I:∀y∈l,pY 9223372036854775807 (MM y)):∃r,MA fuel l left=some r/\r<=left/\(0<=r->l.length<=1048576/\∀y∈l,pY 1048576 (MM y)):=
 CU (f:=EK fuel) e z D H fun x h k M R=>aLg (I x h) M R
theorem aIj {fuel:Nat} {x:DK} {left:Int} (D:1048586<fuel) (h:qC 9223372036854775807 (CV x)) (I:0<=left) (M:left<=1048576):∃r,B4 fuel x left=some r/\r<=left/\(0<=r->qC 1048576 (CV x)):=by
 obtain⟨l_Live,l_Asked,e_Asked⟩:=h
 unfold B4
 obtain⟨r_Live,a_Live,b_Live,c_Live⟩:=aIh (fuel:=fuel) (l:=x.Live) (left:=left) (by simpa [CV]using l_Live) (by omega) (by omega)
 rw[a_Live]
 simp only[bd_s]
 by_cases n_Live:r_Live<0
 ·rw[jA n_Live];exact⟨-1,rfl,by omega,fun h=>by omega⟩
 rw[iM n_Live]
 simp only[br_f]
 have d_Live:=c_Live (by omega)
 obtain⟨r_Asked,a_Asked,b_Asked,c_Asked⟩:=aJA (fuel:=fuel) (l:=x.Asked) (left:=r_Live) (by simpa [CV]using l_Asked) (by omega) (by omega) D (fun y e=>e_Asked _ (List.mem_map.2 ⟨y,e,rfl⟩))
 rw[a_Asked]
 simp only[bd_s]
 by_cases n_Asked:r_Asked<0
 ·rw[jA n_Asked];exact⟨-1,rfl,by omega,fun h=>by omega⟩
 rw[iM n_Asked]
 simp only[br_f]
 have d_Asked:=c_Asked (by omega)
 exact⟨_,rfl,by omega,fun _=>⟨(by show(x.Live.map WW).length<=_;rw[aP];exact d_Live),(by show(x.Asked.map MM).length<=_;rw[aP];exact d_Asked.1),(fun y e=>by obtain⟨z,H,rfl⟩:=List.mem_map.1 e;exact d_Asked.2 z H)⟩⟩
theorem aMI {fuel:Nat} {x:LOp} {left:Int} (e:1048586<fuel) (h:C1 9223372036854775807 (tOp x)) (z:0<=left) (D:left<=1048576):∃r,OM fuel x left=some r/\r<=left/\(0<=r->C1 1048576 (tOp x)):=by
 obtain⟨s_Name,s_Text,s_Dir,l_Data⟩:=h
 have s_Name:x.Name.size<=9223372036854775807:=s_Name
 have s_Text:x.Text.size<=9223372036854775807:=s_Text
 have s_Dir:x.Dir.size<=9223372036854775807:=s_Dir
 unfold OM
 rw[dH (by omega) (by omega)]
 by_cases n_Name:left-(x.Name.size:Int)<0
 ·rw[jA n_Name];exact⟨-1,rfl,by omega,fun h=>by omega⟩
 rw[iM n_Name]
 simp only[br_f]
 rw[dH (by omega) (by omega)]
 by_cases n_Text:left-(x.Name.size:Int)-(x.Text.size:Int)<0
 ·rw[jA n_Text];exact⟨-1,rfl,by omega,fun h=>by omega⟩
 rw[iM n_Text]
 simp only[br_f]
 rw[dH (by omega) (by omega)]
 by_cases n_Dir:left-(x.Name.size:Int)-(x.Text.size:Int)-(x.Dir.size:Int)<0
 ·rw[jA n_Dir];exact⟨-1,rfl,by omega,fun h=>by omega⟩
 rw[iM n_Dir]
 simp only[br_f]
 obtain⟨r_Data,a_Data,b_Data,c_Data⟩:=TE (fuel:=fuel) (l:=x.Data) (left:=left-(x.Name.size:Int)-(x.Text.size:Int)-(x.Dir.size:Int)) (by simpa [tOp]using l_Data) (by omega) (by omega)
 rw[a_Data]
 simp only[bd_s]
 by_cases n_Data:r_Data<0
 ·rw[jA n_Data];exact⟨-1,rfl,by omega,fun h=>by omega⟩
 rw[iM n_Data]
 simp only[br_f]
 have d_Data:=c_Data (by omega)
 exact⟨_,rfl,by omega,fun _=>⟨(by show x.Name.size<=_;omega),(by show x.Text.size<=_;omega),(by show x.Dir.size<=_;omega),d_Data⟩⟩
theorem aJC {fuel:Nat} {x:yP} {left:Int} (e:1048586<fuel) (h:lY 9223372036854775807 (wV x)) (z:0<=left) (D:left<=1048576):∃r,zV fuel x left=some r/\r<=left/\(0<=r->lY 1048576 (wV x)):=by
 have f_Op:C1 9223372036854775807 (wV x).Op:=h
 unfold zV
 obtain⟨r_Op,a_Op,b_Op,c_Op⟩:=aMI (fuel:=fuel) (x:=x.Op) (left:=left) e f_Op (by omega) (by omega)
 rw[a_Op]
 simp only[bd_s]
 by_cases n_Op:r_Op<0
 ·rw[jA n_Op];exact⟨-1,rfl,by omega,fun h=>by omega⟩
 rw[iM n_Op]
 simp only[br_f]
 have d_Op:=c_Op (by omega)
 exact⟨_,rfl,by omega,fun _=>d_Op⟩
theorem aIe {fuel:Nat} {l:List yP} {left:Int} (z:l.length<=9223372036854775807) (D:0<=left) (H:left<=1048576) (e:1048586<fuel) (I:∀y∈l,lY 9223372036854775807 (wV y)):∃r,H2 fuel l left=some r/\r<=left/\(0<=r->l.length<=1048576/\∀y∈l,lY 1048576 (wV y)):=
 CU (f:=zV fuel) z D H e fun x h k M R=>aJC e (I x h) M R
theorem aA7 {B:List α×Int×Int->Option ((List α×Int×Int)⊕(Int⊕Int))} (l:List α) (wt:α->Nat)
  (R:∀(i:Nat) x k,l[i]?=some x->0<=k->k<=1048576->∃r,B (l,k,(i:Int))=(if r<0 then some (.inr (.inr (-1)))else some (.inl (l,r,((i+1:Nat):Int))))/\r<=k/\(0<=r->r+(wt x:Int)<=k)) (W:∀k,B (l,k,(l.length:Int))=some (.inr (.inl k))) :
  ∀(fuel i:Nat) (k:Int) (o:Int⊕Int),i<=l.length->0<=k->k<=1048576->aL B fuel (l,k,(i:Int))=some o->o= .inr (-1)∨∃r,o= .inl r/\r+(((l.drop i).map wt).sum:Int)<=k:=by
 intro fuel
 induction fuel with
 | zero=>intro i k o Y z D h;cases h
 | succ fuel ih=>
  intro i k o Y z D h
  unfold aL at h
  by_cases he:i=l.length
  ·subst he
   rw[W]at h
   cases h
   rw[List.drop_eq_nil_of_le (bB _)]
   exact .inr ⟨_,rfl,by simp⟩
  ·have H:l[i]?=some (l[i]'(by omega)):=iD (by omega)
   obtain⟨I,e,e1,e2⟩:=R i _ k H z D
   rw[e]at h
   by_cases M:I<0
   ·rw[if_pos M]at h;cases h;exact .inl rfl
   ·rw[if_neg M]at h
    rcases ih (i+1) I o (by omega) (by omega) (by omega) h with h|⟨r,h,h2⟩
    ·exact .inl h
    ·have:=e2 (by omega)
     refine .inr ⟨r,h,?_⟩
     rw[tK H,bR,List.sum_cons]
     omega
theorem aLC {fuel:Nat} {x:F9} {left:Int} (h:nF 9223372036854775807 (wZ x)) (z:0<=left) (D:left<=1048576):∃r,qX fuel x left=some r/\r<=left/\(0<=r->r+(x.Tree.length:Int)<=left):=by
 obtain⟨s_Name,l_Tree⟩:=h
 have s_Name:x.Name.size<=9223372036854775807:=s_Name
 have l_Tree:x.Tree.length<=9223372036854775807:=by simpa [wZ]using l_Tree
 unfold qX B3 szL
 rw[dH (by omega) (by omega)]
 by_cases n_Name:left-(x.Name.size:Int)<0
 ·rw[jA n_Name];exact⟨-1,rfl,by omega,fun h=>by omega⟩
 rw[iM n_Name]
 simp only[br_f]
 rw[dH (by omega) (by omega)]
 by_cases e:left-(x.Name.size:Int)-(x.Tree.length:Int)<0
 ·rw[jA e];exact⟨-1,rfl,by omega,fun h=>by omega⟩
 rw[iM e]
 simp only[br_f,bd_s,iM e]
 exact⟨_,rfl,by omega,fun _=>by omega⟩
theorem aJ9 {fuel:Nat} {x:uJ} {left:Int} (h:kP 9223372036854775807 (oX x)) (z:0<=left) (D:left<=1048576):∃r,nY fuel x left=some r/\r<=left/\(0<=r->r+(x.Wins.length:Int)<=left):=by
 obtain⟨s_Name,l_Tree⟩:=h
 have s_Name:x.Name.size<=9223372036854775807:=s_Name
 have l_Tree:x.Wins.length<=9223372036854775807:=l_Tree
 unfold nY vJ szL
 rw[dH (by omega) (by omega)]
 by_cases n_Name:left-(x.Name.size:Int)<0
 ·rw[jA n_Name];exact⟨-1,rfl,by omega,fun h=>by omega⟩
 rw[iM n_Name]
 simp only[br_f]
 rw[dH (by omega) (by omega)]
 by_cases e:left-(x.Name.size:Int)-(x.Wins.length:Int)<0
 ·rw[jA e];exact⟨-1,rfl,by omega,fun h=>by omega⟩
 rw[iM e]
 simp only[br_f,bd_s,iM e]
 exact⟨_,rfl,by omega,fun _=>by omega⟩
theorem aKa {fuel:Nat} {l:List F9} {left r:Int} (hm:l.length<=9223372036854775807) (h0:0<=left) (h1:left<=1048576) (W:∀y∈l,nF 9223372036854775807 (wZ y)) (h:zZ fuel l left=some r) (e:0<=r):(l.flatMap fun w=>w.Tree).length<=1048576:=by
 unfold zZ szG at h
 rw[dH (by omega) (by omega)]at h
 by_cases M:left-(l.length:Int)<0
 ·rw[jA M]at h;cases h;omega
 rw[iM M]at h
 simp only[br_f]at h
 have key:=aA7 (B:=szC (qX fuel)) l (fun w=>w.Tree.length) (fun i x k z D H=>by
   obtain⟨Y,g2,g3,R,g5⟩:=aV z (by omega)
   obtain⟨r,e1,e2,e3⟩:=aLC (fuel:=fuel) (x:=x) (left:=k) (W x (tF z)) D H
   refine⟨r,?_,e2,e3⟩
   unfold szC
   simp only[Y,br_t,aE g2,g3,bd_s,e1,g5,aE R,show IntKind.i64.wrap ((i+1:Nat):Int)=((i+1:Nat):Int)from R]
   by_cases e:r<0
   ·simp only[jA e,br_t,if_pos e]
   ·simp only[iM e,br_f,if_neg e]) (fun k=>by unfold szC;simp) fuel 0 (left-(l.length:Int))
 cases I:aL (szC (qX fuel)) fuel (l,left-(l.length:Int),0)with
 | none=>rw[I]at h;cases h
 | some o=>
  rw[I]at h
  rcases key o (by omega) (by omega) (by omega) I with rfl|⟨v,rfl,h2⟩
  ·cases h;omega
  ·rw[jN]
   rw[dK]at h2
   cases h
   omega
theorem aIG {fuel:Nat} {l:List uJ} {left r:Int} (hm:l.length<=9223372036854775807) (h0:0<=left) (h1:left<=1048576) (W:∀y∈l,kP 9223372036854775807 (oX y)) (h:wK fuel l left=some r) (e:0<=r):(l.flatMap fun w=>w.Wins).length<=1048576:=by
 unfold wK szG at h
 rw[dH (by omega) (by omega)]at h
 by_cases M:left-(l.length:Int)<0
 ·rw[jA M]at h;cases h;omega
 rw[iM M]at h
 simp only[br_f]at h
 have key:=aA7 (B:=szC (nY fuel)) l (fun w=>w.Wins.length) (fun i x k z D H=>by
   obtain⟨Y,g2,g3,R,g5⟩:=aV z (by omega)
   obtain⟨r,e1,e2,e3⟩:=aJ9 (fuel:=fuel) (x:=x) (left:=k) (W x (tF z)) D H
   refine⟨r,?_,e2,e3⟩
   unfold szC
   simp only[Y,br_t,aE g2,g3,bd_s,e1,g5,aE R,show IntKind.i64.wrap ((i+1:Nat):Int)=((i+1:Nat):Int)from R]
   by_cases e:r<0
   ·simp only[jA e,br_t,if_pos e]
   ·simp only[iM e,br_f,if_neg e]) (fun k=>by unfold szC;simp) fuel 0 (left-(l.length:Int))
 cases I:aL (szC (nY fuel)) fuel (l,left-(l.length:Int),0)with
 | none=>rw[I]at h;cases h
 | some o=>
  rw[I]at h
  rcases key o (by omega) (by omega) (by omega) I with rfl|⟨v,rfl,h2⟩
  ·cases h;omega
  ·rw[jN]
   rw[dK]at h2
   cases h
   omega
theorem WV {fuel:Nat} {left:Int} (D:1048586<fuel) (h:kQ 9223372036854775807 (mD x)) (h0:0<=left) (h1:left<=1048576):∃r,pH fuel x left=some r/\r<=left/\(0<=r->kQ 1048576 (mD x)/\(x.Wins.flatMap fun w=>w.Tree).length<=1048576/\(x.Sess.flatMap fun w=>w.Wins).length<=1048576):=by
 obtain⟨r0,e,q1,q2⟩:=aIi (fuel:=fuel) D h h0 h1
 refine⟨r0,e,q1,fun hr=>⟨q2 hr,?_⟩⟩
 obtain⟨l_Panes,e_Panes,l_Wins,e_Wins,l_Sess,e_Sess⟩:=h
 have l_Panes:x.Panes.length<=9223372036854775807:=by simpa [mD]using l_Panes
 have l_Wins:x.Wins.length<=9223372036854775807:=by simpa [mD]using l_Wins
 have l_Sess:x.Sess.length<=9223372036854775807:=by simpa [mD]using l_Sess
 have f_Wins:∀y∈x.Wins,nF 9223372036854775807 (wZ y):=fun y z=>e_Wins _ (List.mem_map.2 ⟨y,z,rfl⟩)
 have f_Sess:∀y∈x.Sess,kP 9223372036854775807 (oX y):=fun y z=>e_Sess _ (List.mem_map.2 ⟨y,z,rfl⟩)
 unfold pH at e
 obtain⟨H,a1,b1,c1⟩:=aBT (fuel:=fuel) (l:=x.Panes) (left:=left) l_Panes (by omega) (by omega) D (fun y z=>e_Panes _ (List.mem_map.2 ⟨y,z,rfl⟩))
 rw[a1,bd_s]at e
 by_cases I:H<0
 ·rw[jA I]at e;cases e;omega
 rw[iM I,br_f]at e
 obtain⟨M,R,b2,c2⟩:=aED (fuel:=fuel) (l:=x.Wins) (left:=H) l_Wins (by omega) (by omega) D f_Wins
 rw[R,bd_s]at e
 by_cases W:M<0
 ·rw[jA W]at e;cases e;omega
 rw[iM W,br_f]at e
 obtain⟨r3,Y,b3,c3⟩:=aBU (fuel:=fuel) (l:=x.Sess) (left:=M) l_Sess (by omega) (by omega) D f_Sess
 rw[Y,bd_s]at e
 by_cases n3:r3<0
 ·rw[jA n3]at e;cases e;omega
 exact⟨aKa l_Wins (by omega) (by omega) f_Wins R (by omega),aIG l_Sess (by omega) (by omega) f_Sess Y (by omega)⟩
theorem aHQ {p:dL} (D:lZ 1048576 p) {fu:Nat} (M:1048700<=fu):aDQ fu p:=by
 obtain⟨_,_,⟨R,W⟩,e,z,Y,b4,H⟩:=D
 have e:p.Term.S.Main.Cells.length<=1048576:=e
 have z:p.Term.S.Alt.Cells.length<=1048576:=z
 refine⟨by omega,by omega,⟨⟨by omega,by omega⟩,⟨by omega,by omega⟩,⟨by omega,by omega⟩,⟨by omega,by omega⟩,fun x I=> ?_,by omega⟩⟩
 have:x.Cells.length<=1048576:=H x I
 exact⟨by omega,by omega⟩
theorem aE9 (l:List F9):((l.map wZ).flatMap fun w=>w.Tree).length=(l.flatMap fun w=>w.Tree).length:=by
 rw[jN,jN,List.map_map]
 congr 1
 exact List.map_congr_left fun w e=>by show(w.Tree.map TF).length=_;rw[aP]
theorem aFa (l:List uJ):((l.map oX).flatMap fun w=>w.Wins).length=(l.flatMap fun w=>w.Wins).length:=by
 rw[jN,jN,List.map_map]
 congr 1
theorem aKp (H:20000000<F+70) (h:kQ 1048576 (mD x)) (I:(x.Wins.flatMap fun w=>w.Tree).length<=1048576) (M:(x.Sess.flatMap fun w=>w.Wins).length<=1048576):SG F (mD x):=by
 obtain⟨R,W,Y,z,a5,D⟩:=h
 refine⟨⟨⟨H,R,Y,a5,fun w e=>(z w e).2,fun w e=>(z w e).1,fun w e=>(D w e).2,fun w e=>(D w e).1⟩,fun p hp=>aHQ (W p hp) (by omega)⟩,?_,?_⟩
 ·show((x.Wins.map wZ).flatMap fun w=>w.Tree).length<=_;rw[aE9];exact I
 ·show((x.Sess.map oX).flatMap fun w=>w.Wins).length<=_;rw[aFa];exact M
theorem aKi {x:cO} (e:20000000<F) (h:lX 1048576 x):TO F x:=by
 obtain⟨z,D,H,I,M,R⟩:=h
 exact⟨e,z,D,H,I,M,R⟩
theorem aJH {fuel:Nat} {x:OV} (hf:20000100<=fuel) (h:A8 9223372036854775807 (EY x)):∃r,J6 fuel x 1048576=some r/\(0<=r->A8 1048576 (EY x)/\SvF (fuel-70) (EY x)):=by
 obtain⟨f1,f2,f3,f4,f5,D,f6⟩:=h
 have D:x.Done.length<=9223372036854775807:=by simpa [EY]using D
 unfold J6
 obtain⟨H,a1,b1,c1⟩:=WV (fuel:=fuel) (x:=x.Base) (left:=1048576) (by omega) f1 (by omega) (by omega)
 rw[a1,bd_s]
 by_cases I:H<0
 ·rw[jA I];exact⟨-1,rfl,fun h=>by omega⟩
 rw[iM I,br_f]
 obtain⟨M,a2,b2,c2⟩:=WV (fuel:=fuel) (x:=x.St) (left:=H) (by omega) f2 (by omega) (by omega)
 rw[a2,bd_s]
 by_cases R:M<0
 ·rw[jA R];exact⟨-1,rfl,fun h=>by omega⟩
 rw[iM R,br_f]
 obtain⟨W,a3,b3,c3⟩:=aIc (fuel:=fuel) (x:=x.Dep) (left:=M) (by omega) f3 (by omega) (by omega)
 rw[a3,bd_s]
 by_cases Y:W<0
 ·rw[jA Y];exact⟨-1,rfl,fun h=>by omega⟩
 rw[iM Y,br_f]
 obtain⟨r4,a4,b4,c4⟩:=aEB (fuel:=fuel) (x:=x.Disk) (left:=W) (by omega) f4 (by omega) (by omega)
 rw[a4,bd_s]
 by_cases n4:r4<0
 ·rw[jA n4];exact⟨-1,rfl,fun h=>by omega⟩
 rw[iM n4,br_f]
 obtain⟨r5,a5,b5,c5⟩:=aIj (fuel:=fuel) (x:=x.Tab) (left:=r4) (by omega) f5 (by omega) (by omega)
 rw[a5,bd_s]
 by_cases n5:r5<0
 ·rw[jA n5];exact⟨-1,rfl,fun h=>by omega⟩
 rw[iM n5,br_f]
 obtain⟨r6,a6,b6,c6⟩:=aIe (fuel:=fuel) (l:=x.Done) (left:=r5) D (by omega) (by omega) (by omega) (fun y e=>f6 _ (List.mem_map.2 ⟨y,e,rfl⟩))
 rw[a6,bd_s]
 by_cases n6:r6<0
 ·rw[jA n6];exact⟨-1,rfl,fun h=>by omega⟩
 rw[iM n6,br_f]
 refine⟨r6,rfl,fun _=> ?_⟩
 obtain⟨p1,s1,s2⟩:=c1 (by omega)
 obtain⟨p2,s3,s4⟩:=c2 (by omega)
 have p3:=c3 (by omega)
 have p4:=c4 (by omega)
 have p5:=c5 (by omega)
 obtain⟨p6,p7⟩:=c6 (by omega)
 have p8:∀y∈(EY x).Done,lY 1048576 y:=fun y e=>by
  obtain⟨z,hz,rfl⟩:=List.mem_map.1 e
  exact p7 z hz
 have p9:(EY x).Done.length<=1048576:=by show(x.Done.map wV).length<=_;rw[aP];exact p6
 refine⟨⟨p1,p2,p3,p4,p5,p9,p8⟩,⟨aKp (by omega) p1 s1 s2,aKp (by omega) p2 s3 s4,aKi (by omega) p3,aKi (by omega) p4,p5.1,p9,fun y e=> ?_⟩⟩
 have:=p8 y e
 exact this.1
def sp:ByteArray:=ByteArray.mk #[32]
def nl:ByteArray:=ByteArray.mk #[10]
def nR (v:ByteArray) (l:List ByteArray):ByteArray:=l.foldl (fun a x=>a++sp++x) v
def j7 (v:ByteArray) (l:List Int):ByteArray:=nR v (l.map gC)
theorem IQ (v:ByteArray) (l m:List ByteArray):nR v (l++m)=nR (nR v l) m:=by unfold nR;rw[List.foldl_append]
theorem TM (u v:ByteArray):∀l:List ByteArray,nR (u++v) l=u++nR v l
 | []=>rfl
 | x::l=>by
  show nR (u++v++sp++x) l=u++nR (v++sp++x) l
  rw[dR,dR,<-dR (a:=v),TM u (v++sp++x) l]
theorem aHu (x:ByteArray):∀l:List ByteArray,M5 (x::l) sp=nR x l:=by
 have key:∀(l:List ByteArray) (x:ByteArray),(⟨(x.data.toList++Lib.joinTail sp.data.toList (l.map (·.data.toList))).toArray⟩:ByteArray)=nR x l:=by
  intro l
  induction l with
  | nil=>
   intro x
   show(⟨(x.data.toList++ []).toArray⟩:ByteArray)=x
   rw[bO]
  | cons y l ih=>
   intro x
   have e:=ih (x++sp++y)
   rw[ByteArray.data_append,ByteArray.data_append,Array.toList_append,Array.toList_append]at e
   show _=nR (x++sp++y) l
   rw[<-e]
   congr 2
   show x.data.toList++((sp.data.toList++y.data.toList)++Lib.joinTail sp.data.toList (l.map (·.data.toList)))=_
   simp only[aQ]
 intro l
 unfold M5
 rw[bR,Lib.join_cons]
 exact key l x
theorem NL:∀(l:List ByteArray) (v:ByteArray) (c:Nat),(∀x∈l,x.size<=c)->(nR v l).size<=v.size+(c+1)*l.length
 | [],v,c,_=>by simp[nR]
 | x::l,v,c,h=>by
  have H:=h x aN
  have e:=NL l (v++sp++x) c fun y D=>h y (aI _ D)
  have z:sp.size=1:=rfl
  simp only[aH,z]at e
  show(nR (v++sp++x) l).size<=_
  rw[cL,Nat.mul_succ]
  omega
theorem gO (l:List Int) (v:ByteArray):(j7 v l).size<=v.size+11*l.length:=by
 have:=NL (l.map gC) v 10 fun x e=>by
  obtain⟨n,_,rfl⟩:=List.mem_map.1 e
  exact jD n
 rwa[aP]at this
theorem aFp (u v:ByteArray) (l:List Int):j7 (u++v) l=u++j7 v l:=TM u v _
theorem pN (v:ByteArray) (l:List Int):v++j7 (ByteArray.mk #[]) l=j7 v l:=by
 rw[<-aFp]
 congr 1
 apply ByteArray.ext
 rw[ByteArray.data_append]
 simp
theorem kW (h:n<=2097152):cR K.str n:=eK h (by decide)
def wUp:ByteArray:=ByteArray.mk #[117,112]
def NJ:ByteArray:=ByteArray.mk #[100,111,119,110]
def KY:ByteArray:=ByteArray.mk #[97,115,107]
def rO:ByteArray:=ByteArray.mk #[115,101,115,115,105,111,110]
def kL:ByteArray:=ByteArray.mk #[119,105,110,100,111,119]
def yC:ByteArray:=ByteArray.mk #[112,97,110,101]
def KZ:ByteArray:=ByteArray.mk #[122,111,111,109]
def W2:ByteArray:=ByteArray.mk #[108,105,118,101]
def W0:ByteArray:=ByteArray.mk #[100,111,110,101]
def W3:ByteArray:=ByteArray.mk #[119,97,105,116]
def JG (w:ByteArray) (a b:Int):ByteArray:=j7 w [a,b]++nl
def DC (a:A9):ByteArray:=j7 KY [a.Pane,a.Pid,a.W,a.H]++nl
def rK (x:kM):ByteArray:=j7 (rO++sp++x.Name) (x.Active::x.Wins)++nl
def CX (w:lF):ByteArray:=(if w.Zoom then j7 (kL++sp++gC w.Id++sp++w.Name) (w.Active::oH w.Tree)++sp++KZ else j7 (kL++sp++gC w.Id++sp++w.Name) (w.Active::oH w.Tree))++nl
def M9 (v:ByteArray) (p:dL):ByteArray:=if p.Life=1 then v++sp++W2++sp++gC p.Pid else if p.Life=2 then v++sp++W0++sp++gC p.Code else v++sp++W3
def uK (p:dL):ByteArray:=j7 (M9 (yC++sp++gC p.Id) p) [p.Term.S.X,p.Term.S.Y,(p.Term.S.Back.length:Int)]++nl
def nV {α:Type} (f:α->ByteArray) (v:ByteArray) (l:List α):ByteArray:=l.foldl (fun a x=>a++f x) v
theorem jZ {α:Type} {f:α->ByteArray} {c:Nat}:∀{l:List α} (v:ByteArray),(∀x∈l,(f x).size<=c)->(nV f v l).size<=v.size+c*l.length
 | [],v,_=>by simp[nV]
 | x::l,v,h=>by
  have D:=h x aN
  have e:=jZ (l:=l) (v++f x) fun y z=>h y (aI _ z)
  rw[aH]at e
  show(nV f (v++f x) l).size<=_
  rw[cL,Nat.mul_succ]
  omega
theorem pL {f:α->ByteArray} {l:List α} {x:α} (h:l[i]?=some x):nV f v (l.take (i+1))=nV f v (l.take i)++f x:=by
 unfold nV
 rw[cD h,List.foldl_append]
 rfl
noncomputable def TA (s:bA):ByteArray:=nV uK (nV CX (nV rK (ByteArray.mk #[]) s.Sess) s.Wins) s.Panes
noncomputable def F2 (s:lE):ByteArray:=br (Z3 s) (br s.Up
 (nV DC (JG wUp (tS s.Done) s.Sure) s.Tab.Asked++TA s.St) (nV DC (JG NJ (tS s.Done) s.Sure) s.Tab.Asked)) (ByteArray.mk #[])
theorem i7 {l:List Int} (Y:l.length<=1048600) (hf:1048600<F):jY F l=some (l.map gC):=by
 unfold jY
 have key:aL (qV F) F ([],l,(l.length:Int),0)=some (l.map gC):=by
  refine fS (fun i=>((l.take i).map gC,l,(l.length:Int),(i:Int))) l.length _ rfl (fun i H=> ?_) (by unfold qV;simp) (by omega)
  have e:l[i]?=some l[i]:=iD H
  obtain⟨I,M,z,R,W⟩:=aV e (by omega)
  have D:=D4 gC e
  generalize l[i]=x at e z D
  unfold qV
  simp only[I,br_t,aE M,z,bd_s,oP]
  rw[D,aE (kW (by rw[aP,aF];omega)),W,aE R]
 rw[key]
 rfl
theorem kU {x:ByteArray} {l:List ByteArray} (z:l.length<=2000000) (D:(nR x l).size<=100000000):j4 F (x::l)=some (nR x l++nl):=by
 have e:=aHu x l
 unfold j4 mF
 rw[show ByteArray.mk #[32]=sp from rfl,e,aE ⟨by rw[cL];omega,by omega⟩,bd_s,aE (by show _+1<=_;omega)]
 rfl
theorem aEq (x:α) (l:List α):[x]++l=x::l:=rfl
theorem z1:sp.size=1:=rfl
theorem z2:nl.size=1:=rfl
theorem aAW (e:1048600<F) (z:w.size<=10):jY F [a,b]=some [gC a,gC b]/\j4 F ([w]++ [gC a,gC b])=some (JG w a b):=by
 have D:=jD a;have H:=jD b
 refine⟨i7 (by simp) e,?_⟩
 have:=gO [a,b] w
 exact kU (by simp) (by show(j7 w [a,b]).size<=_;simp at this;omega)
theorem aAj {s:lE} (hl:s.Tab.Asked.length<=1048576) (R:1048600<F) (hv:v.size<=1000):aL (qQ F) F (s,v,s.Tab.Asked,(s.Tab.Asked.length:Int),0)=some (s,nV DC v s.Tab.Asked):=by
 have e:∀a:A9,(DC a).size<=100:=fun a=>by
  have:=gO [a.Pane,a.Pid,a.W,a.H] KY
  unfold DC
  rw[aH,z2]
  have z:KY.size=3:=rfl
  simp at this
  omega
 refine fS (B:=qQ F) (fuel:=F) (fun i=>(s,nV DC v (s.Tab.Asked.take i),s.Tab.Asked,(s.Tab.Asked.length:Int),(i:Int))) s.Tab.Asked.length _ rfl (fun i Y=> ?_) (by unfold qQ;simp) (by omega)
 have D:s.Tab.Asked[i]?=some s.Tab.Asked[i]:=iD Y
 obtain⟨h1,h2,I,h4,h5⟩:=aV D (by omega)
 have M:=pL (f:=DC) (v:=v) D
 have hn:=jZ (f:=DC) (c:=100) (l:=s.Tab.Asked.take i) v fun x _=>e x
 rw[aF]at hn
 have hy:=e s.Tab.Asked[i]
 generalize s.Tab.Asked[i]=x at D I M hy
 have e1:=i7 (F:=F) (l:=[x.Pane,x.Pid,x.W,x.H]) (by simp) R
 have e2:j4 F ([KY]++ [x.Pane,x.Pid,x.W,x.H].map gC)=some (DC x):=kU (by simp) (by
  have:=gO [x.Pane,x.Pid,x.W,x.H] KY
  have z:KY.size=3:=rfl
  show(j7 KY [x.Pane,x.Pid,x.W,x.H]).size<=_
  simp at this
  omega)
 unfold qQ
 simp only[h1,br_t,aE h2,I,bd_s,e1]
 rw[aE (kW (by simp))]
 rw[show ByteArray.mk #[97,115,107]=KY from rfl,e2,bd_s,aE (by omega),h5,aE h4,M]
theorem CR (h:SG F s):∀x∈s.Sess,(rK x).size<=20000000:=fun x e=>by
 have D:=h.f.f.sw x e
 have H:=h.f.f.sn x e
 have:=gO (x.Active::x.Wins) (rO++sp++x.Name)
 have z:rO.size=7:=rfl
 unfold rK
 simp only[aH,z,z1,z2,cL]at this⊢
 omega
theorem F7 (h:SG F s):∀x∈s.Wins,(CX x).size<=20000000:=fun x e=>by
 have H:=h.f.f.tr x e
 have I:=h.f.f.nm x e
 have M:=sX x.Tree
 have R:=jD x.Id
 have:=gO (x.Active::oH x.Tree) (kL++sp++gC x.Id++sp++x.Name)
 have z:kL.size=6:=rfl
 have D:KZ.size=4:=rfl
 unfold CX
 split<;>(simp only[aH,z,D,z1,z2,cL]at this⊢;omega)
theorem aC5 (v:ByteArray) (p:dL):(M9 v p).size<=v.size+20:=by
 have H:=jD p.Pid;have I:=jD p.Code
 have e:W2.size=4:=rfl
 have z:W0.size=4:=rfl
 have D:W3.size=4:=rfl
 unfold M9
 split
 ·simp only[aH,z1,e];omega
 ·split<;>(simp only[aH,z1,z,D];omega)
theorem wS (p:dL):(uK p).size<=100:=by
 have D:=jD p.Id
 have e:=aC5 (yC++sp++gC p.Id) p
 have:=gO [p.Term.S.X,p.Term.S.Y,(p.Term.S.Back.length:Int)] (M9 (yC++sp++gC p.Id) p)
 have z:yC.size=4:=rfl
 unfold uK
 simp only[aH,z,z1,z2,cL,mK]at this e⊢
 omega
theorem aDH (h:SG F s):aL (lO (F+70)) (F+70) (s,ByteArray.mk #[],s.Sess,(s.Sess.length:Int),0)=some (s,nV rK (ByteArray.mk #[]) s.Sess):=by
 have R:=h.f.f.fu;have hl:=h.f.f.sl
 refine fS (B:=lO (F+70)) (fuel:=F+70) (fun i=>(s,nV rK (ByteArray.mk #[]) (s.Sess.take i),s.Sess,(s.Sess.length:Int),(i:Int))) s.Sess.length _ rfl (fun i z=> ?_) (by unfold lO;simp) (by omega)
 have e:s.Sess[i]?=some s.Sess[i]:=iD z
 obtain⟨W,Y,I,h4,h5⟩:=aV e (by omega)
 have M:=pL (f:=rK) (v:=ByteArray.mk #[]) e
 have hn:=jZ (f:=rK) (c:=20000000) (l:=s.Sess.take i) (ByteArray.mk #[]) fun x e=>CR h x (iA e)
 rw[aF,show(ByteArray.mk #[]).size=0 from rfl]at hn
 have D:=CR h _ (bQ z)
 have hw:=h.f.f.sw _ (bQ z)
 have H:=h.f.f.sn _ (bQ z)
 generalize s.Sess[i]=x at e I M D hw H
 have e1:=i7 (F:=F+70) (l:=x.Wins) (by omega) (by omega)
 have e2:j4 (F+70) ([rO,x.Name,gC x.Active]++x.Wins.map gC)=some (rK x):=kU (l:=x.Name::gC x.Active::x.Wins.map gC) (by simp;omega) (by
  unfold rK at D
  rw[aH]at D
  show(j7 (rO++sp++x.Name) (x.Active::x.Wins)).size<=_
  omega)
 unfold lO
 simp only[W,br_t,aE Y,I,bd_s,e1,oP]
 rw[aE (kW (by simp;omega))]
 rw[show ByteArray.mk #[115,101,115,115,105,111,110]=rO from rfl,e2,bd_s,aE (by omega),h5,aE h4,M]
theorem aFZ (h:SG F s) (hv:v.size<=50000000000000):aL (lP (F+70)) (F+70) (s,v,s.Wins,(s.Wins.length:Int),0)=some (s,nV CX v s.Wins):=by
 have hfu:=h.f.f.fu;have hl:=h.f.f.wl
 refine fS (B:=lP (F+70)) (fuel:=F+70) (fun i=>(s,nV CX v (s.Wins.take i),s.Wins,(s.Wins.length:Int),(i:Int))) s.Wins.length _ rfl (fun i H=> ?_) (by unfold lP;simp) (by omega)
 have D:s.Wins[i]?=some s.Wins[i]:=iD H
 obtain⟨h1,h2,R,W,Y⟩:=aV D (by omega)
 have I:=pL (f:=CX) (v:=v) D
 have hn:=jZ (f:=CX) (c:=20000000) (l:=s.Wins.take i) v fun x D=>F7 h x (iA D)
 rw[aF]at hn
 have e:=F7 h _ (bQ H)
 have hw:=h.f.f.tr _ (bQ H)
 generalize s.Wins[i]=x at D R I e hw
 have hlv:=sX x.Tree
 have e0:=uU (fuel:=F+70) (t:=x.Tree) hw (by omega)
 have e1:=i7 (F:=F+70) (l:=oH x.Tree) (by omega) (by omega)
 unfold lP
 simp only[h1,br_t,aE h2,R,bd_s,e0,e1,oP]
 rw[aE (kW (by simp;omega)),show ByteArray.mk #[119,105,110,100,111,119]=kL from rfl,show ByteArray.mk #[122,111,111,109]=KZ from rfl]
 have hy0:=e
 unfold CX at e
 rw[aH]at e
 have z:CX x=(if x.Zoom then j7 (kL++sp++gC x.Id++sp++x.Name) (x.Active::oH x.Tree)++sp++KZ else j7 (kL++sp++gC x.Id++sp++x.Name) (x.Active::oH x.Tree))++nl:=rfl
 cases hz:x.Zoom with
 | true=>
  rw[hz]at e z
  simp only[if_true]at e z
  have M:j4 (F+70) ([kL,gC x.Id,x.Name,gC x.Active]++(oH x.Tree).map gC++ [KZ])=some (CX x):=by
   rw[z]
   refine(kU (x:=kL) (l:=(gC x.Id::x.Name::gC x.Active::(oH x.Tree).map gC)++ [KZ]) (by simp;omega) ?_).trans ?_
   ·rw[IQ]
    show(j7 (kL++sp++gC x.Id++sp++x.Name) (x.Active::oH x.Tree)++sp++KZ).size<=_
    omega
   ·rw[IQ]
    rfl
  rw[br_t,aE (kW (by simp;omega)),bd_s]
  simp only
  rw[M,bd_s,aE (by omega),Y,aE W,I]
 | false=>
  rw[hz]at e z
  simp only[aJ,if_false]at e z
  have M:j4 (F+70) ([kL,gC x.Id,x.Name,gC x.Active]++(oH x.Tree).map gC)=some (CX x):=by
   rw[z]
   exact kU (x:=kL) (l:=gC x.Id::x.Name::gC x.Active::(oH x.Tree).map gC) (by simp;omega) (by
    show(j7 (kL++sp++gC x.Id++sp++x.Name) (x.Active::oH x.Tree)).size<=_
    omega)
  rw[br_f,bd_s]
  simp only
  rw[M,bd_s,aE (by omega),Y,aE W,I]
theorem SE {p:dL} (z:1048600<F):xM F p=some (uK p):=by
 have e:=wS p
 have I:uK p=j7 (M9 (yC++sp++gC p.Id) p) [p.Term.S.X,p.Term.S.Y,(p.Term.S.Back.length:Int)]++nl:=rfl
 unfold uK at e
 rw[aH]at e
 unfold xM
 rw[i7 (by simp) z,bd_s,aE (kW (by simp)),I]
 simp only[oP,bd_s,show ByteArray.mk #[112,97,110,101]=yC from rfl,show ByteArray.mk #[108,105,118,101]=W2 from rfl,show ByteArray.mk #[100,111,110,101]=W0 from rfl,show ByteArray.mk #[119,97,105,116]=W3 from rfl]
 unfold M9 at e⊢
 by_cases D:p.Life=1
 ·rw[if_pos D]at e⊢
  rw[show(p.Life==1)=true by simp[D],br_t,aE (kW (by simp)),bd_s]
  simp only
  rw[i7 (by simp) z,bd_s,aE (kW (by simp))]
  exact congrArg (fun o=>bd o fun x=>some x) (kU (x:=yC) (l:=[gC p.Id,W2,gC p.Pid,gC p.Term.S.X,gC p.Term.S.Y,gC (p.Term.S.Back.length:Int)]) (by simp) (by exact aX (aX (Nat.le_add_right _ _) e) (by omega)))
 ·rw[if_neg D]at e⊢
  rw[show(p.Life==1)=false by simp[D],br_f]
  by_cases H:p.Life=2
  ·rw[if_pos H]at e⊢
   rw[show(p.Life==2)=true by simp[H],br_t,aE (kW (by simp)),bd_s]
   simp only
   rw[i7 (by simp) z,bd_s,aE (kW (by simp))]
   exact congrArg (fun o=>bd o fun x=>some x) (kU (x:=yC) (l:=[gC p.Id,W0,gC p.Code,gC p.Term.S.X,gC p.Term.S.Y,gC (p.Term.S.Back.length:Int)]) (by simp) (by exact aX (aX (Nat.le_add_right _ _) e) (by omega)))
  ·rw[if_neg H]at e⊢
   rw[show(p.Life==2)=false by simp[H],br_f,aE (kW (by simp)),bd_s]
   simp only
   rw[i7 (by simp) z,bd_s,aE (kW (by simp))]
   exact congrArg (fun o=>bd o fun x=>some x) (kU (x:=yC) (l:=[gC p.Id,W3,gC p.Term.S.X,gC p.Term.S.Y,gC (p.Term.S.Back.length:Int)]) (by simp) (by exact aX (aX (Nat.le_add_right _ _) e) (by omega)))
theorem aDz (h:SG F s) (hv:v.size<=100000000000000):aL (lQ (F+70)) (F+70) (v,s.Panes,(s.Panes.length:Int),0)=some (nV uK v s.Panes):=by
 have H:=h.f.f.fu;have hl:=h.f.f.pl
 refine fS (B:=lQ (F+70)) (fuel:=F+70) (fun i=>(nV uK v (s.Panes.take i),s.Panes,(s.Panes.length:Int),(i:Int))) s.Panes.length _ rfl (fun i I=> ?_) (by unfold lQ;simp) (by omega)
 have e:s.Panes[i]?=some s.Panes[i]:=iD I
 obtain⟨M,R,z,W,Y⟩:=aV e (by omega)
 have D:=pL (f:=uK) (v:=v) e
 have hn:=jZ (f:=uK) (c:=100) (l:=s.Panes.take i) v fun x _=>wS x
 rw[aF]at hn
 have hy:=wS s.Panes[i]
 generalize s.Panes[i]=x at e z D hy
 unfold lQ
 simp only[M,br_t,aE R,z,bd_s,SE (F:=F+70) (p:=x) (by omega)]
 rw[aE (by omega),Y,aE W,D]
theorem MI (h:SG F s):(nV rK (ByteArray.mk #[]) s.Sess).size<=22000000000000:=by
 have z:=h.f.f.sl
 have:=jZ (f:=rK) (c:=20000000) (l:=s.Sess) (ByteArray.mk #[]) fun x e=>CR h x e
 rw[show(ByteArray.mk #[]).size=0 from rfl]at this
 omega
theorem TL (h:SG F s):(nV CX (nV rK (ByteArray.mk #[]) s.Sess) s.Wins).size<=50000000000000:=by
 have z:=h.f.f.wl
 have D:=MI h
 have:=jZ (f:=CX) (c:=20000000) (l:=s.Wins) (nV rK (ByteArray.mk #[]) s.Sess) fun x e=>F7 h x e
 omega
theorem NI (h:SG F s):(TA s).size<=100000000000000:=by
 have e:=h.f.f.pl
 have z:=TL h
 have:=jZ (f:=uK) (c:=100) (l:=s.Panes) (nV CX (nV rK (ByteArray.mk #[]) s.Sess) s.Wins) fun x _=>wS x
 unfold TA
 omega
theorem L6 (h:SG F s):sY (F+70) s=some (TA s):=by
 have e:=MI h
 have z:=TL h
 unfold sY
 rw[aDH h,bd_s]
 simp only
 rw[aFZ h (by omega),bd_s]
 simp only
 rw[aDz h (by omega),bd_s]
 rfl
theorem VH {s:lE} (e:s.Tab.Asked.length<=1048576) (D:v.size<=1000):(nV DC v s.Tab.Asked).size<=200000000:=by
 have:=jZ (f:=DC) (c:=100) (l:=s.Tab.Asked) v fun a _=>by
  have:=gO [a.Pane,a.Pid,a.W,a.H] KY
  unfold DC
  rw[aH,z2]
  have z:KY.size=3:=rfl
  simp at this
  omega
 omega
theorem FA (e:w.size<=10):(JG w a b).size<=100:=by
 have:=gO [a,b] w
 unfold JG
 rw[aH,z2]
 simp at this
 omega
theorem ZC {s:lE} (h:SvF F s) (e:s.Tab.Asked.length<=1048576):y8 (F+70) s=some (F2 s):=by
 have I:=h.d.fu
 unfold y8 F2
 rw[aBn h,bd_s]
 cases Z3 s with
 | false=>rfl
 | true=>
  rw[aM,br_f,br_t]
  cases H:s.Up with
  | true=>
   obtain⟨z,D⟩:=aAW (F:=F+70) (w:=wUp) (a:=(tS s.Done:Int)) (b:=s.Sure) (by omega) (by decide)
   have M:=FA (w:=wUp) (a:=(tS s.Done:Int)) (b:=s.Sure) (by decide)
   have R:=NI h.t
   have W:=VH e (v:=JG wUp (tS s.Done:Int) s.Sure) (by omega)
   rw[br_t,br_t,bd_s]
   simp only
   rw[tU h.hl (by omega),bd_s,z,bd_s,aE (kW (by simp)),show ByteArray.mk #[117,112]=wUp from rfl,D,bd_s,aAj e (by omega) (by omega),bd_s]
   simp only[H,br_t]
   rw[L6 h.t,bd_s,aE (by omega),bd_s]
  | false=>
   obtain⟨z,D⟩:=aAW (F:=F+70) (w:=NJ) (a:=(tS s.Done:Int)) (b:=s.Sure) (by omega) (by decide)
   have M:=FA (w:=NJ) (a:=(tS s.Done:Int)) (b:=s.Sure) (by decide)
   rw[br_f,br_f,bd_s]
   simp only
   rw[tU h.hl (by omega),bd_s,z,bd_s,aE (kW (by simp)),show ByteArray.mk #[100,111,119,110]=NJ from rfl,D,bd_s,aAj e (by omega) (by omega),bd_s]
   simp only[H,br_f,bd_s]
theorem oW {l:List Int} (hl:l.length<=1048600) (hf:1048600<F):l8 F l=some (j7 (ByteArray.mk #[]) l):=by
 unfold l8
 have key:aL (tE F) F (ByteArray.mk #[],l,(l.length:Int),0)=some (j7 (ByteArray.mk #[]) l):=by
  refine fS (fun i=>(j7 (ByteArray.mk #[]) (l.take i),l,(l.length:Int),(i:Int))) l.length _ rfl (fun i H=> ?_) (by unfold tE;simp) (by omega)
  have e:l[i]?=some l[i]:=iD H
  obtain⟨I,M,z,R,W⟩:=aV e (by omega)
  have D:j7 (ByteArray.mk #[]) (l.take (i+1))=j7 (ByteArray.mk #[]) (l.take i)++sp++gC l[i]:=by
   unfold j7
   rw[cD e,e8,IQ]
   rfl
  have Y:=gO (l.take i) (ByteArray.mk #[])
  rw[aF,show(ByteArray.mk #[]).size=0 from rfl]at Y
  have hn:=jD l[i]
  generalize l[i]=x at e z D hn
  unfold tE
  simp only[I,br_t,aE M,z,bd_s,show ByteArray.mk #[32]=sp from rfl,z1]
  rw[aE (by omega),mQ x (by omega),bd_s,aE (by simp only[aH,z1];omega),W,aE R,D]
 rw[key]
 rfl
theorem aM7 (v a b c:ByteArray):v++a++b++c=v++(a++b++c):=by simp only[dR]
theorem aAX (e:1048600<F):l8 F [a,b]=some (j7 (ByteArray.mk #[]) [a,b])/\w++j7 (ByteArray.mk #[]) [a,b]++nl=JG w a b:=by
 refine⟨oW (by simp) e,?_⟩
 unfold JG
 rw[pN]
theorem VI {s:lE} (hl:s.Tab.Asked.length<=1048576) (Y:1048600<F) (hv:v.size<=1000):aL (rB F) F (s,v,s.Tab.Asked,(s.Tab.Asked.length:Int),0)=some (s,nV DC v s.Tab.Asked):=by
 have e:∀a:A9,(DC a).size<=100:=fun a=>by
  have:=gO [a.Pane,a.Pid,a.W,a.H] KY
  unfold DC
  rw[aH,z2]
  have z:KY.size=3:=rfl
  simp at this
  omega
 refine fS (B:=rB F) (fuel:=F) (fun i=>(s,nV DC v (s.Tab.Asked.take i),s.Tab.Asked,(s.Tab.Asked.length:Int),(i:Int))) s.Tab.Asked.length _ rfl (fun i hi=> ?_) (by unfold rB;simp) (by omega)
 have D:s.Tab.Asked[i]?=some s.Tab.Asked[i]:=iD hi
 obtain⟨h1,h2,I,h4,h5⟩:=aV D (by omega)
 have M:=pL (f:=DC) (v:=v) D
 have hn:=jZ (f:=DC) (c:=100) (l:=s.Tab.Asked.take i) v fun x _=>e x
 rw[aF]at hn
 generalize s.Tab.Asked[i]=x at D I M
 have e1:=oW (F:=F) (l:=[x.Pane,x.Pid,x.W,x.H]) (by simp) Y
 have R:=gO [x.Pane,x.Pid,x.W,x.H] (ByteArray.mk #[])
 rw[show(ByteArray.mk #[]).size=0 from rfl]at R
 simp only[cL,mK]at R
 have z:KY.size=3:=rfl
 unfold rB
 simp only[h1,br_t,aE h2,I,bd_s,show ByteArray.mk #[97,115,107]=KY from rfl,show ByteArray.mk #[10]=nl from rfl,z,z2]
 rw[aE (by omega),e1,bd_s,aE (by simp only[aH,z];omega),aE (by simp only[aH,z];omega),h5,aE h4,M]
 rw[aM7,pN]
 rfl
theorem aDI (h:SG F s):aL (nM (F+70)) (F+70) (s,ByteArray.mk #[],s.Sess,(s.Sess.length:Int),0)=some (s,nV rK (ByteArray.mk #[]) s.Sess):=by
 have R:=h.f.f.fu;have hl:=h.f.f.sl
 refine fS (B:=nM (F+70)) (fuel:=F+70) (fun i=>(s,nV rK (ByteArray.mk #[]) (s.Sess.take i),s.Sess,(s.Sess.length:Int),(i:Int))) s.Sess.length _ rfl (fun i D=> ?_) (by unfold nM;simp) (by omega)
 have e:s.Sess[i]?=some s.Sess[i]:=iD D
 obtain⟨W,Y,I,h4,h5⟩:=aV e (by omega)
 have M:=pL (f:=rK) (v:=ByteArray.mk #[]) e
 have hn:=jZ (f:=rK) (c:=20000000) (l:=s.Sess.take i) (ByteArray.mk #[]) fun x e=>CR h x (iA e)
 rw[aF,show(ByteArray.mk #[]).size=0 from rfl]at hn
 have hw:=h.f.f.sw _ (bQ D)
 have H:=h.f.f.sn _ (bQ D)
 generalize s.Sess[i]=x at e I M hw H
 have e1:=oW (F:=F+70) (l:=x.Active::x.Wins) (by simp;omega) (by omega)
 have e2:=gO (x.Active::x.Wins) (ByteArray.mk #[])
 rw[show(ByteArray.mk #[]).size=0 from rfl,cL]at e2
 have z:(ByteArray.mk #[115,101,115,115,105,111,110,32]).size=8:=rfl
 unfold nM
 simp only[W,br_t,aE Y,I,bd_s,show ByteArray.mk #[10]=nl from rfl,z,z2,aEq]
 rw[aE (by omega),aE (by simp only[aH,z];omega),aE (eK (by simp;omega) (by decide)),e1,bd_s,aE (by simp only[aH,z];omega),aE (by simp only[aH,z];omega),h5,aE h4,M]
 have hs:ByteArray.mk #[115,101,115,115,105,111,110,32]=rO++sp:=rfl
 have ht:rK x=j7 (rO++sp++x.Name) (x.Active::x.Wins)++nl:=rfl
 rw[hs,ht,<-pN (rO++sp++x.Name)]
 simp only[dR]
theorem aF0 (h:SG F s) (hb:∀w∈s.Wins,uM w.Tree=true) (hv:v.size<=50000000000000):aL (nN (F+70)) (F+70) (s,v,s.Wins,(s.Wins.length:Int),0)=some (s,nV CX v s.Wins):=by
 have hfu:=h.f.f.fu;have hl:=h.f.f.wl
 refine fS (B:=nN (F+70)) (fuel:=F+70) (fun i=>(s,nV CX v (s.Wins.take i),s.Wins,(s.Wins.length:Int),(i:Int))) s.Wins.length _ rfl (fun i I=> ?_) (by unfold nN;simp) (by omega)
 have D:s.Wins[i]?=some s.Wins[i]:=iD I
 obtain⟨h1,h2,Y,h4,h5⟩:=aV D (by omega)
 have M:=pL (f:=CX) (v:=v) D
 have hn:=jZ (f:=CX) (c:=20000000) (l:=s.Wins.take i) v fun x D=>F7 h x (iA D)
 rw[aF]at hn
 have hw:=h.f.f.tr _ (bQ I)
 have R:=h.f.f.nm _ (bQ I)
 have H:=hb _ (bQ I)
 generalize s.Wins[i]=x at D Y M hw R H
 have hlv:=sX x.Tree
 have hid:=jD x.Id
 have e0:nZ (F+70) x.Tree=some (oH x.Tree):=by
  rw[CB (by omega)]
  unfold jT
  rw[H]
  rfl
 have e1:=oW (F:=F+70) (l:=x.Active::oH x.Tree) (by simp;omega) (by omega)
 have e2:=gO (x.Active::oH x.Tree) (ByteArray.mk #[])
 rw[show(ByteArray.mk #[]).size=0 from rfl,cL]at e2
 have z:(ByteArray.mk #[119,105,110,100,111,119,32]).size=7:=rfl
 have z':(ByteArray.mk #[32,122,111,111,109]).size=5:=rfl
 have hs:ByteArray.mk #[119,105,110,100,111,119,32]=kL++sp:=rfl
 have W:ByteArray.mk #[32,122,111,111,109]=sp++KZ:=rfl
 have e:CX x=(if x.Zoom then j7 (kL++sp++gC x.Id++sp++x.Name) (x.Active::oH x.Tree)++sp++KZ else j7 (kL++sp++gC x.Id++sp++x.Name) (x.Active::oH x.Tree))++nl:=rfl
 unfold nN
 simp only[h1,br_t,aE h2,Y,bd_s,show ByteArray.mk #[32]=sp from rfl,show ByteArray.mk #[10]=nl from rfl,z,z',z1,z2,aEq]
 rw[aE (by omega),mQ x.Id (by omega),bd_s,aE (by simp only[aH,z];omega),aE (by simp only[aH,z];omega),aE (by simp only[aH,z,z1];omega),e0,bd_s,aE (eK (by simp;omega) (by decide)),e1,bd_s,aE (by simp only[aH,z,z1];omega)]
 cases hz:x.Zoom with
 | true=>
  rw[hz]at e
  simp only[if_true]at e
  rw[br_t,aE (by simp only[aH,z,z1];omega),bd_s]
  simp only
  rw[aE (by simp only[aH,z,z',z1];omega),h5,aE h4,M,hs,W,e,<-pN (kL++sp++gC x.Id++sp++x.Name)]
  simp only[dR]
 | false=>
  rw[hz]at e
  simp only[aJ,if_false]at e
  rw[br_f,bd_s]
  simp only
  rw[aE (by simp only[aH,z,z1];omega),h5,aE h4,M,hs,e,<-pN (kL++sp++gC x.Id++sp++x.Name)]
  simp only[dR]
theorem aDA (h:SG F s) (hv:v.size<=100000000000000):aL (nO (F+70)) (F+70) (v,s.Panes,(s.Panes.length:Int),0)=some (nV uK v s.Panes):=by
 have hfu:=h.f.f.fu;have hl:=h.f.f.pl
 refine fS (B:=nO (F+70)) (fuel:=F+70) (fun i=>(nV uK v (s.Panes.take i),s.Panes,(s.Panes.length:Int),(i:Int))) s.Panes.length _ rfl (fun i hi=> ?_) (by unfold nO;simp) (by omega)
 have W:s.Panes[i]?=some s.Panes[i]:=iD hi
 obtain⟨h1,h2,h3,h4,h5⟩:=aV W (by omega)
 have D:=pL (f:=uK) (v:=v) W
 have hn:=jZ (f:=uK) (c:=100) (l:=s.Panes.take i) v fun x _=>wS x
 rw[aF]at hn
 generalize s.Panes[i]=x at W h3 D
 have n1:=jD x.Id;have n2:=jD x.Pid;have n3:=jD x.Code
 have e1:=oW (F:=F+70) (l:=[x.Term.S.X,x.Term.S.Y,(x.Term.S.Back.length:Int)]) (by simp) (by omega)
 have e2:=gO [x.Term.S.X,x.Term.S.Y,(x.Term.S.Back.length:Int)] (ByteArray.mk #[])
 rw[show(ByteArray.mk #[]).size=0 from rfl]at e2
 simp only[cL,mK]at e2
 have e:(ByteArray.mk #[112,97,110,101,32]).size=5:=rfl
 have H:(ByteArray.mk #[32,108,105,118,101,32]).size=6:=rfl
 have I:(ByteArray.mk #[32,100,111,110,101,32]).size=6:=rfl
 have y4:(ByteArray.mk #[32,119,97,105,116]).size=5:=rfl
 have s1:ByteArray.mk #[112,97,110,101,32]=yC++sp:=rfl
 have s2:ByteArray.mk #[32,108,105,118,101,32]=sp++W2++sp:=rfl
 have s3:ByteArray.mk #[32,100,111,110,101,32]=sp++W0++sp:=rfl
 have s4:ByteArray.mk #[32,119,97,105,116]=sp++W3:=rfl
 have z:uK x=j7 (M9 (yC++sp++gC x.Id) x) [x.Term.S.X,x.Term.S.Y,(x.Term.S.Back.length:Int)]++nl:=rfl
 unfold M9 at z
 unfold nO
 simp only[h1,br_t,aE h2,h3,bd_s,show ByteArray.mk #[10]=nl from rfl,e,H,I,y4,z2]
 rw[aE (by omega),mQ x.Id (by omega),bd_s,aE (by simp only[aH,e];omega)]
 by_cases M:x.Life=1
 ·rw[if_pos M]at z
  rw[show(x.Life==1)=true by simp[M],br_t,aE (by simp only[aH,e];omega),mQ x.Pid (by omega),bd_s,aE (by simp only[aH,e,H];omega),bd_s]
  simp only
  rw[e1,bd_s,aE (by simp only[aH,e,H];omega),aE (by simp only[aH,e,H];omega),h5,aE h4,D,s1,s2,z,<-pN (yC++sp++gC x.Id++sp++W2++sp++gC x.Pid)]
  simp only[dR]
 ·rw[if_neg M]at z
  rw[show(x.Life==1)=false by simp[M],br_f]
  by_cases R:x.Life=2
  ·rw[if_pos R]at z
   rw[show(x.Life==2)=true by simp[R],br_t,aE (by simp only[aH,e];omega),mQ x.Code (by omega),bd_s,aE (by simp only[aH,e,I];omega),bd_s]
   simp only
   rw[e1,bd_s,aE (by simp only[aH,e,I];omega),aE (by simp only[aH,e,I];omega),h5,aE h4,D,s1,s3,z,<-pN (yC++sp++gC x.Id++sp++W0++sp++gC x.Code)]
   simp only[dR]
  ·rw[if_neg R]at z
   rw[show(x.Life==2)=false by simp[R],br_f,aE (by simp only[aH,e];omega),bd_s]
   simp only
   rw[e1,bd_s,aE (by simp only[aH,e,y4];omega),aE (by simp only[aH,e,y4];omega),h5,aE h4,D,s1,s4,z,<-pN (yC++sp++gC x.Id++sp++W3)]
   simp only[dR]
theorem aBR (h:sW s=true):∀w∈s.Wins,uM w.Tree=true:=fun w e=>by
 unfold sW at h
 simp only[aB,dC,VL]at h
 obtain⟨i,z⟩:=bD e
 exact CM (h.2.2.2.2.1.1 i w z).1
theorem SO (h:SG F s) (e:sW s=true):xW (F+70) s=some (TA s):=by
 have z:=MI h
 have D:=TL h
 unfold xW
 rw[aDI h,bd_s]
 simp only
 rw[aF0 h (aBR e) (by omega),bd_s]
 simp only
 rw[aDA h (by omega),bd_s]
 rfl
theorem aJw {s:lE} (h:Z3 s=true) (e:s.Up=true):sW s.St=true:=by
 unfold Z3 at h
 rw[e,br_t,aB,aB]at h
 first|exact h.2.1|(simp only[aB]at h;exact h.2.1)
theorem ZL {s:lE} (h:SvF F s) (D:s.Tab.Asked.length<=1048576):AQ (F+70) s=some (F2 s):=by
 have R:=h.d.fu
 unfold AQ F2
 rw[aBu h,bd_s]
 cases W:Z3 s with
 | false=>rfl
 | true=>
  rw[aM,br_f,br_t]
  cases H:s.Up with
  | true=>
   obtain⟨I,M⟩:=aAX (F:=F+70) (w:=wUp) (a:=(tS s.Done:Int)) (b:=s.Sure) (by omega)
   have Y:=FA (w:=wUp) (a:=(tS s.Done:Int)) (b:=s.Sure) (by decide)
   have e4:=NI h.t
   have e5:=VH D (v:=JG wUp (tS s.Done:Int) s.Sure) (by omega)
   have e:=gO [(tS s.Done:Int),s.Sure] (ByteArray.mk #[])
   rw[show(ByteArray.mk #[]).size=0 from rfl]at e
   simp only[cL,mK]at e
   have z:wUp.size=2:=rfl
   rw[br_t,br_t,bd_s]
   simp only
   rw[xQ h.hl (by omega),bd_s,I,bd_s,show ByteArray.mk #[117,112]=wUp from rfl,show ByteArray.mk #[10]=nl from rfl,aE (by omega),aE (by simp only[aH,z,z2];omega),M,VI D (by omega) (by omega),bd_s]
   simp only[H,br_t]
   rw[SO h.t (aJw W H),bd_s,aE (by omega),bd_s]
  | false=>
   obtain⟨I,M⟩:=aAX (F:=F+70) (w:=NJ) (a:=(tS s.Done:Int)) (b:=s.Sure) (by omega)
   have Y:=FA (w:=NJ) (a:=(tS s.Done:Int)) (b:=s.Sure) (by decide)
   have e:=gO [(tS s.Done:Int),s.Sure] (ByteArray.mk #[])
   rw[show(ByteArray.mk #[]).size=0 from rfl]at e
   simp only[cL,mK]at e
   have z:NJ.size=4:=rfl
   rw[br_f,br_f,bd_s]
   simp only
   rw[xQ h.hl (by omega),bd_s,I,bd_s,show ByteArray.mk #[100,111,119,110]=NJ from rfl,show ByteArray.mk #[10]=nl from rfl,aE (by omega),aE (by simp only[aH,z,z2];omega),M,VI D (by omega) (by omega),bd_s]
   simp only[H,br_f,bd_s]
theorem aFy (s:OV) (I:A8 9223372036854775807 (EY s)):sN 20000100 s=some true:=by
 unfold sN
 obtain⟨M,R,W⟩:=aJH (fuel:=20000100) (x:=s) (by omega) I
 rw[R]
 simp only[bd_s]
 by_cases z:M<0
 ·rw[jA z];rfl
 rw[iM z]
 simp only[br_f]
 obtain⟨e,D⟩:=W (by omega)
 have H:(EY s).Tab.Asked.length<=1048576:=e.2.2.2.2.1.2.1
 have Y:=aLp (fuel:=20000100) (x:=s) (by omega) e
 have e3:AQ 20000100 (EY s)=some (F2 (EY s)):=ZL D H
 have e4:y8 20000100 (EY s)=some (F2 (EY s)):=ZC D H
 have e5:=aKZ (fuel:=20000100) (x:=EY s) (by omega) (e.mono (by omega))
 simp only[Y,e3,e4,bd_s,e5,aM,br_f,decide_true]
open Go.RowKit
def LO:Nat->d4->Prop
 | 0,_=>True
 | _+1,.sc v=>sD v
 | n+1,.nest _ l=>l.length<=9223372036854775807/\∀x∈l,∀lf∈aG x,LO n lf
theorem aEk {S:Nat->Prop} {w:World}:∀(n:Nat) {lf:d4} {u:Value},mY S w lf u->LO n lf
 | 0,_,_,_=>trivial
 | n+1,.sc v,u,h=>h.2
 | n+1,.nest k l,u,h=>by
  obtain⟨a,cap,_,h1,H,I⟩:=wY.open h
  refine⟨H,fun x M lf z=> ?_⟩
  obtain⟨i,D⟩:=bD M
  obtain⟨j,R⟩:=bD z
  obtain⟨b,off,_,_,W⟩:=I (by intro e;subst e;simp at D)
  obtain⟨u',_,Y⟩:=W i x D j lf R
  exact aEk n Y
theorem aJe {S:Nat->Prop} {w:World} {lfs:List d4} {us:List Value} (n:Nat) (h:bC (mY S w) lfs us):∀lf∈lfs,LO n lf:=fun lf e=>by
 obtain⟨i,z⟩:=bD e
 obtain⟨u,_,D⟩:=h.get i lf z
 exact aEk n D
theorem aI9 {p:K2} (h:∀lf∈aG (k:= .lRow) p,LO (n+1) lf):qB 9223372036854775807 (EX p):=(show(p.Cells.map G4).length<=_ by rw[aP];exact(h (.nest .lCell p.Cells) (by simp[aG])).1)
theorem aAQ {p:yR} (h:∀lf∈aG (k:= .lPane) p,LO (n+2) lf):lZ 9223372036854775807 (xY p):=⟨h (.sc (.string p.Cmd)) (by simp[aG]),h (.sc (.string p.Dir)) (by simp[aG]),⟨⟨(h (.nest .int p.Term.P.Args) (by simp[aG])).1,(h (.nest .u8 p.Term.P.Part) (by simp[aG])).1⟩,⟨(show(p.Term.S.Main.Cells.map G4).length<=_ by rw[aP];exact(h (.nest .lCell p.Term.S.Main.Cells) (by simp[aG])).1),(show(p.Term.S.Alt.Cells.map G4).length<=_ by rw[aP];exact(h (.nest .lCell p.Term.S.Alt.Cells) (by simp[aG])).1),(h (.nest .int p.Term.S.Tabs) (by simp[aG])).1,(show(p.Term.S.Back.map EX).length<=_ by rw[aP];exact(h (.nest .lRow p.Term.S.Back) (by simp[aG])).1),fun y e=>by obtain⟨z,D,rfl⟩:=List.mem_map.1 e;exact aI9 (n:=n+0) ((h (.nest .lRow p.Term.S.Back) (by simp[aG])).2 z D)⟩⟩⟩
theorem aEa {p:F9} (h:∀lf∈aG (k:= .lWin) p,LO (n+1) lf):nF 9223372036854775807 (wZ p):=⟨h (.sc (.string p.Name)) (by simp[aG]),(show(p.Tree.map TF).length<=_ by rw[aP];exact(h (.nest .lNode p.Tree) (by simp[aG])).1)⟩
theorem aAR {p:uJ} (h:∀lf∈aG (k:= .lSess) p,LO (n+1) lf):kP 9223372036854775807 (oX p):=⟨h (.sc (.string p.Name)) (by simp[aG]),(h (.nest .int p.Wins) (by simp[aG])).1⟩
theorem aAO {p:yO} (h:∀lf∈aG (k:= .lFile) p,LO (n+1) lf):mV 9223372036854775807 (sC p):=(h (.nest .u8 p.Body) (by simp[aG])).1
theorem aAP {p:yQ} (h:∀lf∈aG (k:= .lLink) p,LO (n+1) lf):mW 9223372036854775807 (uL p):=h (.sc (.string p.Name)) (by simp[aG])
theorem aAS {p:yS} (h:∀lf∈aG (k:= .lTurn) p,LO (n+1) lf):mX 9223372036854775807 (xZ p):=⟨h (.sc (.string p.Name)) (by simp[aG]),h (.sc (.string p.To)) (by simp[aG])⟩
theorem aI8 {p:K1} (h:∀lf∈aG (k:= .lAsk) p,LO (n+1) lf):pY 9223372036854775807 (MM p):=⟨h (.sc (.string p.Cmd)) (by simp[aG]),h (.sc (.string p.Dir)) (by simp[aG])⟩
theorem aHn {p:yP} (h:∀lf∈aG (k:= .lHist) p,LO (n+1) lf):lY 9223372036854775807 (wV p):=⟨h (.sc (.string p.Op.Name)) (by simp[aG]),h (.sc (.string p.Op.Text)) (by simp[aG]),h (.sc (.string p.Op.Dir)) (by simp[aG]),(h (.nest .u8 p.Op.Data) (by simp[aG])).1⟩
theorem aJa {p:OV} (h:∀lf∈aG (k:= .lSrv) p,LO (n+3) lf):A8 9223372036854775807 (EY p):=⟨⟨(show(p.Base.Panes.map xY).length<=_ by rw[aP];exact(h (.nest .lPane p.Base.Panes) (by simp[aG])).1),fun y e=>by obtain⟨z,D,rfl⟩:=List.mem_map.1 e;exact aAQ (n:=n+0) ((h (.nest .lPane p.Base.Panes) (by simp[aG])).2 z D),(show(p.Base.Wins.map wZ).length<=_ by rw[aP];exact(h (.nest .lWin p.Base.Wins) (by simp[aG])).1),fun y e=>by obtain⟨z,D,rfl⟩:=List.mem_map.1 e;exact aEa (n:=n+1) ((h (.nest .lWin p.Base.Wins) (by simp[aG])).2 z D),(show(p.Base.Sess.map oX).length<=_ by rw[aP];exact(h (.nest .lSess p.Base.Sess) (by simp[aG])).1),fun y e=>by obtain⟨z,D,rfl⟩:=List.mem_map.1 e;exact aAR (n:=n+1) ((h (.nest .lSess p.Base.Sess) (by simp[aG])).2 z D)⟩,⟨(show(p.St.Panes.map xY).length<=_ by rw[aP];exact(h (.nest .lPane p.St.Panes) (by simp[aG])).1),fun y e=>by obtain⟨z,D,rfl⟩:=List.mem_map.1 e;exact aAQ (n:=n+0) ((h (.nest .lPane p.St.Panes) (by simp[aG])).2 z D),(show(p.St.Wins.map wZ).length<=_ by rw[aP];exact(h (.nest .lWin p.St.Wins) (by simp[aG])).1),fun y e=>by obtain⟨z,D,rfl⟩:=List.mem_map.1 e;exact aEa (n:=n+1) ((h (.nest .lWin p.St.Wins) (by simp[aG])).2 z D),(show(p.St.Sess.map oX).length<=_ by rw[aP];exact(h (.nest .lSess p.St.Sess) (by simp[aG])).1),fun y e=>by obtain⟨z,D,rfl⟩:=List.mem_map.1 e;exact aAR (n:=n+1) ((h (.nest .lSess p.St.Sess) (by simp[aG])).2 z D)⟩,⟨(show(p.Dep.Disk.Files.map sC).length<=_ by rw[aP];exact(h (.nest .lFile p.Dep.Disk.Files) (by simp[aG])).1),fun y e=>by obtain⟨z,D,rfl⟩:=List.mem_map.1 e;exact aAO (n:=n+1) ((h (.nest .lFile p.Dep.Disk.Files) (by simp[aG])).2 z D),(show(p.Dep.Disk.Kept.map uL).length<=_ by rw[aP];exact(h (.nest .lLink p.Dep.Disk.Kept) (by simp[aG])).1),fun y e=>by obtain⟨z,D,rfl⟩:=List.mem_map.1 e;exact aAP (n:=n+1) ((h (.nest .lLink p.Dep.Disk.Kept) (by simp[aG])).2 z D),(show(p.Dep.Disk.Turns.map xZ).length<=_ by rw[aP];exact(h (.nest .lTurn p.Dep.Disk.Turns) (by simp[aG])).1),fun y e=>by obtain⟨z,D,rfl⟩:=List.mem_map.1 e;exact aAS (n:=n+1) ((h (.nest .lTurn p.Dep.Disk.Turns) (by simp[aG])).2 z D)⟩,⟨(show(p.Disk.Files.map sC).length<=_ by rw[aP];exact(h (.nest .lFile p.Disk.Files) (by simp[aG])).1),fun y e=>by obtain⟨z,D,rfl⟩:=List.mem_map.1 e;exact aAO (n:=n+1) ((h (.nest .lFile p.Disk.Files) (by simp[aG])).2 z D),(show(p.Disk.Kept.map uL).length<=_ by rw[aP];exact(h (.nest .lLink p.Disk.Kept) (by simp[aG])).1),fun y e=>by obtain⟨z,D,rfl⟩:=List.mem_map.1 e;exact aAP (n:=n+1) ((h (.nest .lLink p.Disk.Kept) (by simp[aG])).2 z D),(show(p.Disk.Turns.map xZ).length<=_ by rw[aP];exact(h (.nest .lTurn p.Disk.Turns) (by simp[aG])).1),fun y e=>by obtain⟨z,D,rfl⟩:=List.mem_map.1 e;exact aAS (n:=n+1) ((h (.nest .lTurn p.Disk.Turns) (by simp[aG])).2 z D)⟩,⟨(show(p.Tab.Live.map WW).length<=_ by rw[aP];exact(h (.nest .lProc p.Tab.Live) (by simp[aG])).1),(show(p.Tab.Asked.map MM).length<=_ by rw[aP];exact(h (.nest .lAsk p.Tab.Asked) (by simp[aG])).1),fun y e=>by obtain⟨z,D,rfl⟩:=List.mem_map.1 e;exact aI8 (n:=n+1) ((h (.nest .lAsk p.Tab.Asked) (by simp[aG])).2 z D)⟩,(show(p.Done.map wV).length<=_ by rw[aP];exact(h (.nest .lHist p.Done) (by simp[aG])).1),fun y e=>by obtain⟨z,D,rfl⟩:=List.mem_map.1 e;exact aHn (n:=n+1) ((h (.nest .lHist p.Done) (by simp[aG])).2 z D)⟩
theorem aJd {P:Program} {f:FuncId} {fn:Func} {c:Code} {E:World->Prop} (I:P.funcs[f]?=some fn) (z:(fn.name== "runtime.NumGoroutine")=false) (D:fn.body=some c) {args:List PV} {us:List Value} {W:World} (M:E W) (h:hO P W.heap.size E f args [] (.v (.bool true)) []) (R:bZ (kN (fun b=>b<W.heap.size) W (kO []) (iF [])) args us []) :
  Calls P f us.toArray W fun e W'=>e= .returned (.bool true)/\Below W.heap.size W W':=by
 refine jQ.calls I z D (jQ.mono (h.2 W (fun b=>b<W.heap.size) us [] [] [] (bB _) M rfl rfl (by simp) (by simp) (fun b D=>⟨D,by simp⟩) R (fun j p cs L Y=>by simp at Y)) ?_)
 rintro e W' ⟨u,Lr,Le',rfl,_,_,_,h5,_,H⟩
 obtain⟨_,rfl,_⟩:=h5
 exact⟨rfl,H.os,H.tape,H.output,H.size,fun b D=>H.old b D (by simp)⟩
theorem aFU {w w':World} (h:aEM w) (D:∀b,b<w.heap.size->w'.heap[b]?=w.heap[b]?):aEM w':=by
 unfold aEM Lib.TabIs World.var? at h⊢
 cases z:Proofs.Tryz.prog.globalNamed "internal/strconv.uint64pow10" with
 | none=>rw[z]at h;cases h
 | some g=>
  rw[z]at h
  simp only[Option.bind_some]at h⊢
  by_cases e:g<w.heap.size
  ·rw[D g e];exact h
  ·rw[Array.getElem?_eq_none (by omega)]at h;cases h
end Go.Px
