/- What a call may hold, as plain values and a store: a small machine over them, the functions of this program as its contracts, and the plain laws: texts QP1 to QT1. -/
import Derived.Test.YtegmckcdakndaaaGreatDoorQD
import Derived.Sort.Walk0
set_option linter.unusedSimpArgs false
set_option linter.unusedVariables false
set_option linter.constructorNameAsVariable false
namespace Go.Px
variable {h next p v w:Int} {O α J:Type} {F i:Nat} {A a f:List Int} {b:Bool} {n:ByteArray} {s:bA} {rest t:List bV} {d:cO} {kept:List aT}
theorem cS (e: -9223372036854775808<=v) (z:v<=9223372036854775807):cN .i64 v:=by
 show(if(true&&decide (v % 18446744073709551616≥9223372036854775808))=true then v % 18446744073709551616-18446744073709551616 else v % 18446744073709551616)=v
 simp only[aK,bN]
 split<;>omega
@[simp] theorem pI_within_eq (fuel:Nat) (a b c:Int):cC fuel a b c=some (decide (b<=a)&&decide (a<=c)):=by
 unfold cC
 by_cases h:b<=a<;>simp[h]
@[simp] theorem pI_isId_eq (fuel:Nat) (a:Int):kK fuel a=some (decide (1<=a)&&decide (a<=1000000)):=by
 unfold kK;simp
@[simp] theorem pI_isCmd_eq (fuel:Nat) (a:ByteArray):tZ fuel a=some (decide ((↑a.size:Int)<=60)):=rfl
def rL (a:Int):Bool:=(decide (32<=a)&&decide (a<=126))||(decide (160<=a)&&decide (a<=65535)&& !(decide (55296<=a)&&decide (a<=57343)))
@[simp] theorem pI_Shows_eq (fuel:Nat) (a:Int):EB fuel a=some (rL a):=by
 unfold EB rL
 simp only[pI_within_eq,bd_s,VN]
 cases decide (32<=a)&&decide (a<=126)<;>cases decide (160<=a)&&decide (a<=65535)<;>simp
@[simp] theorem pS_Shows_eq (fuel:Nat) (a:Int):ES fuel a=some (rL a):=by
 unfold ES rL
 by_cases h1:32<=a<;>by_cases h2:a<=126<;>by_cases h3:160<=a<;>by_cases h4:a<=65535<;>by_cases h5:a<55296<;>simp[h1,h2,h3,h4,h5]<;>(try simp[show¬55296<=a by omega])<;>(try simp[show 55296<=a by omega])<;>(try (by_cases h6:a<=57343<;>simp[h6]<;>omega))<;>(try omega)
def qE (x:oN):Bool:=(decide (0<=x.Fg)&&decide (x.Fg<=8))&&(decide (0<=x.Bg)&&decide (x.Bg<=8))
@[simp] theorem pI_AttrOk_eq (fuel:Nat) (x:oN):pO fuel x=some (qE x):=by
 unfold pO qE
 simp only[pI_within_eq,bd_s]
 cases decide (0<=x.Fg)&&decide (x.Fg<=8)<;>simp
@[simp] theorem pS_AttrOk_eq (fuel:Nat) (x:oN):pS fuel x=some (qE x):=by
 unfold pS qE
 cases decide (0<=x.Fg)<;>cases decide (x.Fg<=8)<;>cases decide (0<=x.Bg)<;>simp
def jC (x:jB):Bool:=rL x.R&&qE x.A
@[simp] theorem pI_CellOk_eq (fuel:Nat) (x:jB):FJ fuel x=some (jC x):=by
 unfold FJ jC
 simp only[pI_Shows_eq,bd_s]
 cases rL x.R<;>simp
@[simp] theorem pS_CellOk_eq (fuel:Nat) (x:jB):AM fuel x=some (jC x):=by
 unfold AM jC
 simp only[pS_Shows_eq,bd_s]
 cases rL x.R<;>simp
theorem aV {l:List α} {x:α} (h:l[i]?=some x) (e:l.length<=9223372036854775807):decide ((i:Int)<(l.length:Int))=true/\((0:Int)<=i/\(i:Int)<(l.length:Int))/\l[(i:Int).toNat]?=some x/\cN .i64 ((i+1:Nat):Int)/\((i:Int)+1=((i+1:Nat):Int)):=by
 have z:=(iR.1 h).1
 exact⟨by simp;omega,⟨by omega,by omega⟩,by simpa using h,cS (by omega) (by omega),by simp⟩
theorem TP (fuel:Nat) (l:List jB) (I:l.length<=9223372036854775807) (M:l.length<fuel):∃n:Int,eD fuel l=some n/\(decide (0<=n)=l.any fun x=> !jC x):=by
 unfold eD
 rcases kZ (B:=dU fuel) (fun i=>(l,(l.length:Int),(i:Int))) l (fun x=> !jC x) (fun i=> .inr (i:Int)) (.inl ()) (fuel:=fuel) (v:=(l,(l.length:Int),0)) rfl (fun i x D=>by
  obtain⟨e,z,H,R,W⟩:=aV D I
  unfold dU yL
  simp only[e,br_t,aE z,H,bd_s,pI_CellOk_eq,W,aE R]
  cases jC x<;>rfl) (by
  unfold dU
  simp) M with⟨i,x,e,z,_,H⟩ |⟨e,z⟩
 ·refine⟨i,by rw[H];rfl,?_⟩
  have:(l.any fun x=> !jC x)=true:=List.any_eq_true.2 ⟨x,tF e,z⟩
  rw[this];simp
 ·refine⟨-1,by rw[z];rfl,?_⟩
  have:(l.any fun x=> !jC x)=false:=List.any_eq_false.2 fun x D=>by rw[e x D];simp
  rw[this];rfl
theorem EC {fuel:Nat} {l:List jB} (e:l.length<=9223372036854775807) (z:l.length<fuel):tX fuel l=some (l.all jC):=by
 obtain⟨n,D,H⟩:=TP fuel l e z
 unfold tX fN
 simp only[D,bd_s,H]
 rw[fB]
theorem LQ {a b:Int} (z:1<=a) (e:a<=120) (D:1<=b) (H:b<=120):0<=a*b/\a*b<=14400:=by
 constructor
 ·exact Int.mul_nonneg (by omega) (by omega)
 ·calc a*b<=120*b:=Int.mul_le_mul_of_nonneg_right e (by omega)
   _<=14400:=by omega
def iB (w h:Int):Bool:=((decide (1<=w)&&decide (w<=120))&&(decide (1<=h)&&decide (h<=120)))&&decide (w*h<=4000)
theorem qJ:iB w h=true↔1<=w/\w<=120/\1<=h/\h<=120/\w*h<=4000:=by
 unfold iB;simp[and_assoc]
@[simp] theorem pI_isSize_eq (fuel:Nat) (w h:Int):zB fuel w h=some (iB w h):=by
 unfold zB iB
 simp only[pI_within_eq,bd_s]
 by_cases h1:1<=w<;>by_cases h2:w<=120<;>by_cases h3:1<=h<;>by_cases h4:h<=120<;>simp[h1,h2,h3,h4]
 have:=LQ h1 h2 h3 h4
 rw[aE (cS (by omega) (by omega))]
 rfl
def lG (x:fY):Bool:=iB x.W x.H&&(((x.Cells.length:Int)==x.W*x.H)&&x.Cells.all jC)
theorem JM {fuel:Nat} {x:fY} (e:x.Cells.length<=9223372036854775807) (z:x.Cells.length<fuel):y5 fuel x=some (lG x):=by
 unfold y5 lG
 simp only[pI_isSize_eq,bd_s,EC e z]
 cases D:iB x.W x.H with
 | false=>simp
 | true=>
  obtain⟨I,M,R,Y,_⟩:=qJ.1 D
  have:=LQ I M R Y
  rw[br_t,aE (cS (by omega) (by omega))]
  cases((x.Cells.length:Int)==x.W*x.H)<;>simp
theorem SJ {fuel:Nat} {l:List jB} (e:l.length<=9223372036854775807) (z:l.length<fuel):aL (rA fuel) fuel (l,(l.length:Int),0)=some (if l.all jC then .inl ()else .inr false):=by
 refine(mP (B:=rA fuel) (fun i=>(l,(l.length:Int),(i:Int))) l (fun x=> !jC x) (.inr false) (.inl ()) (v:=(l,(l.length:Int),0)) rfl (fun i x D=>by
  obtain⟨H,I,M,R,W⟩:=aV D e
  unfold rA
  simp only[H,br_t,aE I,M,bd_s,pS_CellOk_eq,W,aE R]
  cases jC x<;>rfl) (by
  unfold rA
  simp) z).trans ?_
 rw[fB]
 cases l.any fun x=> !jC x<;>rfl
theorem J8 {fuel:Nat} {x:fY} (hl:x.Cells.length<=9223372036854775807) (hf:x.Cells.length<fuel):AN fuel x=some (lG x):=by
 unfold AN lG iB
 by_cases e:x.W<1
 ·simp[e,show¬1<=x.W by omega]
 by_cases z:120<x.W
 ·simp[e,z,show¬x.W<=120 by omega]
 by_cases D:x.H<1
 ·simp[e,z,D,show¬1<=x.H by omega]
 by_cases M:120<x.H
 ·simp[e,z,D,M,show¬x.H<=120 by omega]
 have:=LQ (show 1<=x.W by omega) (show x.W<=120 by omega) (show 1<=x.H by omega) (show x.H<=120 by omega)
 have R:cN .i64 (x.W*x.H):=cS (by omega) (by omega)
 by_cases Y:4000<x.W*x.H
 ·simp[e,z,D,M,Y,aE R,show¬x.W*x.H<=4000 by omega]
 by_cases I:(x.Cells.length:Int)=x.W*x.H
 ·simp only[e,z,D,M,Y,decide_false,br_f,aE R,bd_s,I,bne_self_eq_false]
  rw[<-I,SJ hl hf]
  generalize x.Cells.all jC=c
  simp[show 1<=x.W by omega,show x.W<=120 by omega,show 1<=x.H by omega,show x.H<=120 by omega,show x.W*x.H<=4000 by omega,I]
  cases c<;>rfl
 ·have hb:((x.Cells.length:Int) !=x.W*x.H)=true:=by simp[I]
  simp[e,z,D,M,Y,I,hb,aE R,show 1<=x.W by omega,show x.W<=120 by omega,show 1<=x.H by omega,show x.H<=120 by omega,show x.W*x.H<=4000 by omega]
theorem R8 {fuel:Nat} {g:fY} {x y:Int} (e:iB g.W g.H=true):tT fuel g x y=some ((decide (0<=x)&&decide (x<=g.W-1))&&(decide (0<=y)&&decide (y<=g.H-1))):=by
 obtain⟨z,D,I,M,_⟩:=qJ.1 e
 unfold tT
 rw[aE (cS (by omega) (by omega))]
 simp only[pI_within_eq,bd_s,aE (cS (v:=g.H-1) (by omega) (by omega))]
 cases(decide (0<=x)&&decide (x<=g.W-1))<;>simp
def aCl (l : List Int) (lo hi : Int) (i : Nat) (x : Int) : Bool := !(decide (lo <= x) && decide (x <= hi)) || (match i with
 | 0 => false
 | j + 1 => match l[j]? with
  | some y => decide (x <= y)
  | none => false)
def aCk (l:List Int) (lo hi:Int):Bool:= !(l.zipIdx.any fun p=>aCl l lo hi p.2 p.1)
theorem IJ {l:List α} {j:Nat} {x:α} (h:l[j+1]?=some x) (z:l.length<=9223372036854775807):∃y,l[j]?=some y/\decide ((0:Int)<((j+1:Nat):Int))=true/\cN .i64 (((j+1:Nat):Int)-1)/\((0:Int)<=((j+1:Nat):Int)-1/\((j+1:Nat):Int)-1<(l.length:Int))/\l[(((j+1:Nat):Int)-1).toNat]?=some y:=by
 have D:=(iR.1 h).1
 have e:(((j+1:Nat):Int)-1).toNat=j:=by omega
 exact⟨l[j]'(by omega),iD (by omega),jA (by omega),cS (by omega) (by omega),⟨by omega,by omega⟩,by rw[e];exact iD (by omega)⟩
theorem JT {fuel:Nat} {l:List Int} {lo e:Int} (z:l.length<=9223372036854775807) (H:l.length<fuel):qS fuel l lo e=some (aCk l lo e):=by
 have h:=BH (B:=nB fuel) (fun i=>(l,lo,e,l,(l.length:Int),(i:Int))) l (aCl l lo e) (.inr false) (.inl ()) (v:=(l,lo,e,l,(l.length:Int),0)) rfl (fun i x D=>by
  obtain⟨I,M,R,W,Y⟩:=aV D z
  unfold nB aCl
  simp only[I,br_t,aE M,R,bd_s,pI_within_eq]
  cases hw:(decide (lo<=x)&&decide (x<=e))with
  | false=>simp
  | true=>
   cases i with
   | zero=>simp only[aM,br_f];simp[aE (cS (v:=1) (by omega) (by omega))]
   | succ j=>
    obtain⟨y,p1,p2,p3,p4,p5⟩:=IJ D z
    simp only[aM,br_f,p2,br_t,aE p3,aE p4,p5,bd_s,p1,b9,Y,aE W]
    cases decide (x<=y)<;>rfl) (by
  unfold nB
  simp) H
 unfold qS aCk
 rw[h]
 cases l.zipIdx.any fun p=>aCl l lo e p.2 p.1<;>rfl
def l9 (x:pX):Bool:=(decide (1<=(x.Cells.length:Int))&&decide ((x.Cells.length:Int)<=120))&&x.Cells.all jC
theorem SA {fuel:Nat} {x:pX} (e:x.Cells.length<=9223372036854775807) (z:x.Cells.length<fuel):xK fuel x=some (!l9 x):=by
 unfold xK l9
 simp only[pI_within_eq,bd_s,EC e z]
 cases(decide (1<=(x.Cells.length:Int))&&decide ((x.Cells.length:Int)<=120))<;>simp
theorem aAn (fuel:Nat) (l:List pX) (I:l.length<=9223372036854775807) (M:l.length<fuel) (R:∀x∈l,x.Cells.length<=9223372036854775807/\x.Cells.length<fuel):∃n:Int,fC fuel l=some n/\(decide (0<=n)=l.any fun x=> !l9 x):=by
 unfold fC
 rcases kZ (B:=eF fuel) (fun i=>(l,(l.length:Int),(i:Int))) l (fun x=> !l9 x) (fun i=> .inr (i:Int)) (.inl ()) (fuel:=fuel) (v:=(l,(l.length:Int),0)) rfl (fun i x D=>by
  obtain⟨e,z,H,W,Y⟩:=aV D I
  obtain⟨r1,r2⟩:=R x (tF D)
  unfold eF
  simp only[e,br_t,aE z,H,bd_s,SA r1 r2,Y,aE W]
  cases l9 x<;>rfl) (by
  unfold eF
  simp) M with⟨i,x,e,z,_,H⟩ |⟨e,z⟩
 ·refine⟨i,by rw[H];rfl,?_⟩
  have:(l.any fun x=> !l9 x)=true:=List.any_eq_true.2 ⟨x,tF e,z⟩
  rw[this];simp
 ·refine⟨-1,by rw[z];rfl,?_⟩
  have:(l.any fun x=> !l9 x)=false:=List.any_eq_false.2 fun x D=>by rw[e x D];simp
  rw[this];rfl
theorem ZF {fuel:Nat} {l:List pX} {n:Int} (e:l.length<=9223372036854775807) (z:l.length<fuel) (D:∀x∈l,x.Cells.length<=9223372036854775807/\x.Cells.length<fuel):FM fuel l n=some (decide ((l.length:Int)<=n)&&l.all l9):=by
 obtain⟨m,H,I⟩:=aAn fuel l e z D
 unfold FM gD
 simp only[H,bd_s,I]
 rw[fB]
 cases decide ((l.length:Int)<=n)<;>simp
theorem ZR {fuel:Nat} {x:pX} (z:x.Cells.length<=9223372036854775807) (D:x.Cells.length<fuel):FX fuel x=some (l9 x):=by
 have h:=mP (B:=vB fuel) (fun i=>(x,x.Cells,(x.Cells.length:Int),(i:Int))) x.Cells (fun c=> !jC c) (.inr false) (.inl x) (v:=(x,x.Cells,(x.Cells.length:Int),0)) rfl (fun i c H=>by
  obtain⟨e,I,M,R,W⟩:=aV H z
  unfold vB
  simp only[e,br_t,aE I,M,bd_s,pS_CellOk_eq,W,aE R]
  cases jC c<;>rfl) (by
  unfold vB
  simp) D
 unfold FX l9
 rw[h,fB]
 cases(x.Cells.any fun c=> !jC c)<;>by_cases e:1<=(x.Cells.length:Int)<;>simp[e]
theorem ZO {fuel:Nat} {l:List pX} (z:l.length<=9223372036854775807) (D:l.length<fuel) (H:∀x∈l,x.Cells.length<=9223372036854775807/\x.Cells.length<fuel):aL (uA fuel) fuel (l,(l.length:Int),0)=some (if l.all l9 then .inl ()else .inr false):=by
 refine(mP (B:=uA fuel) (fun i=>(l,(l.length:Int),(i:Int))) l (fun x=> !l9 x) (.inr false) (.inl ()) (v:=(l,(l.length:Int),0)) rfl (fun i x e=>by
  obtain⟨I,M,R,W,Y⟩:=aV e z
  obtain⟨r1,r2⟩:=H x (tF e)
  unfold uA
  simp only[I,br_t,aE M,R,bd_s,ZR r1 r2,Y,aE W]
  cases l9 x<;>rfl) (by
  unfold uA
  simp) D).trans ?_
 rw[fB]
 cases l.any fun x=> !l9 x<;>rfl
theorem ZS {fuel:Nat} {s:nG} (D:s.Tabs.length<=9223372036854775807) (M:s.Tabs.length<fuel):aL (t8 fuel) fuel (s,s.Tabs,(s.Tabs.length:Int),0)=some (if aCk s.Tabs 0 (s.W-1)then .inl s else .inr false):=by
 have h:=BH (B:=t8 fuel) (fun i=>(s,s.Tabs,(s.Tabs.length:Int),(i:Int))) s.Tabs (aCl s.Tabs 0 (s.W-1)) (.inr false) (.inl s) (v:=(s,s.Tabs,(s.Tabs.length:Int),0)) rfl (fun i x H=>by
  obtain⟨R,Y,h3,h4,h5⟩:=aV H D
  unfold t8 aCl
  simp only[R,br_t,aE Y,h3,bd_s]
  by_cases e:x<0
  ·simp[e,show¬0<=x by omega]
  by_cases z:s.W<=x
  ·simp[e,z,show¬x<=s.W-1 by omega]
  have I:(decide (0<=x)&&decide (x<=s.W-1))=true:=by simp;omega
  cases i with
  | zero=>simp only[e,z,I,decide_false,br_f];simp[aE (cS (v:=1) (by omega) (by omega))]
  | succ j=>
   obtain⟨y,p1,p2,p3,p4,p5⟩:=IJ H D
   simp only[e,z,I,decide_false,br_f,p2,br_t,aE p3,aE p4,p5,bd_s,p1,aM,b9,h5,aE h4]
   cases decide (x<=y)<;>rfl) (by
  unfold t8
  simp) M
 rw[h]
 unfold aCk
 cases s.Tabs.zipIdx.any fun p=>aCl s.Tabs 0 (s.W-1) p.2 p.1<;>rfl
def aCV (w h x y:Int):Bool:=(decide (0<=x)&&decide (x<=w-1))&&(decide (0<=y)&&decide (y<=h-1))
def BG (s:nG):Bool:=[s.Main,s.Alt].all fun g=>lG g&&((g.W==s.W)&&(g.H==s.H))
def S4 (s:nG):Bool:=
 aCV s.W s.H s.X s.Y&&(aCV s.W s.H s.SaveX s.SaveY&&((!s.Wrap||s.X==s.W-1)&&(qE s.A&&(qE s.SaveA&&(decide (0<=s.Top)&&(decide (s.Top<=s.Bot)&&(decide (s.Bot<s.H)&&((!(s.Top==s.Bot)||s.H==1) &&
 (aCk s.Tabs 0 (s.W-1)&&((decide (0<=s.Limit)&&decide (s.Limit<=100))&&(decide ((s.Back.length:Int)<=s.Limit)&&s.Back.all l9)))))))))))
def S0 (s:nG):Bool:=BG s&&S4 s
structure aEK (fuel:Nat) (s:nG):Prop where
 m:s.Main.Cells.length<=9223372036854775807/\s.Main.Cells.length<fuel
 a:s.Alt.Cells.length<=9223372036854775807/\s.Alt.Cells.length<fuel
 t:s.Tabs.length<=9223372036854775807/\s.Tabs.length<fuel
 b:s.Back.length<=9223372036854775807/\s.Back.length<fuel
 r:∀x∈s.Back,x.Cells.length<=9223372036854775807/\x.Cells.length<fuel
 f:2<fuel
theorem U1 {fuel:Nat} {s:nG} (e:aEK fuel s):aL (tW fuel) fuel (s,[s.Main,s.Alt],((2:Nat):Int),0)=some (if BG s then .inl s else .inr false):=by
 have h:=mP (B:=tW fuel) (fun i=>(s,[s.Main,s.Alt],((2:Nat):Int),(i:Int))) [s.Main,s.Alt] (fun g=> !(lG g&&((g.W==s.W)&&(g.H==s.H)))) (.inr false) (.inl s) (v:=(s,[s.Main,s.Alt],((2:Nat):Int),0)) rfl (fun i g M=>by
  obtain⟨z,h2,D,h4,h5⟩:=aV M (by simp)
  have z:decide ((i:Int)<((2:Nat):Int))=true:=z
  have D:[s.Main,s.Alt][0+(i:Int).toNat]?=some g:=by rw[bP];exact D
  have hg:y5 fuel g=some (lG g):=by
   have R:=tF M
   simp at R
   rcases R with rfl|rfl
   ·exact JM e.m.1 e.m.2
   ·exact JM e.a.1 e.a.2
  unfold tW
  simp only[z,br_t,aE h2,D,bd_s,hg]
  cases lG g
  ·simp
  ·cases I:(g.W==s.W)
   ·simp[bne,I]
   ·cases Y:(g.H==s.H)
    ·simp[bne,I,Y]
    ·simp only[bne,I,Y,aM,br_f,bd_s,h5,aE h4];rfl) (by
  unfold tW
  simp) e.f
 rw[h]
 unfold BG
 rw[fB]
 cases([s.Main,s.Alt].any fun g=> !(lG g&&((g.W==s.W)&&(g.H==s.H))))<;>rfl
theorem M4 {s:nG} (h:BG s=true):iB s.W s.H=true/\s.Main.W=s.W/\s.Main.H=s.H/\s.Alt.W=s.W/\s.Alt.H=s.H/\lG s.Main=true/\lG s.Alt=true:=by
 unfold BG at h
 simp at h
 obtain⟨⟨e,z,D⟩,I,M,R⟩:=h
 refine⟨?_,z,D,M,R,e,I⟩
 unfold lG at e
 rw[aB]at e
 rw[<-z,<-D];exact e.1
theorem aBm {fuel:Nat} {s:nG} (e:aEK fuel s):JO fuel s=some (S0 s):=by
 unfold JO S0
 have:=U1 e
 rw[show((↑2:Int))=((2:Nat):Int)from rfl]at *
 rw[this]
 cases hg:BG s with
 | false=>rfl
 | true=>
  obtain⟨z,R,e2,e3,e4,g1,g2⟩:=M4 hg
  obtain⟨z1,z2,z3,z4,_⟩:=qJ.1 z
  have zm:iB s.Main.W s.Main.H=true:=by rw[R,e2];exact z
  have k1:cN .i64 (s.W-1):=cS (by omega) (by omega)
  simp only[if_true,jn_l,R8 zm,R,e2,bd_s,pI_AttrOk_eq,aE k1,JT e.t.1 e.t.2,pI_within_eq,ZF e.b.1 e.b.2 e.r,aK,DT,GI]
  unfold S4
  rw[show((decide (0<=s.X)&&decide (s.X<=s.W-1))&&(decide (0<=s.Y)&&decide (s.Y<=s.H-1)))=aCV s.W s.H s.X s.Y from rfl,show((decide (0<=s.SaveX)&&decide (s.SaveX<=s.W-1))&&(decide (0<=s.SaveY)&&decide (s.SaveY<=s.H-1)))=aCV s.W s.H s.SaveX s.SaveY from rfl]
  generalize aCV s.W s.H s.X s.Y=p1
  generalize aCV s.W s.H s.SaveX s.SaveY=p2
  generalize qE s.A=p4
  generalize qE s.SaveA=p5
  generalize aCk s.Tabs 0 (s.W-1)=D
  generalize (decide ((s.Back.length:Int)<=s.Limit)&&s.Back.all l9)=p12
  generalize (decide (0<=s.Limit)&&decide (s.Limit<=100))=I
  simp only[bne]
  generalize (s.X==s.W-1)=p3
  generalize (s.H==1)=p9
  generalize (s.Top==s.Bot)=M
  cases p1;· simp
  cases p2;· simp
  have q6:decide (s.Top<0)= !decide (0<=s.Top):=by by_cases h:0<=s.Top<;>simp[h]<;>omega
  have q7:decide (s.Bot<s.Top)= !decide (s.Top<=s.Bot):=by by_cases h:s.Top<=s.Bot<;>simp[h]<;>omega
  have q8:decide (s.H<=s.Bot)= !decide (s.Bot<s.H):=by by_cases h:s.Bot<s.H<;>simp[h]<;>omega
  rw[q6,q7,q8]
  generalize decide (0<=s.Top)=p6
  generalize decide (s.Top<=s.Bot)=p7
  generalize decide (s.Bot<s.H)=p8
  generalize s.Wrap=wr
  cases wr<;>cases p3<;>cases p4<;>cases p5<;>cases p6<;>cases p7<;>cases p8<;>cases M<;>cases p9<;>cases D<;>cases I<;>rfl
theorem aBt {fuel:Nat} {s:nG} (e:aEK fuel s):KB fuel s=some (S0 s):=by
 unfold KB S0
 simp only[J8 e.m.1 e.m.2,J8 e.a.1 e.a.2,bd_s,DT,GI]
 have hx:(br (!lG s.Main) true (br (!lG s.Alt) true (br (s.Main.W !=s.W) true (br (s.Main.H !=s.H) true (br (s.Alt.W !=s.W) true (s.Alt.H !=s.H))))))= !BG s:=by
  unfold BG
  simp only[cI,gL,bne]
  cases lG s.Main<;>cases lG s.Alt<;>cases(s.Main.W==s.W)<;>cases(s.Main.H==s.H)<;>cases(s.Alt.W==s.W)<;>cases(s.Alt.H==s.H)<;>rfl
 rw[hx]
 cases hg:BG s with
 | false=>rfl
 | true=>
  obtain⟨z,-⟩:=M4 hg
  obtain⟨z1,z2,z3,z4,_⟩:=qJ.1 z
  have k1:cN .i64 (s.W-1):=cS (by omega) (by omega)
  simp only[aM,br_f,aE k1,pS_AttrOk_eq,bd_s,DT,GI,ZS e.t.1 e.t.2,aK]
  unfold S4 aCV
  have n1:∀x:Int,decide (x<0)= !decide (0<=x):=fun x=>by by_cases h:0<=x<;>simp[h]<;>omega
  have n2:∀x:Int,decide (s.W<=x)= !decide (x<=s.W-1):=fun x=>by by_cases h:x<=s.W-1<;>simp[h]<;>omega
  have n3:∀x:Int,decide (s.H<=x)= !decide (x<=s.H-1):=fun x=>by by_cases h:x<=s.H-1<;>simp[h]<;>omega
  have n4:decide (s.Bot<s.Top)= !decide (s.Top<=s.Bot):=by by_cases h:s.Top<=s.Bot<;>simp[h]<;>omega
  have n5:decide (s.Bot<s.H)=decide (s.Bot<=s.H-1):=by by_cases h:s.Bot<s.H<;>simp[h]<;>omega
  have n6:decide (100<s.Limit)= !decide (s.Limit<=100):=by by_cases h:s.Limit<=100<;>simp[h]<;>omega
  have n7:decide (s.Limit<(s.Back.length:Int))= !decide ((s.Back.length:Int)<=s.Limit):=by by_cases h:(s.Back.length:Int)<=s.Limit<;>simp[h]<;>omega
  simp only[n1,n2,n3,n4,n5,n6,n7,bne]
  generalize decide (0<=s.X)=a1
  generalize decide (s.X<=s.W-1)=a2
  generalize decide (0<=s.Y)=a3
  generalize decide (s.Y<=s.H-1)=a4
  generalize decide (0<=s.SaveX)=M
  generalize decide (s.SaveX<=s.W-1)=R
  generalize decide (0<=s.SaveY)=a7
  generalize decide (s.SaveY<=s.H-1)=a8
  generalize qE s.A=b1
  generalize qE s.SaveA=b2
  generalize (s.X==s.W-1)=b3
  generalize (s.H==1)=b4
  generalize (s.Top==s.Bot)=b5
  generalize decide (0<=s.Top)=b6
  generalize decide (s.Top<=s.Bot)=b7
  generalize decide (s.Bot<=s.H-1)=b8
  generalize decide (0<=s.Limit)=D
  generalize decide (s.Limit<=100)=I
  generalize decide ((s.Back.length:Int)<=s.Limit)=c2
  generalize aCk s.Tabs 0 (s.W-1)=c3
  have e1:(br (!a1) true (br (!a2) true (br (!a3) true (br (!a4) true (br s.Wrap (br (!b3) true (br (!M) true (br (!R) true (br (!a7) true (br (!a8) true (br (!b1) true (!b2))))))) (br (!M) true (br (!R) true (br (!a7) true (br (!a8) true (br (!b1) true (!b2)))))))))))
    = !(((a1&&a2)&&(a3&&a4))&&(((M&&R)&&(a7&&a8))&&((!s.Wrap||b3)&&(b1&&b2)))):=by
   generalize s.Wrap=w
   cases a1<;>cases a2<;>cases a3<;>cases a4<;>try rfl
   cases w<;>cases b3<;>cases M<;>cases R<;>cases a7<;>cases a8<;>cases b1<;>rfl
  rw[e1]
  generalize ((!s.Wrap||b3))=w
  have e2:(((a1&&a2)&&(a3&&a4))&&(((M&&R)&&(a7&&a8))&&(w&&(b1&&(b2&&(b6&&(b7&&(b8&&((!b5||b4)&&(c3&&((D&&I)&&(c2&&s.Back.all l9))))))))))))=((((a1&&a2)&&(a3&&a4))&&(((M&&R)&&(a7&&a8))&&(w&&(b1&&b2))))&&((b6&&(b7&&(b8&&((!b5||b4)&&(D&&(I&&c2))))))&&(c3&&s.Back.all l9))):=by
   simp only[Bool.and_assoc]
   cases c3<;>cases D<;>cases I<;>cases c2<;>simp
  rw[e2]
  generalize (((a1&&a2)&&(a3&&a4))&&(((M&&R)&&(a7&&a8))&&(w&&(b1&&b2))))=m
  cases m;· rfl
  simp only[aM,br_f,bd_s,DT,GI]
  have e3:(br (!b6) true (br (!b8) true (br (!b7) true (br b5 (br (!b4) true (br (!D) true (br (!I) true (!c2)))) (br (!D) true (br (!I) true (!c2)))))))= !(b6&&(b7&&(b8&&((!b5||b4)&&(D&&(I&&c2)))))):=by
   cases b6<;>cases b8<;>cases b7<;>cases b5<;>cases b4<;>cases D<;>cases I<;>rfl
  rw[e3]
  generalize (b6&&(b7&&(b8&&((!b5||b4)&&(D&&(I&&c2))))))=m2
  cases m2;· rfl
  simp only[aM,br_f,bd_s]
  cases c3;· rfl
  simp only[if_true,jn_l,ZO e.b.1 e.b.2 e.r]
  cases s.Back.all l9<;>rfl
theorem XK {l:List α} {x y:Option J} {r:J} (e:y=some r) (z:l=[]->x=some r):aAx l x y=some r:=by
 unfold aAx
 cases l with
 | nil=>rw[z rfl,e];simp
 | cons a l=>simp[e]
theorem K6 {fuel:Nat} {l:List Int} (h:cR K.int l.length):iJ fuel l=some l:=by
 unfold iJ
 refine XK (by rw[cV,aE h]) fun e=>by rw[e]
theorem mN {fuel:Nat} {l:List Int} {n:Int} (e:l.length<=9223372036854775807) (z:l.length<fuel):dP fuel l n=some (l.any fun x=>x==n):=by
 have h:=mP (B:=pC fuel) (fun i=>(n,l,(l.length:Int),(i:Int))) l (fun x=>x==n) (.inr true) (.inl ()) (v:=(n,l,(l.length:Int),0)) rfl (fun i x D=>by
  obtain⟨H,I,M,R,W⟩:=aV D e
  unfold pC
  simp only[H,br_t,aE I,M,bd_s,W,aE R]
  cases x==n<;>rfl) (by
  unfold pC
  simp) z
 unfold dP
 rw[h]
 cases l.any fun x=>x==n<;>rfl
def G7 (x:Int):Bool:=decide (0<=x)&&decide (x<=9999)
theorem W8 (fuel:Nat) (l:List Int) (I:l.length<=9223372036854775807) (M:l.length<fuel):∃n:Int,fD fuel l=some n/\(decide (0<=n)=l.any fun x=> !G7 x):=by
 unfold fD
 rcases kZ (B:=eG fuel) (fun i=>(l,(l.length:Int),(i:Int))) l (fun x=> !G7 x) (fun i=> .inr (i:Int)) (.inl ()) (fuel:=fuel) (v:=(l,(l.length:Int),0)) rfl (fun i x D=>by
  obtain⟨e,z,H,R,W⟩:=aV D I
  unfold eG BT G7
  simp only[e,br_t,aE z,H,bd_s,pI_within_eq,W,aE R]
  cases(decide (0<=x)&&decide (x<=9999))<;>rfl) (by
  unfold eG
  simp) M with⟨i,x,e,z,_,H⟩ |⟨e,z⟩
 ·refine⟨i,by rw[H];rfl,?_⟩
  have:(l.any fun x=> !G7 x)=true:=List.any_eq_true.2 ⟨x,tF e,z⟩
  rw[this];simp
 ·refine⟨-1,by rw[z];rfl,?_⟩
  have:(l.any fun x=> !G7 x)=false:=List.any_eq_false.2 fun x D=>by rw[e x D];simp
  rw[this];rfl
theorem UZ {fuel:Nat} {l:List Int} (e:l.length<=9223372036854775807) (z:l.length<fuel):BR fuel l=some (decide ((l.length:Int)<=8)&&l.all G7):=by
 obtain⟨n,D,H⟩:=W8 fuel l e z
 unfold BR gE
 simp only[D,bd_s,H]
 rw[fB]
 cases decide ((l.length:Int)<=8)<;>simp
theorem CH {fuel:Nat} {s:OU} (D:s.Args.length<=9223372036854775807) (H:s.Args.length<fuel):aL (wO fuel) fuel (s,s.Args,(s.Args.length:Int),0)=some (if s.Args.all G7 then .inl s else .inr false):=by
 refine(mP (B:=wO fuel) (fun i=>(s,s.Args,(s.Args.length:Int),(i:Int))) s.Args (fun x=> !G7 x) (.inr false) (.inl s) (v:=(s,s.Args,(s.Args.length:Int),0)) rfl (fun i x I=>by
  obtain⟨M,R,W,Y,h5⟩:=aV I D
  unfold wO G7
  simp only[M,br_t,aE R,W,bd_s,DT,GI]
  by_cases e:x<0
  ·simp[e,show¬0<=x by omega]
  by_cases z:9999<x
  ·simp[e,z,show¬x<=9999 by omega]
  simp only[e,z,decide_false,br_f,h5,aE Y]
  simp[show 0<=x by omega,show x<=9999 by omega]) (by
  unfold wO
  simp) H).trans ?_
 rw[fB]
 cases s.Args.any fun x=> !G7 x<;>rfl
def TJ (s:OU) (b:Bool):Bool:=
 if s.State=0 then !s.Mark&&(((s.Args.length:Int)==0)&&(((s.Part.length:Int)==0)||b))
 else if s.State=1 then !s.Mark&&(((s.Args.length:Int)==0)&&((s.Part.length:Int)==0))
 else if s.State=2∨s.State=3 then(decide ((s.Args.length:Int)<=8)&&s.Args.all G7)&&((s.Part.length:Int)==0)
 else false
theorem aDt {fuel:Nat} {s:OU} (I:s.Args.length<=9223372036854775807) (M:s.Args.length<fuel) (R:kT fuel s.Part=some b):OJ fuel s=some (TJ s b):=by
 unfold OJ TJ
 simp only[R,UZ I M,bd_s,DT,GI]
 by_cases e:s.State=0
 ·simp only[e,if_true]
  cases s.Mark<;>cases((s.Args.length:Int)==0)<;>cases((s.Part.length:Int)==0)<;>cases b<;>rfl
 by_cases z:s.State=1
 ·simp only[z]
  cases s.Mark<;>cases((s.Args.length:Int)==0)<;>cases((s.Part.length:Int)==0)<;>rfl
 by_cases D:s.State=2
 ·simp only[D]
  generalize (decide ((s.Args.length:Int)<=8)&&s.Args.all G7)=c
  cases c<;>cases((s.Part.length:Int)==0)<;>rfl
 by_cases H:s.State=3
 ·simp only[H]
  generalize (decide ((s.Args.length:Int)<=8)&&s.Args.all G7)=c
  cases c<;>cases((s.Part.length:Int)==0)<;>rfl
 ·have e0:(s.State==0)=false:=by simp[e]
  have W:(s.State==1)=false:=by simp[z]
  have Y:(s.State==2)=false:=by simp[D]
  have e3:(s.State==3)=false:=by simp[H]
  simp[e0,W,Y,e3,e,z,D,H]
theorem aDx {fuel:Nat} {s:OU} (e:s.Args.length<=9223372036854775807) (z:s.Args.length<fuel) (D:kV fuel s.Part=some b):OR fuel s=some (TJ s b):=by
 unfold OR TJ EU
 simp only[D,bd_s,DT,GI]
 by_cases H:s.State<0
 ·simp[H,show¬s.State=0 by omega,show¬s.State=1 by omega,show¬s.State=2 by omega,show¬s.State=3 by omega]
 by_cases M:3<s.State
 ·simp[H,M,show¬s.State=0 by omega,show¬s.State=1 by omega,show¬s.State=2 by omega,show¬s.State=3 by omega]
 have hn:decide (0<(s.Args.length:Int))= !((s.Args.length:Int)==0):=by
  cases R:s.Args<;>simp
  omega
 have h8:decide (8<(s.Args.length:Int))= !decide ((s.Args.length:Int)<=8):=by by_cases h:(s.Args.length:Int)<=8<;>simp[h]<;>omega
 rw[hn,h8]
 have he:((s.Args.length:Int)==0)=true->s.Args.all G7=true/\decide ((s.Args.length:Int)<=8)=true:=fun h=>by
  have:s.Args=[]:=by
   cases R:s.Args with
   | nil=>rfl
   | cons a l=>rw[R]at h;simp at h;omega
  rw[this];simp
 have W:s.State=0∨s.State=1∨s.State=2∨s.State=3:=by omega
 simp only[H,M,decide_false,br_f,DT,GI,bd_s,CH e z]
 cases hL:((s.Args.length:Int)==0)with
 | true=>
  obtain⟨Y,e2⟩:=he hL
  rw[Y,e2]
  rcases W with h|h|h|h<;>simp only[h]<;>cases s.Mark<;>cases I:((s.Part.length:Int)==0)<;>cases b<;>simp[CH e z,Y,h,I,D]
 | false=>
  rcases W with h|h|h|h<;>simp only[h]<;>cases s.Mark<;>cases I:((s.Part.length:Int)==0)<;>cases hz:decide ((s.Args.length:Int)<=8)<;>cases hy:s.Args.all G7<;>simp[CH e z,hy,h,I,D]
def vD (x:uI) (b:Bool):Bool:=TJ x.P b&&S0 x.S
theorem ZE {fuel:Nat} {x:uI} (e:x.P.Args.length<=9223372036854775807) (z:x.P.Args.length<fuel) (D:aEK fuel x.S) (H:kT fuel x.P.Part=some b):y9 fuel x=some (vD x b):=by
 unfold y9 vD
 rw[aDt e z H,bd_s,aBm D,bd_s]
 cases TJ x.P b<;>rfl
theorem ZN {fuel:Nat} {x:uI} (e:x.P.Args.length<=9223372036854775807) (z:x.P.Args.length<fuel) (D:aEK fuel x.S) (H:kV fuel x.P.Part=some b):AU fuel x=some (vD x b):=by
 unfold AU vD
 rw[aDx e z H,bd_s,aBt D,bd_s]
 cases TJ x.P b<;>rfl
def aHy (x:dL):Bool:=
 if x.Life=1 then(decide (1<=x.Pid)&&decide (x.Pid<=1000000))&&(x.Code==0)
 else if x.Life=2 then(x.Pid==0)&&(decide (0<=x.Code)&&decide (x.Code<=255))
 else if x.Life=3 then(x.Pid==0)&&(x.Code==0)else false
def KJ (x:dL) (b:Bool):Bool:=(decide (1<=x.Id)&&decide (x.Id<=1000000))&&(decide ((x.Cmd.size:Int)<=60)&&(decide ((x.Dir.size:Int)<=60)&&(vD x.Term b&&aHy x)))
theorem ZB {fuel:Nat} {x:dL} (H:y9 fuel x.Term=some (vD x.Term b)):vH fuel x=some (KJ x b):=by
 unfold vH KJ aHy
 simp only[pI_isId_eq,pI_isCmd_eq,H,bd_s,DT,GI,pI_within_eq]
 cases(decide (1<=x.Id)&&decide (x.Id<=1000000))<;>cases decide ((x.Cmd.size:Int)<=60)<;>cases decide ((x.Dir.size:Int)<=60)<;>cases vD x.Term b<;>try rfl
 by_cases e:x.Life=1
 ·simp only[e]
  cases(decide (1<=x.Pid)&&decide (x.Pid<=1000000))<;>rfl
 by_cases z:x.Life=2
 ·simp only[z]
  cases(decide (0<=x.Code)&&decide (x.Code<=255))<;>cases(x.Pid==0)<;>rfl
 by_cases D:x.Life=3
 ·simp only[D]
  cases(x.Code==0)<;>cases(x.Pid==0)<;>rfl
 ·have I:(x.Life==1)=false:=by simp[e]
  have M:(x.Life==2)=false:=by simp[z]
  have R:(x.Life==3)=false:=by simp[D]
  simp[I,M,R,e,z,D]
theorem ZK {fuel:Nat} {x:dL} (H:AU fuel x.Term=some (vD x.Term b)):AO fuel x=some (KJ x b):=by
 unfold AO KJ aHy
 have I:decide (x.Id<1)= !decide (1<=x.Id):=by by_cases h:1<=x.Id<;>simp[h]<;>omega
 have M:decide (1000000<x.Id)= !decide (x.Id<=1000000):=by by_cases h:x.Id<=1000000<;>simp[h]<;>omega
 have R:decide (60<(x.Cmd.size:Int))= !decide ((x.Cmd.size:Int)<=60):=by by_cases h:(x.Cmd.size:Int)<=60<;>simp[h]<;>omega
 have W:decide (60<(x.Dir.size:Int))= !decide ((x.Dir.size:Int)<=60):=by by_cases h:(x.Dir.size:Int)<=60<;>simp[h]<;>omega
 simp only[I,M,R,W,H,bd_s,DT,GI]
 cases decide (1<=x.Id)<;>cases decide (x.Id<=1000000)<;>cases decide ((x.Cmd.size:Int)<=60)<;>cases decide ((x.Dir.size:Int)<=60)<;>cases vD x.Term b<;>try rfl
 by_cases e:x.Life=1
 ·simp only[e]
  cases decide (1<=x.Pid)<;>cases decide (x.Pid<=1000000)<;>rfl
 by_cases z:x.Life=2
 ·simp only[z]
  cases decide (0<=x.Code)<;>cases decide (x.Code<=255)<;>cases(x.Pid==0)<;>rfl
 by_cases D:x.Life=3
 ·simp only[D]
  cases(x.Code==0)<;>cases(x.Pid==0)<;>rfl
 ·have Y:(x.Life==1)=false:=by simp[e]
  have e2:(x.Life==2)=false:=by simp[z]
  have e3:(x.Life==3)=false:=by simp[D]
  simp[Y,e2,e3,e,z,D]
def cQ (r:Int):List UInt8:=
 if rL r then(if r<128 then [UInt8.ofNat r.toNat]else if r<2048 then [UInt8.ofNat (192+r / 64).toNat,UInt8.ofNat (128+r % 64).toNat]
  else [UInt8.ofNat (224+r / 4096).toNat,UInt8.ofNat (128+r / 64 % 64).toNat,UInt8.ofNat (128+r % 64).toNat])else []
theorem nP (r:Int):rL r=true↔(32<=r/\r<=126)∨(160<=r/\r<=65535/\(r<55296∨57343<r)):=by
 unfold rL
 simp only[eZ,aB,bN,dC,gW,aY]
 omega
theorem EZ (e:0<=v) (z:v<=255):IntKind.u8.wrap v=v:=by
 show v % 256=v
 omega
theorem NZ (fuel:Nat) (r:Int):u4 fuel r=some (cQ r):=by
 unfold u4 cQ
 simp only[pS_Shows_eq,bd_s]
 cases D:rL r with
 | false=>rfl
 | true=>
  have h:=(nP r).1 D
  have H:r.tdiv 64=r / 64:=Int.tdiv_eq_ediv_of_nonneg (by omega)
  have I:r.tmod 64=r % 64:=Int.tmod_eq_emod_of_nonneg (by omega)
  have M:r.tdiv 4096=r / 4096:=Int.tdiv_eq_ediv_of_nonneg (by omega)
  have R:(r / 64).tmod 64=r / 64 % 64:=Int.tmod_eq_emod_of_nonneg (by omega)
  simp only[aM,br_f,if_true,H,I,M,R]
  by_cases e:r<128
  ·rw[jA e,br_t,if_pos e,EZ (by omega) (by omega)]
  rw[iM e,br_f,if_neg e]
  by_cases z:r<2048
  ·rw[jA z,br_t,if_pos z,aE (by omega),aE (cS (by omega) (by omega)),aE (cS (by omega) (by omega)),aE (by omega),aE (cS (by omega) (by omega)),EZ (by omega) (by omega),EZ (by omega) (by omega)]
  rw[iM z,br_f,if_neg z,aE (by omega),aE (cS (by omega) (by omega)),aE (cS (by omega) (by omega)),aE (by omega),aE (cS (by omega) (by omega)),aE (by omega),aE (cS (by omega) (by omega)),aE (by omega),aE (cS (by omega) (by omega)),EZ (by omega) (by omega),EZ (by omega) (by omega),EZ (by omega) (by omega)]
def IL (x:UInt8):Int:=x.toNat
def N6 (x y:UInt8):Int:=(x.toNat-192)*64+y.toNat-128
def SX (x y z:UInt8):Int:=(((x.toNat:Int)-224)*64+y.toNat-128)*64+z.toNat-128
def fP:List UInt8->Int×Int
 | []=>(0,0)
 | x::t=>if cQ (IL x)=[x]then(IL x,1)else match t with
  | []=>(0,0)
  | y::t=>if cQ (N6 x y)=[x,y]then(N6 x y,2)else match t with
   | []=>(0,0)
   | z::_=>if cQ (SX x y z)=[x,y,z]then(SX x y z,3)else(0,0)
theorem yA (x:UInt8):(x.toNat:Int)<256:=by
 have:=x.toNat_lt
 omega
theorem D6 {n:Nat} {x:UInt8} (h:n<256):UInt8.ofNat n=x↔n=x.toNat:=by
 constructor
 ·rintro rfl
  exact(UInt8.toNat_ofNat_of_lt' h).symm
 ·rintro rfl
  exact UInt8.ofNat_toNat
theorem aBH (x:UInt8):cQ (IL x)=[x]↔32<=x.toNat/\x.toNat<=126:=by
 have D:=yA x
 unfold cQ IL
 cases e:rL x.toNat with
 | false=>
  have:=(not_congr (nP x.toNat)).1 (by rw[e];simp)
  simp
  omega
 | true=>
  have:=(nP x.toNat).1 e
  by_cases z:(x.toNat:Int)<128
  ·simp[z];omega
  ·simp[z]
   split<;>simp<;>omega
theorem SW (x y:UInt8):cQ (N6 x y)=[x,y]↔194<=x.toNat/\x.toNat<=223/\128<=y.toNat/\y.toNat<=191/\(x.toNat=194->160<=y.toNat):=by
 have H:=yA x
 have I:=yA y
 unfold cQ N6
 generalize M:(x.toNat-192:Int)*64+y.toNat-128=r
 cases z:rL r with
 | false=>
  have:=(not_congr (nP r)).1 (by rw[z];simp)
  simp
  omega
 | true=>
  have:=(nP r).1 z
  by_cases e:r<128
  ·simp[e];omega
  by_cases D:r<2048
  ·simp only[e,D,if_true,if_false,List.cons.injEq,and_true]
   rw[D6 (by omega),D6 (by omega)]
   omega
  ·simp[e,D];omega
theorem aBI (x y z:UInt8):cQ (SX x y z)=[x,y,z]↔224<=x.toNat/\x.toNat<=239/\128<=y.toNat/\y.toNat<=191/\128<=z.toNat/\z.toNat<=191/\(x.toNat=224->160<=y.toNat)/\(x.toNat=237->y.toNat<160):=by
 have I:=yA x
 have M:=yA y
 have R:=yA z
 unfold cQ SX
 generalize W:(((x.toNat:Int)-224)*64+y.toNat-128)*64+z.toNat-128=r
 cases D:rL r with
 | false=>
  have:=(not_congr (nP r)).1 (by rw[D];simp)
  simp
  omega
 | true=>
  have:=(nP r).1 D
  by_cases e:r<128
  ·simp[e];omega
  by_cases H:r<2048
  ·simp[e,H];omega
  ·simp only[e,H,if_true,if_false,List.cons.injEq,and_true]
   rw[D6 (by omega),D6 (by omega),D6 (by omega)]
   omega
theorem aJb (e: -9223372036854775808<=v) (z:v<=9223372036854775807):cN .i64 v:=(iS .i64 v).2 ⟨e,z⟩
theorem dH {x:Option J} (e: -9223372036854775808<=v) (z:v<=9223372036854775807):gd (cN .i64 v) x=x:=aE (aJb e z) x
theorem yX {a b:Int} {x:Option J} (e:0<=a) (z:a<b):gd (0<=a/\a<b) x=x:=aE ⟨e,z⟩ x
theorem aCU {a b:Int} {x:Option J} (e:0<=a) (z:a<=b):gd (0<=a/\a<=b) x=x:=aE ⟨e,z⟩ x
theorem aLO {a b:List UInt8}:(ByteArray.mk a.toArray=ByteArray.mk b.toArray)↔a=b:=by
 constructor
 ·intro h
  have:=congrArg (fun x=>x.data.toList) h
  simpa using this
 ·rintro rfl;rfl
theorem aFE (F:Nat) (l:List UInt8) (r:Int):aL (gF F) (F+1) (l,0,1,r,1)=some (l,0,1,r):=by
 simp[aL,gF,br]
theorem ZY (F:Nat) (l:List UInt8) (n r i:Int) (y:UInt8) (H:0<=i) (e:i<n) (I:n<=3) (z:l[i.toNat]?=some y) (M: -100000<=r) (R:r<=100000):gF F (l,0,n,r,i)=some (.inl (l,0,n,r*64+y.toNat-128,i+1)):=by
 have D:=yA y
 have W:=(iR.1 z).1
 unfold gF
 simp only[Int.zero_add,jA e,br_t,z,bd_s]
 rw[dH (by omega) (by omega),dH (by omega) (by omega),yX (by omega) (by omega),dH (by omega) (by omega),dH (by omega) (by omega),dH (by omega) (by omega)]
theorem aHZ (F:Nat) (l:List UInt8) (n r:Int):gF F (l,0,n,r,n)=some (.inr (l,0,n,r)):=by
 simp[gF,br]
theorem aFF (F:Nat) (x y:UInt8) (t:List UInt8) {r:Int} (e: -1000<=r) (z:r<=1000):aL (gF F) (F+2) (x::y::t,0,2,r,1)=some (x::y::t,0,2,r*64+y.toNat-128):=by
 rw[aL,ZY F _ 2 r 1 y (by omega) (by omega) (by omega) rfl (by omega) (by omega)]
 simp only[aL]
 rw[show(1:Int)+1=2 from rfl,aHZ]
theorem aFG (F:Nat) (x y z:UInt8) (t:List UInt8) {r:Int} (D: -1000<=r) (H:r<=1000):aL (gF F) (F+3) (x::y::z::t,0,3,r,1)=some (x::y::z::t,0,3,(r*64+y.toNat-128)*64+z.toNat-128):=by
 have e:=yA y
 rw[aL,ZY F _ 3 r 1 y (by omega) (by omega) (by omega) rfl (by omega) (by omega)]
 simp only[aL]
 rw[show(1:Int)+1=2 from rfl,ZY F _ 3 _ 2 z (by omega) (by omega) (by omega) rfl (by omega) (by omega)]
 simp only
 rw[show(2:Int)+1=3 from rfl,aHZ]
theorem aH1 (F:Nat) (l:List UInt8) (n:Nat) (x:UInt8) (b r:Int) (Y:1<=n) (h3:n<=3) (hn:n<=l.length) (hl:l.length<=1000) (M:l[0]?=some x) (z:([0,0,192,224]:List Int)[n]?=some b) (I:aL (gF F) F (l,0,(n:Int),(x.toNat:Int)-b,1)=some (l,0,(n:Int),r)) :
  dW F (l,0,(n:Int))=if cQ r=l.take n then some (.inr (.inr (r,(n:Int))))else some (.inl (l,0,(n:Int)+1)):=by
 have R:=yA x
 have W:0<=b/\b<=224:=by
  match n,z with
  | 1,z=>have e:some (0:Int)=some b:=z;cases e;omega
  | 2,z=>have e:some (192:Int)=some b:=z;cases e;omega
  | 3,z=>have e:some (224:Int)=some b:=z;cases e;omega
  | 0,_=>omega
  | n+4,_=>omega
 unfold dW
 simp only[jA (show(n:Int)<=3 by omega),br_t]
 rw[dH (by omega) (by omega)]
 simp only[bd_s,jA (show(n:Int)<=(l.length:Int)-0 by omega),br_t]
 rw[yX (by omega) (by omega)]
 rw[show((0:Int).toNat)=0 from rfl,M]
 simp only[bd_s]
 rw[yX (by omega) (by show(n:Int)<((4:Nat):Int);omega),show(0+(n:Int).toNat)=n by omega,z]
 simp only[bd_s]
 rw[dH (by omega) (by omega),I]
 simp only[bd_s,NZ]
 by_cases D:(cQ r).length=n
 ·have e:((cQ r).length:Int)==(n:Int):=by simp[D]
  simp only[e,br_t]
  rw[dH (by omega) (by omega),aCU (by omega) (by omega),aCU (by omega) (by simp)]
  simp only[bd_s,show(0+(n:Int)).toNat=n by omega,show((0:Int).toNat)=0 from rfl,dK,aLO]
  by_cases H:cQ r=l.take n
  ·simp only[H,decide_true,br_t,if_true]
  ·simp only[H,decide_false,br_f,if_false]
   rw[dH (by omega) (by omega)]
 ·have e:(((cQ r).length:Int)==(n:Int))=false:=by simp;omega
  have H:cQ r≠l.take n:=fun e=>D (by rw[e,aF];omega)
  simp only[e,br_f,bd_s,H,if_false]
  rw[dH (by omega) (by omega)]
theorem aEw (F:Nat) (l:List UInt8) (n:Nat) (e:l.length<n) (z:n<=4):dW F (l,0,(n:Int))=some (.inr (.inl ())):=by
 unfold dW
 by_cases h:n<=3
 ·simp only[jA (show(n:Int)<=3 by omega),br_t]
  rw[dH (by omega) (by omega)]
  simp only[bd_s,iM (show¬(n:Int)<=(l.length:Int)-0 by omega),br_f]
 ·simp only[iM (show¬(n:Int)<=3 by omega),br_f,bd_s]
theorem MH (F:Nat) (l:List UInt8) (n:Nat) (x:UInt8) (b r:Int) (D:1<=n) (H:n<=3) (I:n<=l.length) (M:l.length<=1000) (R:l[0]?=some x) (W:([0,0,192,224]:List Int)[n]?=some b) (z:aL (gF F) F (l,0,(n:Int),(x.toNat:Int)-b,1)=some (l,0,(n:Int),r)) :
  (cQ r=l.take n->dW F (l,0,(n:Int))=some (.inr (.inr (r,(n:Int)))))/\(cQ r≠l.take n->dW F (l,0,(n:Int))=some (.inl (l,0,(n:Int)+1))):=by
 have h:=aH1 F l n x b r D H I M R W z
 exact⟨fun e=>by rw[h,if_pos e],fun e=>by rw[h,if_neg e]⟩
theorem aH0 (F:Nat) (x:UInt8) (t:List UInt8) (e:t.length<=100):(cQ (IL x)=[x]->dW (F+3) (x::t,0,1)=some (.inr (.inr (IL x,1))))/\(cQ (IL x)≠[x]->dW (F+3) (x::t,0,1)=some (.inl (x::t,0,2))):=
 MH (F+3) (x::t) 1 x 0 (IL x) (by omega) (by omega) (by simp) (by simp;omega) rfl rfl (by
  rw[show((x.toNat:Int)-0)=IL x by unfold IL;omega]
  exact aFE (F+2) (x::t) (IL x))
theorem aH2 (F:Nat) (x y:UInt8) (t:List UInt8) (e:t.length<=100):(cQ (N6 x y)=[x,y]->dW (F+3) (x::y::t,0,2)=some (.inr (.inr (N6 x y,2))))/\(cQ (N6 x y)≠[x,y]->dW (F+3) (x::y::t,0,2)=some (.inl (x::y::t,0,3))):=by
 have z:=yA x
 exact MH (F+3) (x::y::t) 2 x 192 (N6 x y) (by omega) (by omega) (by simp) (by simp;omega) rfl rfl (aFF (F+1) x y t (by omega) (by omega))
theorem aBG (F:Nat) (x y z:UInt8) (t:List UInt8) (e:t.length<=100):(cQ (SX x y z)=[x,y,z]->dW (F+3) (x::y::z::t,0,3)=some (.inr (.inr (SX x y z,3))))/\(cQ (SX x y z)≠[x,y,z]->dW (F+3) (x::y::z::t,0,3)=some (.inl (x::y::z::t,0,4))):=by
 have D:=yA x
 exact MH (F+3) (x::y::z::t) 3 x 224 (SX x y z) (by omega) (by omega) (by simp) (by simp;omega) rfl rfl (aFG F x y z t (by omega) (by omega))
theorem ER (F:Nat) (l:List UInt8) (R:1<=l.length) (W:l.length<=100):t7 (F+5) l 0=some (fP l):=by
 unfold t7
 simp only[iM (show¬(0:Int)<0 by omega),br_f,bd_s,iM (show¬(l.length:Int)<=0 by omega)]
 match l,R with
 | x::t,_=>
  have M:t.length<=100:=by simp at W;omega
  rw[aL]
  by_cases D:cQ (IL x)=[x]
  ·rw[(aH0 (F+2) x t M).1 D,show fP (x::t)=(IL x,1) by simp only[fP];exact if_pos D];rfl
  rw[(aH0 (F+2) x t M).2 D]
  simp only
  match t,M with
  | [],_=>
   rw[aL,show(2:Int)=((2:Nat):Int)from rfl,aEw _ _ 2 (by simp) (by omega),show fP [x]=(0,0) by simp only[fP];exact if_neg D]
   rfl
  | y::t,M=>
   have e:t.length<=100:=by simp at M;omega
   rw[aL]
   by_cases I:cQ (N6 x y)=[x,y]
   ·rw[(aH2 (F+2) x y t e).1 I,show fP (x::y::t)=(N6 x y,2) by simp only[fP];rw[if_neg D];exact if_pos I];rfl
   rw[(aH2 (F+2) x y t e).2 I]
   simp only
   match t,e with
   | [],_=>
    rw[aL,show(3:Int)=((3:Nat):Int)from rfl,aEw _ _ 3 (by simp) (by omega),show fP [x,y]=(0,0) by simp only[fP];rw[if_neg D];exact if_neg I]
    rfl
   | z::t,e=>
    have H:t.length<=100:=by simp at e;omega
    rw[aL]
    by_cases c3:cQ (SX x y z)=[x,y,z]
    ·rw[(aBG (F+2) x y z t H).1 c3,show fP (x::y::z::t)=(SX x y z,3) by simp only[fP];rw[if_neg D,if_neg I];exact if_pos c3];rfl
    rw[(aBG (F+2) x y z t H).2 c3,show fP (x::y::z::t)=(0,0) by simp only[fP];rw[if_neg D,if_neg I];exact if_neg c3]
    simp only
    have:dW (F+5) (x::y::z::t,0,4)=some (.inr (.inl ())):=by
     unfold dW
     simp only[iM (show¬(4:Int)<=3 by omega),br_f,bd_s]
    rw[aL,this]
    rfl
theorem WN (x b:UInt8):(fP [x,b]).2=2↔194<=x.toNat/\x.toNat<=223/\128<=b.toNat/\b.toNat<=191/\(x.toNat=194->160<=b.toNat):=by
 simp only[fP]
 by_cases z:cQ (IL x)=[x]
 ·rw[if_pos z]
  have:=(aBH x).1 z
  constructor
  ·intro h;simp at h
  ·omega
 rw[if_neg z]
 by_cases e:cQ (N6 x b)=[x,b]
 ·rw[if_pos e]
  have:=(SW x b).1 e
  exact⟨fun _=>this,fun _=>rfl⟩
 ·rw[if_neg e]
  have:=(not_congr (SW x b)).1 e
  constructor
  ·intro h;simp at h
  ·intro h;exact absurd h this
theorem AY (x y z:UInt8):(fP [x,y,z]).2=3↔224<=x.toNat/\x.toNat<=239/\128<=y.toNat/\y.toNat<=191/\128<=z.toNat/\z.toNat<=191/\(x.toNat=224->160<=y.toNat)/\(x.toNat=237->y.toNat<160):=by
 simp only[fP]
 by_cases e:cQ (IL x)=[x]
 ·rw[if_pos e]
  have:=(aBH x).1 e
  constructor
  ·intro h;simp at h
  ·omega
 rw[if_neg e]
 by_cases D:cQ (N6 x y)=[x,y]
 ·rw[if_pos D]
  have:=(SW x y).1 D
  constructor
  ·intro h;simp at h
  ·omega
 rw[if_neg D]
 by_cases c3:cQ (SX x y z)=[x,y,z]
 ·rw[if_pos c3]
  have:=(aBI x y z).1 c3
  exact⟨fun _=>this,fun _=>rfl⟩
 ·rw[if_neg c3]
  have:=(not_congr (aBI x y z)).1 c3
  constructor
  ·intro h;simp at h
  ·intro h;exact absurd h this
def pJ:List UInt8->Bool
 | [x]=>decide (194<=x.toNat/\x.toNat<=239)
 | [x,y]=>decide (224<=x.toNat/\x.toNat<=239/\128<=y.toNat/\y.toNat<=191/\(x.toNat=224->160<=y.toNat)/\(x.toNat=237->y.toNat<160))
 | _=>false
def mZ (i:Nat):UInt8:=UInt8.ofNat (IntKind.u8.wrap ((128+i:Nat):Int)).toNat
theorem E5 (h:i<64):(mZ i).toNat=128+i:=by
 unfold mZ
 rw[EZ (by omega) (by omega),f0]
 exact UInt8.toNat_ofNat_of_lt' (show 128+i<256 by omega)
theorem CQ {n:Nat} (h:n<=1000):cR K.u8 n:=by
 refine⟨by omega,?_⟩
 show n*byt K.u8<=_
 have:byt K.u8=1:=rfl
 rw[this];omega
def aCW (l:List UInt8) (b:UInt8):Bool:=decide ((fP (l++ [b])).2=((l++ [b]).length:Int))||(decide (l.length=1)&&decide ((fP (l++ [b]++ [UInt8.ofNat (Int.toNat 129)])).2=3))
theorem aJn (F:Nat) (l:List UInt8) (i:Nat) (H:l.length=1∨l.length=2) (I:i<64):mG (F+5) (l,((128+i:Nat):Int))=if aCW l (mZ i)then some (.inr (.inr true))else some (.inl (l,((128+(i+1):Nat):Int))):=by
 have D:l.length<=2:=by omega
 unfold mG
 simp only[jA (show((128+i:Nat):Int)<192 by omega),br_t,cV]
 rw[aE (CQ (by omega)),aE (CQ (by rw[aW];simp;omega))]
 rw[show UInt8.ofNat (IntKind.u8.wrap ((128+i:Nat):Int)).toNat=mZ i from rfl]
 rw[ER F (l++ [mZ i]) (by simp) (by simp;omega)]
 simp only[bd_s]
 unfold aCW
 by_cases e:(fP (l++ [mZ i])).2=((l++ [mZ i]).length:Int)
 ·simp only[show((fP (l++ [mZ i])).2==((l++ [mZ i]).length:Int))=true by simpa using e,br_t,jn_r,jA e,dQ,if_true]
 simp only[show((fP (l++ [mZ i])).2==((l++ [mZ i]).length:Int))=false by simpa using e,br_f,iM e,b9]
 by_cases z:l.length=1
 ·simp only[show((l.length:Int)==1)=true by simp[z],br_t,jA z,aK]
  rw[aE (CQ (by simp;omega)),aE (CQ (by simp;omega)),ER F _ (by simp) (by simp;omega)]
  simp only[bd_s]
  by_cases c3:(fP (l++ [mZ i]++ [UInt8.ofNat (Int.toNat 129)])).2=3
  ·simp only[show((fP (l++ [mZ i]++ [UInt8.ofNat (Int.toNat 129)])).2==3)=true by simpa using c3,br_t,jn_r,jA c3,if_true]
  ·simp only[show((fP (l++ [mZ i]++ [UInt8.ofNat (Int.toNat 129)])).2==3)=false by simpa using c3,br_f,jn_l,iM c3,aJ,if_false]
   rw[dH (by omega) (by omega)]
   rfl
 ·simp only[show((l.length:Int)==1)=false by simp;omega,br_f,jn_l,iM z,dJ,aJ,if_false]
  rw[dH (by omega) (by omega)]
  rfl
theorem AR (F:Nat) (l:List UInt8) (H:l.length=1∨l.length=2):kV (F+70) l=some ((List.range 64).any fun i=>aCW l (mZ i)):=by
 unfold kV
 simp only[iM (show¬(l.length:Int)<1 by omega),br_f,bd_s,iM (show¬(2:Int)<(l.length:Int) by omega)]
 have:=mP (B:=mG (F+70)) (fun i=>(l,((128+i:Nat):Int))) (List.range 64) (fun i=>aCW l (mZ i)) (.inr true) (.inl ()) (fuel:=F+70) (v:=(l,128)) rfl (fun i x e=>by
  have D:=(iR.1 e).1
  have z:x=i:=by
   rw[List.getElem?_range (by simpa using D)]at e;cases e;rfl
  subst z
  exact aJn (F+65) l x H (by simpa using D)) (by
   rw[List.length_range]
   unfold mG
   simp only[iM (show¬((128+64:Nat):Int)<192 by omega),br_f]) (by rw[List.length_range];omega)
 rw[this]
 cases(List.range 64).any fun i=>aCW l (mZ i)<;>rfl
theorem NY (F:Nat) (l:List UInt8):kV (F+70) l=some (pJ l):=by
 match l with
 | []=>rfl
 | [x]=>
  rw[AR F [x] (.inl rfl)]
  congr 1
  rw[dG,List.any_eq_true]
  have D:(UInt8.ofNat (Int.toNat 129)).toNat=129:=rfl
  simp only[aCW,pJ,eZ,aB,bN,List.mem_range]
  constructor
  ·rintro⟨i,H,h|⟨_,h⟩⟩
   ·have:=(WN x (mZ i)).1 h
    omega
   ·have:=(AY x (mZ i) _).1 h
    omega
  ·intro h
   by_cases I:x.toNat<=223
   ·refine⟨32,by omega,.inl ?_⟩
    have e:=E5 (i:=32) (by omega)
    exact(WN x (mZ 32)).2 ⟨by omega,by omega,by omega,by omega,by omega⟩
   ·by_cases M:x.toNat=237
    ·refine⟨0,by omega,.inr ⟨rfl,?_⟩⟩
     have e:=E5 (i:=0) (by omega)
     exact(AY x (mZ 0) _).2 ⟨by omega,by omega,by omega,by omega,by omega,by omega,by omega,by omega⟩
    ·refine⟨32,by omega,.inr ⟨rfl,?_⟩⟩
     have e:=E5 (i:=32) (by omega)
     exact(AY x (mZ 32) _).2 ⟨by omega,by omega,by omega,by omega,by omega,by omega,by omega,by omega⟩
 | [x,y]=>
  rw[AR F [x,y] (.inr rfl)]
  congr 1
  rw[dG,List.any_eq_true]
  simp only[aCW,pJ,eZ,aB,bN,List.mem_range]
  constructor
  ·rintro⟨i,H,h|⟨h,_⟩⟩
   ·have:=(AY x y (mZ i)).1 h
    omega
   ·simp at h
  ·intro h
   refine⟨0,by omega,.inl ?_⟩
   have e:=E5 (i:=0) (by omega)
   exact(AY x y (mZ 0)).2 ⟨by omega,by omega,by omega,by omega,by omega,by omega,by omega,by omega⟩
 | x::y::z::t=>
  unfold kV
  simp only[iM (show¬((x::y::z::t).length:Int)<1 by simp;omega),br_f,bd_s,jA (show(2:Int)<((x::y::z::t).length:Int) by simp;omega),br_t]
  rfl
theorem ZI (F:Nat) (y:UInt8):JY (F+2) [y]=some (if 128<=y.toNat/\y.toNat<=191 then((y.toNat:Int)-128,true)else(0,false)):=by
 have H:=yA y
 unfold JY
 rw[aL]
 have e0:xN (F+2) (0,[y],(([y]:List UInt8).length:Int),0)=if 128<=y.toNat/\y.toNat<=191 then some (.inl ((y.toNat:Int)-128,[y],1,1))else some (.inr (.inr (0,false))):=by
  unfold xN
  simp only[jA (show(0:Int)<(([y]:List UInt8).length:Int) by simp),br_t]
  rw[yX (by omega) (by simp)]
  simp only[show((0:Int).toNat)=0 from rfl,jF,bd_s]
  rw[aE (by omega)]
  have z:(y.toNat:Int).tdiv 64=(y.toNat:Int) / 64:=Int.tdiv_eq_ediv_of_nonneg (by omega)
  have D:(y.toNat:Int).tmod 64=(y.toNat:Int) % 64:=Int.tmod_eq_emod_of_nonneg (by omega)
  rw[z,D,EZ (by omega) (by omega)]
  by_cases h:128<=y.toNat/\y.toNat<=191
  ·rw[if_pos h]
   have e:((y.toNat:Int) / 64 !=2)=false:=by
    have:(y.toNat:Int) / 64=2:=by omega
    rw[this];rfl
   simp only[e,br_f]
   rw[dH (by omega) (by omega),aE (by omega),dH (by omega) (by omega),dH (by omega) (by omega)]
   have:64*0+(y.toNat:Int) % 64=(y.toNat:Int)-128:=by omega
   rw[this]
   rfl
  ·rw[if_neg h]
   have e:((y.toNat:Int) / 64 !=2)=true:=by
    have:(y.toNat:Int) / 64≠2:=by omega
    simpa using this
   simp only[e,br_t]
 rw[e0]
 by_cases h:128<=y.toNat/\y.toNat<=191
 ·simp only[if_pos h]
  rw[aL]
  unfold xN
  simp only[iM (show¬(1:Int)<1 by omega),br_f,jn_l]
 ·simp only[if_neg h,jn_r]
theorem NV (F:Nat) (l:List UInt8):kT (F+2) l=some (pJ l):=by
 match l with
 | []=>rfl
 | [x]=>
  unfold kT
  simp only[show(((([x]:List UInt8).length:Nat):Int)==1)=true from rfl,br_t]
  rw[yX (by omega) (by simp)]
  simp only[show((0:Int).toNat)=0 from rfl,jF,bd_s,pI_within_eq,pJ]
  congr 1
  rw[dG]
  simp only[aB,bN]
  omega
 | [x,y]=>
  have M:=yA x
  have R:=yA y
  unfold kT
  simp only[show(((([x,y]:List UInt8).length:Nat):Int)==1)=false from rfl,show(((([x,y]:List UInt8).length:Nat):Int)==2)=true from rfl,br_t,br_f]
  rw[aCU (by omega) (by simp)]
  simp only[show List.drop (Int.toNat 1) [x,y]=[y]from rfl,ZI,bd_s]
  rw[yX (by omega) (by simp)]
  simp only[show((0:Int).toNat)=0 from rfl,jF,bd_s,pJ]
  by_cases h:128<=y.toNat/\y.toNat<=191
  ·simp only[if_pos h]
   rw[dH (by omega) (by omega),dH (by omega) (by omega),dH (by omega) (by omega),dH (by omega) (by omega)]
   simp only[br_t]
   rw[yX (by omega) (by simp)]
   simp only[bd_s,pI_Shows_eq,aLP,DT]
   by_cases e:224<=(x.toNat:Int)
   ·by_cases D:2048<=((x.toNat:Int)-224)*4096+((y.toNat:Int)-128)*64
    ·simp only[jA e,jA D,br_t]
     congr 1
     rw[dG,nP]
     simp only[bN]
     omega
    ·simp only[jA e,iM D,br_t,br_f]
     congr 1
     rw[dG]
     simp only[bN,aJ,false_iff]
     omega
   ·simp only[iM e,br_f]
    congr 1
    rw[dG]
    simp only[bN,aJ,false_iff]
    omega
  ·simp only[if_neg h]
   rw[dH (by omega) (by omega),dH (by omega) (by omega),dH (by omega) (by omega),dH (by omega) (by omega)]
   simp only[br_f,bd_s]
   congr 1
   rw[dG]
   simp only[bN,aJ,false_iff]
   omega
 | x::y::z::t=>
  unfold kT
  have H:(((x::y::z::t).length:Int)==1)=false:=by simp;omega
  have I:(((x::y::z::t).length:Int)==2)=false:=by simp;omega
  simp only[H,I,br_f]
  rfl
theorem uP {p:Prop} {d:Decidable p} (h:p) (x:Option J): @gd J p d x=x:=if_pos h
theorem y2 {V O:Type} {B:V->Option (V⊕O)} (I:V->Prop) (m:V->Nat) (Q:O->Prop) (h:∀v,I v->(∃z,B v=some (.inl z)/\I z/\m z<m v)∨∃o,B v=some (.inr o)/\Q o):∀(fuel:Nat) (v:V),I v->m v<fuel->∃o,aL B fuel v=some o/\Q o
 | 0,v,_,H=>by omega
 | fuel+1,v,M,H=>by
  unfold aL
  rcases h v M with⟨z,e,D,R⟩ |⟨o,e,D⟩
  ·rw[e];exact y2 I m Q h fuel z D (by omega)
  ·rw[e];exact⟨o,rfl,D⟩
theorem fS {V:Type} {B:V->Option (V⊕O)} (f:Nat->V) (n:Nat) (R:O) {fuel:Nat} {v:V} (z:v=f 0) (h:∀i,i<n->B (f i)=some (.inl (f (i+1)))) (D:B (f n)=some (.inr R)) (e:n<fuel):aL B fuel v=some R:=by
 subst z
 have key:∀(m fuel i:Nat),n-i=m->i<=n->m<fuel->aL B fuel (f i)=some R:=by
  intro m
  induction m with
  | zero=>
   intro fuel i H I e
   obtain rfl:i=n:=by omega
   cases fuel with
   | zero=>omega
   | succ fuel=>unfold aL;rw[D]
  | succ m ih=>
   intro fuel i H I e
   cases fuel with
   | zero=>omega
   | succ fuel=>unfold aL;rw[h i (by omega)];exact ih fuel (i+1) (by omega) (by omega) (by omega)
 exact key n fuel 0 rfl (cT _) e
theorem fG {V:Type} {B:V->Option (V⊕O)} (f:Nat->V) (n:Nat) (bad:Nat->Bool) (R E:O) {fuel:Nat} {v:V} (D:v=f 0) (h:∀i,i<n->B (f i)=if bad i then some (.inr R)else some (.inl (f (i+1)))) (H:B (f n)=some (.inr E)) (I:n<fuel) :
  aL B fuel v=some (if(List.range n).any bad then R else E):=by
 refine mP f (List.range n) bad R E D (fun i x e=> ?_) (by rw[List.length_range];exact H) (by rw[List.length_range];exact I)
 have z:i<n:=by have:=(iR.1 e).1;simpa using this
 rw[List.getElem?_range z]at e
 cases e
 exact h i z
theorem eK {k:K} {n:Nat} (e:n<=2097152) (z:byt k<=1000):cR k n:=by
 refine⟨by omega,?_⟩
 have:n*byt k<=2097152*1000:=Nat.mul_le_mul e z
 omega
theorem cD {l:List α} {x:α} (h:l[i]?=some x):l.take (i+1)=l.take i++ [x]:=by
 rw[List.take_add_one,h];rfl
theorem tK {l:List α} {x:α} (h:l[i]?=some x):l.drop i=x::l.drop (i+1):=by
 obtain⟨z,e⟩:=iR.1 h
 rw[List.drop_eq_getElem_cons z,e]
inductive oD where
 | leaf (x:bV)
 | node (x:bV) (a b:oD)
def oD.flat:oD->List bV
 | .leaf x=> [x]
 | .node x a b=>x::(a.flat++b.flat)
def mU (x:bV):Bool:=(decide (1<=x.Pane)&&decide (x.Pane<=1000000))&&(!x.Down&&x.First==0)
def mB (x:bV):Bool:=x.Pane==0&&(decide (1<=x.First)&&decide (x.First<=120))
def oD.ok:oD->Prop
 | .leaf x=>x.Pane≠0/\mU x=true
 | .node x a b=>mB x=true/\a.ok/\b.ok
def prs:Nat->List bV->Option (oD×List bV)
 | 0,_=>none
 | _+1,[]=>none
 | n+1,x::l=>if x.Pane=0 then(if mB x=true then(match prs n l with
   | some (a,l1)=>(match prs n l1 with
    | some (b,l2)=>some (.node x a b,l2)
    | none=>none)
   | none=>none)else none)else(if mU x=true then some (.leaf x,l)else none)
theorem oD.flat_pos (T:oD):0<T.flat.length:=by cases T<;>simp[oD.flat]
theorem F0:∀{n:Nat} {l:List bV} {T:oD} {r:List bV},prs n l=some (T,r)->l=T.flat++r/\T.ok
 | 0,_,_,_,h=>by cases h
 | n+1,[],_,_,h=>by cases h
 | n+1,x::l,T,r,h=>by
  unfold prs at h
  split at h
  ·rename_i e
   split at h
   ·rename_i z
    split at h
    ·rename_i a l1 D
     split at h
     ·rename_i b l2 H
      cases h
      obtain⟨I,M⟩:=F0 D
      obtain⟨R,W⟩:=F0 H
      exact⟨by simp[oD.flat,I,R],z,M,W⟩
     ·cases h
    ·cases h
   ·cases h
  ·rename_i e
   split at h
   ·rename_i Y
    cases h
    exact⟨rfl,e,Y⟩
   ·cases h
theorem rH:∀{T:oD} {r:List bV} {n:Nat},T.ok->T.flat.length<=n->prs n (T.flat++r)=some (T,r)
 | .leaf x,r,0,_,e=>by simp[oD.flat]at e
 | .leaf x,r,n+1,h,e=>by
  show prs (n+1) (x::r)=_
  unfold prs
  rw[if_neg h.1,if_pos h.2]
 | .node x a b,r,0,_,e=>by simp[oD.flat]at e
 | .node x a b,r,n+1,h,e=>by
  have D:(oD.node x a b).flat.length=a.flat.length+b.flat.length+1:=by simp[oD.flat]
  have z:x.Pane=0:=by have:=h.1;unfold mB at this;simp at this;exact this.1
  show prs (n+1) (x::(a.flat++b.flat)++r)=_
  rw[n0,aQ]
  unfold prs
  rw[if_pos z,if_pos h.1,rH h.2.1 (by omega)]
  simp only
  rw[rH h.2.2 (by omega)]
theorem aGY {p r t:List α} (h:t=p++r):t.drop (t.length-r.length)=r:=by
 subst h
 simp
def PZ (n:Nat) (t l:List bV):Int:=match prs n l with
 | some (_,r)=>(t.length:Int)-(r.length:Int)
 | none=> -1
theorem aE4 (fuel n:Nat) (t:List bV):lU (kF fuel) (n+1) (t,-1)=some (-1):=by
 show kF fuel _ (t,-1)=_
 unfold kF
 simp
theorem PY (fuel:Nat) (t:List bV) (ht:t.length<=1048576):∀(n at_:Nat),at_<=t.length->t.length-at_<n->lU (kF fuel) n (t,(at_:Int))=some (PZ n t (t.drop at_))
 | 0,at_,_,h=>by omega
 | n+1,at_,ha,hn=>by
  show kF fuel (lU (kF fuel) n) (t,(at_:Int))=_
  have ih:∀a:Nat,a<=t.length->t.length-a<n->lU (kF fuel) n (t,(a:Int))=some (PZ n t (t.drop a)):=PY fuel t ht n
  have ng:0<n->lU (kF fuel) n (t,-1)=some (-1):=fun h=>by
   obtain⟨m,rfl⟩:∃m,n=m+1:=⟨n-1,by omega⟩
   exact aE4 fuel m t
  generalize lU (kF fuel) n=slf at ih ng⊢
  unfold kF PZ
  have e1:decide ((at_:Int)<0)=false:=by simp
  simp only[e1,br_f,bd_s]
  by_cases W:at_<t.length
  ·have Y:t[at_]?=some t[at_]:=iD W
   obtain⟨h1,h2,h3,h4,h5⟩:=aV Y (by omega)
   have e2:decide ((t.length:Int)<=(at_:Int))=false:=by simp;omega
   rw[tK Y]
   simp only[e2,br_f,aE h2,h3,bd_s]
   generalize t[at_]=x at Y
   unfold i6
   simp only[bd_s,pI_isId_eq,pI_within_eq]
   unfold prs
   by_cases M:x.Pane=0
   ·have e3:(x.Pane !=0)=false:=by simp[M]
    rw[e3,if_pos M]
    simp only[br_f]
    by_cases z:mB x=true
    ·have e4:(decide (1<=x.First)&&decide (x.First<=120))=true:=by unfold mB at z;simp at z;simp[z.2]
     rw[e4,if_pos z]
     simp only[aM,br_f]
     rw[h5,aE h4,ih (at_+1) (by omega) (by omega),bd_s]
     unfold PZ
     cases hp:prs n (t.drop (at_+1))with
     | none=>
      simp only
      rw[ng (by omega),bd_s]
     | some p=>
      obtain⟨a,D⟩:=p
      obtain⟨e5,_⟩:=F0 hp
      have hrl:D.length+a.flat.length=t.length-(at_+1):=by
       have:=congrArg List.length e5;rw[cA,aW]at this;omega
      have hap:=a.flat_pos
      have hdr:t.drop (t.length-D.length)=D:=aGY (p:=t.take (at_+1)++a.flat) (by rw[aQ,<-e5,fW])
      have H:(t.length:Int)-(D.length:Int)=((t.length-D.length:Nat):Int):=by omega
      simp only
      rw[H,ih (t.length-D.length) (by omega) (by omega),hdr,bd_s]
      unfold PZ
      cases hq:prs n D with
      | none=>rfl
      | some q=>rfl
    ·have e4:(decide (1<=x.First)&&decide (x.First<=120))=false:=by
      unfold mB at z
      simp only[M,beq_self_eq_true,aK]at z
      simpa using z
     rw[e4,if_neg z]
     simp
   ·have e3:(x.Pane !=0)=true:=by simp[M]
    rw[e3,if_neg M]
    simp only[br_t]
    by_cases e:mU x=true
    ·rw[if_pos e]
     unfold mU at e
     simp only[aB]at e
     obtain⟨⟨I,p2⟩,p3,R⟩:=e
     have p3:x.Down=false:=by simpa using p3
     have p5:(x.First !=0)=false:=by simp at R;simp[R]
     simp only[I,p2,p3,p5,tG,aM,br_f,bd_s]
     rw[h5,aE h4]
     simp only[cA]
     congr 1
     omega
    ·rw[if_neg e]
     unfold mU at e
     by_cases I:(decide (1<=x.Pane)&&decide (x.Pane<=1000000))=true
     ·rw[I]at e⊢
      cases hd:x.Down with
      | true=>simp
      | false=>
       rw[hd]at e
       have R:(x.First==0)=false:=by simpa using e
       have p5:(x.First !=0)=true:=by simp at R;simp[R]
       simp[p5]
     ·have I:(decide (1<=x.Pane)&&decide (x.Pane<=1000000))=false:=by simpa using I
      rw[I]
      simp
  ·obtain rfl:at_=t.length:=by omega
   have e2:decide ((t.length:Int)<=(t.length:Int))=true:=by simp
   rw[e2,lS]
   simp[prs]
def oD.sh:oD->Prop
 | .leaf x=>x.Pane≠0
 | .node x a b=>x.Pane=0/\a.sh/\b.sh
def cnt:Nat->List bV->Option (List bV)
 | _,[]=>none
 | k,x::l=>if x.Pane=0 then cnt (k+1) l else if k=1 then some l else cnt (k-1) l
theorem I5 (k:Nat) (x:bV) (l:List bV):cnt k (x::l)=if x.Pane=0 then cnt (k+1) l else if k=1 then some l else cnt (k-1) l:=by rw[cnt]
theorem I6:∀{T:oD} {k:Nat} {r:List bV},T.sh->1<=k->cnt k (T.flat++r)=if k=1 then some r else cnt (k-1) r
 | .leaf x,k,r,h,e=>by
  show cnt k (x::r)=_
  rw[I5,if_neg h]
 | .node x a b,k,r,h,e=>by
  show cnt k (x::(a.flat++b.flat)++r)=_
  rw[n0,aQ,I5,if_pos h.1,I6 h.2.1 (by omega),if_neg (by omega),show k+1-1=k by omega,I6 h.2.2 e]
theorem PA:∀{l:List bV} {k:Nat} {r:List bV},1<=k->cnt k l=some r->∃Ts:List oD,Ts.length=k/\(∀T∈Ts,T.sh)/\l=Ts.flatMap oD.flat++r
 | [],k,r,_,h=>by cases h
 | x::l,k,r,M,h=>by
  rw[I5]at h
  split at h
  ·rename_i D
   obtain⟨Ts,e,z,H⟩:=PA (by omega) h
   match Ts,e with
   | [T],e=>simp at e;omega
   | T1::T2::Ts,e=>
    refine⟨.node x T1 T2::Ts,by simp at e⊢;omega,fun T hT=> ?_,by rw[H];simp[oD.flat]⟩
    rcases List.mem_cons.1 hT with rfl|hT
    ·exact⟨D,z _ (by simp),z _ (by simp)⟩
    ·exact z T (by simp[hT])
   | [],e=>simp at e
  ·rename_i D
   split at h
   ·rename_i e
    cases h
    exact⟨[.leaf x],by simp[e],fun T hT=>by rw[List.mem_singleton.1 hT];exact D,by simp[oD.flat]⟩
   ·rename_i e
    obtain⟨Ts,z,H,I⟩:=PA (by omega) h
    refine⟨.leaf x::Ts,by simp[z];omega,fun T hT=> ?_,by rw[I];simp[oD.flat]⟩
    rcases List.mem_cons.1 hT with rfl|hT
    ·exact D
    ·exact H T hT
def aAy (k:Nat) (t l:List bV):Int:=match cnt k l with
 | some r=>(t.length:Int)-(r.length:Int)
 | none=> -1
theorem M6 (fuel:Nat) (t:List bV) (ht:t.length<=1048576):∀(m fl i k:Nat),t.length-i=m->i<=t.length->1<=k->k+m<=10000000->m<fl->
  aL (rE fuel) fl (t,(k:Int),(i:Int))=some (match cnt k (t.drop i)with
   | some r=> .inr ((t.length:Int)-(r.length:Int))
   | none=> .inl ())
 | m,0,_,_,_,_,_,_,h=>by omega
 | 0,fl+1,i,k,hm,hi,hk,hb,hf=>by
  obtain rfl:i=t.length:=by omega
  unfold aL rE
  rw[lS]
  simp[cnt]
 | m+1,fl+1,i,k,hm,hi,hk,hb,hf=>by
  have H:i<t.length:=by omega
  have I:t[i]?=some t[i]:=iD H
  obtain⟨h1,h2,Y,M,R⟩:=aV I (by omega)
  have ih:=M6 fuel t ht m fl (i+1)
  rw[tK I]
  generalize t[i]=x at I Y
  unfold aL
  generalize aL (rE fuel) fl=lf at ih⊢
  unfold rE
  simp only[h1,br_t,aE h2,Y,bd_s]
  rw[I5]
  by_cases D:x.Pane=0
  ·have W:(x.Pane==0)=true:=by simp[D]
   have e:((k:Int)+1==0)=false:=by simp;omega
   rw[W,if_pos D]
   simp only[br_t]
   rw[aE (cS (by omega) (by omega)),bd_s]
   simp only[e,br_f]
   rw[R,aE M]
   simp only
   rw[show(k:Int)+1=((k+1:Nat):Int) by omega,ih (k+1) (by omega) (by omega) (by omega) (by omega) (by omega)]
  ·have W:(x.Pane==0)=false:=by simp[D]
   rw[W,if_neg D]
   simp only[br_f]
   rw[aE (cS (by omega) (by omega)),bd_s]
   by_cases z:k=1
   ·have e:((k:Int)-1==0)=true:=by simp;omega
    simp only[e,br_t]
    rw[if_pos z,R,aE M]
    simp only[cA]
    congr 3
    omega
   ·have e:((k:Int)-1==0)=false:=by simp;omega
    simp only[e,br_f]
    rw[if_neg z,R,aE M]
    simp only
    rw[show(k:Int)-1=((k-1:Nat):Int) by omega,ih (k-1) (by omega) (by omega) (by omega) (by omega) (by omega)]
theorem V9 {fuel:Nat} (e:t.length<=1048576) (z:i<=t.length) (D:t.length<fuel):sQ fuel t (i:Int)=some (aAy 1 t (t.drop i)):=by
 unfold sQ aAy
 have:=M6 fuel t e (t.length-i) fuel i 1 rfl z (by omega) (by omega) (by omega)
 rw[show(1:Int)=((1:Nat):Int)from rfl,this]
 cases cnt 1 (t.drop i)<;>rfl
def oH (t:List bV):List Int:=(t.filter fun x=>x.Pane !=0).map (·.Pane)
theorem sX (t:List bV):(oH t).length<=t.length:=by unfold oH;rw[aP];exact gX _ _
theorem OE (s t:List bV):oH (s++t)=oH s++oH t:=by simp[oH]
theorem OG (x:bV):oH [x]=if x.Pane=0 then []else [x.Pane]:=by
 unfold oH
 by_cases h:x.Pane=0<;>simp[h]
theorem uU {fuel:Nat} (ht:t.length<=1048576) (R:t.length<fuel):nX fuel t=some (oH t):=by
 unfold nX
 have key:aL (uT fuel) fuel ([],t,(t.length:Int),0)=some (oH t):=by
  refine fS (fun i=>(oH (t.take i),t,(t.length:Int),(i:Int))) t.length (oH t) rfl (fun i W=> ?_) (by unfold uT;simp) R
  have z:t[i]?=some t[i]:=iD W
  obtain⟨Y,h2,H,I,M⟩:=aV z (by omega)
  rw[cD z,OE,OG]
  generalize t[i]=x at z H
  unfold uT i6
  simp only[Y,br_t,aE h2,H,bd_s]
  have hr:cR K.int (oH (t.take i)++ [x.Pane]).length:=eK (by have:=sX (t.take i);simp at this⊢;omega) (by decide)
  by_cases e:x.Pane=0
  ·have D:(x.Pane !=0)=false:=by simp[e]
   simp only[D,br_f,bd_s,if_pos e,bO]
   rw[M,aE I]
  ·have D:(x.Pane !=0)=true:=by simp[e]
   simp only[D,br_t,if_neg e,aE hr,bd_s]
   rw[M,aE I]
 rw[key]
 rfl
theorem TS (fuel e:Nat) (l:List Int) (hl:l.length<=1048576) (H:1<=e) (hk:e<l.length) (hf:l.length<fuel):∃o,aL (k9 fuel) fuel (l,(e:Int),(e,l.length-e),1)=some o/\o.1.length=l.length/\0<=o.2/\o.2<l.length:=by
 refine y2 (V:=List Int×Int×(Nat×Nat)×Int) (O:=List Int×Int) (fun v=>v.1.length=l.length/\v.2.2.1=(e,l.length-e)/\1<=v.2.2.2/\v.2.2.2<=((l.length-e:Nat):Int)/\(e:Int)<=v.2.1/\v.2.1+1<=e+v.2.2.2) (fun v=>(((l.length-e:Nat):Int)-v.2.2.2).toNat) (fun o=>o.1.length=l.length/\0<=o.2/\o.2<l.length) ?_ fuel _ ⟨rfl,rfl,by dsimp only;omega,by dsimp only;omega,by dsimp only;omega,by dsimp only;omega⟩ (by dsimp only;omega)
 rintro⟨v,k,⟨off,n⟩,i⟩ ⟨D,I,M,R,W,Y⟩
 cases I
 simp only at D M R W Y⊢
 unfold k9
 simp only
 by_cases z:i<((l.length-e:Nat):Int)
 ·left
  rw[show decide (i<((l.length-e:Nat):Int))=true by simpa using z]
  have hx:v[e+i.toNat]?=some v[e+i.toNat]!:=by
   rw[iD (by omega),getElem!_pos v _ (by omega)]
  have hy:v[e+(i-1).toNat]?=some v[e+(i-1).toNat]!:=by
   rw[iD (by omega),getElem!_pos v _ (by omega)]
  have hz:v[0+k.toNat]?=some v[0+k.toNat]!:=by
   rw[iD (by omega),getElem!_pos v _ (by omega)]
  simp only[br_t]
  rw[aE ⟨by omega,z⟩,hx,bd_s,aE (cS (by omega) (by omega)),aE ⟨by omega,by omega⟩,hy,bd_s]
  cases(v[e+i.toNat]! !=v[e+(i-1).toNat]!)with
  | true=>
   rw[br_t,aE ⟨by omega,z⟩,bd_s,aE ⟨by omega,by omega⟩,hz,bd_s,aE (cS (by omega) (by omega)),bd_s]
   simp only
   rw[aE (cS (by omega) (by omega))]
   exact⟨_,rfl,⟨by simp[D],rfl,by dsimp only;omega,by dsimp only;omega,by dsimp only;omega,by dsimp only;omega⟩,by dsimp only;omega⟩
  | false=>
   rw[br_f,bd_s]
   simp only
   rw[aE (cS (by omega) (by omega))]
   exact⟨_,rfl,⟨D,rfl,by dsimp only;omega,by dsimp only;omega,by dsimp only;omega,by dsimp only;omega⟩,by dsimp only;omega⟩
 ·right
  rw[show decide (i<((l.length-e:Nat):Int))=false by simpa using z]
  exact⟨_,rfl,D,by dsimp only;omega,by dsimp only;omega⟩
def adj (l:List Int) (i:Nat):Bool:=l[i+1]? ==l[i]?
theorem aAA {fuel:Nat} {l:List Int} (hl:l.length<=1048576) (hf:l.length<fuel):∃r,kI fuel l=some r/\(((r.length:Int)==(l.length:Int))= !(List.range (l.length-1)).any (adj l)):=by
 unfold kI
 by_cases h2:l.length<2
 ·rw[show decide ((l.length:Int)<2)=true by simp;omega,br_t]
  exact⟨l,rfl,by rw[show l.length-1=0 by omega];simp⟩
 ·rw[show decide ((l.length:Int)<2)=false by simp;omega,br_f]
  have key:∀(m fl i:Nat),l.length-i=m->1<=i->i<=l.length->m<fl->fl<=fuel->(∀j,j+1<i->adj l j=false)->∃o,aL (gZ fuel) fl (l,(i:Int))=some o/\((o= .inl l/\∀j,j+1<l.length->adj l j=false)∨∃r,o= .inr r/\r.length<l.length/\∃j,j+1<l.length/\adj l j=true):=by
   intro m
   induction m with
   | zero=>
    intro fl i hm Y hi H I D
    obtain rfl:i=l.length:=by omega
    cases fl with
    | zero=>omega
    | succ fl=>
     unfold aL gZ
     simp only[show decide ((l.length:Int)<(l.length:Int))=false by simp,br_f]
     exact⟨_,rfl,.inl ⟨rfl,D⟩⟩
   | succ m ih=>
    intro fl i hm Y hi H I D
    cases fl with
    | zero=>omega
    | succ fl=>
    have e:i<l.length:=by omega
    have hx:l[0+(i:Int).toNat]?=some l[i]:=by rw[show 0+(i:Int).toNat=i by omega];exact iD e
    have hy:l[0+((i:Int)-1).toNat]?=some l[i-1]:=by rw[show 0+((i:Int)-1).toNat=i-1 by omega];exact iD (by omega)
    have z:adj l (i-1)=(l[i]==l[i-1]):=by
     unfold adj
     rw[show i-1+1=i by omega,iD e,iD (show i-1<l.length by omega)]
     simp
    have ih:=ih fl (i+1) (by omega) (by omega) (by omega) (by omega) (by omega)
    unfold aL
    generalize aL (gZ fuel) fl=lf at ih⊢
    unfold gZ
    simp only[show decide ((i:Int)<(l.length:Int))=true by simpa using e,br_t]
    rw[aE ⟨by omega,by omega⟩,hx,bd_s,aE (cS (by omega) (by omega)),aE ⟨by omega,by omega⟩,hy,bd_s]
    cases he:l[i]==l[i-1]with
    | true=>
     rw[br_t,aE ⟨by omega,by omega⟩]
     obtain⟨o,M,R,p3,p4⟩:=TS fuel i l hl Y e hf
     rw[show(0+(i:Int).toNat,l.length-(i:Int).toNat)=(i,l.length-i) by simp,M,bd_s]
     obtain⟨o1,o2⟩:=o
     simp only at R p3 p4⊢
     rw[aE ⟨by omega,by omega⟩,aE ⟨by omega,by omega⟩]
     refine⟨_,rfl,.inr ⟨_,rfl,?_,i-1,by omega,by rw[z,he]⟩⟩
     rw[aF];omega
    | false=>
     rw[br_f,aE (cS (by omega) (by omega))]
     simp only
     rw[show(i:Int)+1=((i+1:Nat):Int) by omega]
     exact ih fun j hj2=>by
      by_cases W:j=i-1
      ·rw[W,z,he]
      ·exact D j (by omega)
  obtain⟨o,M,R⟩:=key (l.length-1) fuel 1 rfl (by omega) (by omega) (by omega) (bB _) (fun j D=>by omega)
  rw[show(1:Int)=((1:Nat):Int)from rfl,M]
  rcases R with⟨rfl,h3⟩ |⟨r,rfl,h3,j,h4,h5⟩
  ·refine⟨l,rfl,?_⟩
   rw[show(List.range (l.length-1)).any (adj l)=false from List.any_eq_false.2 fun j D=>by rw[h3 j (by have:=List.mem_range.1 D;omega)];simp]
   simp
  ·refine⟨r,rfl,?_⟩
   rw[show(List.range (l.length-1)).any (adj l)=true from List.any_eq_true.2 ⟨j,List.mem_range.2 (by omega),h5⟩]
   simp;omega
theorem S7:∀{l:List Int},l.Pairwise (·<=·)->((List.range (l.length-1)).any (adj l)=false↔l.Nodup)
 | [],_=>by simp
 | [x],_=>by simp
 | x::y::l,h=>by
  have ih:=S7 (l:=y::l) (List.pairwise_cons.1 h).2
  have e:(List.range ((x::y::l).length-1)).any (adj (x::y::l))=((y==x)||(List.range ((y::l).length-1)).any (adj (y::l))):=by
   rw[show(x::y::l).length-1=((y::l).length-1)+1 by simp,List.range_succ_eq_map,o4,vE]
   congr 1
  rw[e,bL,ih,gH (a:=x)]
  constructor
  ·rintro⟨z,D⟩
   refine⟨fun hm=> ?_,D⟩
   have z:y≠x:=by simpa using z
   rcases List.mem_cons.1 hm with rfl|hm
   ·exact z rfl
   ·have H:=(List.pairwise_cons.1 h).1 y (by simp)
    have q2:=(List.pairwise_cons.1 (List.pairwise_cons.1 h).2).1 x hm
    omega
  ·rintro⟨z,D⟩
   refine⟨?_,D⟩
   have:y≠x:=fun e=>z (by simp[e])
   simpa using this
theorem OS {l:List Int} (e:l.length<=1048576):fJ l=some (l.mergeSort fun x y=>decide (x<=y)):=by
 unfold fJ
 exact aE (by omega) _
theorem ZZ (l:List Int):(l.mergeSort fun x y=>decide (x<=y)).Pairwise (·<=·):=by
 have:=List.pairwise_mergeSort (le:=fun(x y:Int)=>decide (x<=y)) (fun a b c e z=>by simp at e z⊢;omega) (fun a b=>by simp;omega) l
 exact this.imp fun h=>by simpa using h
def aIv (t:List bV):Prop:=t.length<=31/\(∃T:oD,t=T.flat/\T.ok)/\(oH t).Nodup
open Classical in
noncomputable def uM (t:List bV):Bool:=decide (aIv t)
theorem vP:uM t=true↔aIv t:=by unfold uM;simp
theorem yV (h:b=true↔aIv t):b=uM t:=by rw[dG,vP];exact h
theorem aAI {n:Nat} (H:t.length<=n):PZ n t t=(t.length:Int)↔∃T:oD,t=T.flat/\T.ok:=by
 unfold PZ
 constructor
 ·intro h
  cases z:prs n t with
  | none=>rw[z]at h;simp only at h;omega
  | some p=>
   obtain⟨T,r⟩:=p
   rw[z]at h
   simp only at h
   obtain⟨e,D⟩:=F0 z
   have:r=[]:=aR (by omega)
   subst this
   exact⟨T,by simpa using e,D⟩
 ·rintro⟨T,e,D⟩
  have:=rH (r:=[]) (n:=n) D (by rw[<-e];exact H)
  rw[bO,<-e]at this
  rw[this]
  simp
theorem JQ {fuel:Nat} (Y:2*t.length+100<fuel):zA fuel t=some (uM t):=by
 unfold zA
 by_cases e:t.length<=31
 ·have H:decide ((31:Int)<(t.length:Int))=false:=by simp;omega
  have I:=PY fuel t (by omega) fuel 0 (by omega) (by omega)
  rw[dK]at I
  rw[show((0:Nat):Int)=0 from rfl]at I
  rw[H,br_f,I,bd_s,bd_s]
  simp only
  by_cases D:PZ fuel t t=(t.length:Int)
  ·rw[show(PZ fuel t t !=(t.length:Int))=false by simp[D],br_f,uU (by omega) (by omega),bd_s]
   have hl:=sX t
   have z:((oH t).mergeSort fun x y=>decide (x<=y)).length=(oH t).length:=iU ..
   rw[OS (by omega),bd_s,K6 (eK (by omega) (by decide)),bd_s]
   obtain⟨r,W,M⟩:=aAA (fuel:=fuel) (l:=(oH t).mergeSort fun x y=>decide (x<=y)) (by omega) (by omega)
   rw[W,bd_s]
   rw[z]at M
   rw[M]
   congr 1
   refine yV ?_
   have R:=S7 (ZZ (oH t))
   rw[z]at R
   rw[dC,R,(jP (oH t) _).nodup_iff]
   exact⟨fun h=>⟨e,(aAI (by omega)).1 D,h⟩,fun h=>h.2.2⟩
  ·rw[show(PZ fuel t t !=(t.length:Int))=true by simp[D],br_t]
   congr 1
   exact yV ⟨fun h=>(by cases h),fun h=>absurd ((aAI (by omega)).2 h.2.1) D⟩
 ·have H:decide ((31:Int)<(t.length:Int))=true:=by simp;omega
  rw[H,br_t,bd_s]
  simp only[br_t]
  congr 1
  exact yV ⟨fun h=>(by cases h),fun h=>absurd h.1 e⟩
def qM (x:bV):Bool:=mU x||mB x
theorem LN {x:bV} (h:mU x=true):x.Pane≠0:=by
 unfold mU at h
 simp only[aB,bN]at h
 omega
theorem mC {x:bV} (h:mB x=true):x.Pane=0:=by
 unfold mB at h
 simp only[aB,fX]at h
 exact h.1
theorem WF:∀{T:oD},T.ok->T.sh/\∀x∈T.flat,qM x=true
 | .leaf x,h=>⟨h.1,fun y hy=>by rw[List.mem_singleton.1 hy];unfold qM;rw[h.2];rfl⟩
 | .node x a b,h=>by
  obtain⟨e,z⟩:=WF h.2.1
  obtain⟨D,H⟩:=WF h.2.2
  refine⟨⟨mC h.1,e,D⟩,fun y hy=> ?_⟩
  rcases List.mem_cons.1 hy with rfl|hy
  ·unfold qM;rw[h.1];simp
  ·rcases List.mem_append.1 hy with hy|hy
   ·exact z y hy
   ·exact H y hy
theorem aH6:∀{T:oD},T.sh->(∀x∈T.flat,qM x=true)->T.ok
 | .leaf x,h,e=>by
  have:=e x (by simp[oD.flat])
  unfold qM at this
  rw[eZ]at this
  rcases this with h1|h1
  ·exact⟨h,h1⟩
  ·exact absurd (mC h1) h
 | .node x a b,h,e=>by
  have:=e x (by simp[oD.flat])
  unfold qM at this
  rw[eZ]at this
  rcases this with h1|h1
  ·exact absurd h.1 (LN h1)
  ·exact⟨h1,aH6 h.2.1 fun y z=>e y (by simp[oD.flat,z]),aH6 h.2.2 fun y z=>e y (by simp[oD.flat,z])⟩
theorem aAz:aAy 1 t t=(t.length:Int)↔∃T:oD,t=T.flat/\T.sh:=by
 unfold aAy
 constructor
 ·intro h
  cases z:cnt 1 t with
  | none=>rw[z]at h;simp only at h;omega
  | some r=>
   rw[z]at h
   simp only at h
   obtain⟨Ts,D,H,I⟩:=PA (bB 1) z
   have:r=[]:=aR (by omega)
   subst this
   match Ts,D with
   | [T],_=>exact⟨T,by simpa using I,H T (by simp)⟩
 ·rintro⟨T,e,M⟩
  have:=I6 (r:=[]) M (bB 1)
  rw[bO,<-e,if_pos rfl]at this
  rw[this]
  simp
def O2 (t:List bV) (i:Nat):Bool:=match t[i]? with
 | some x=> !qM x||(mU x&&(oH (t.take i)).any fun y=>y==x.Pane)
 | none=>false
theorem XD {t:List bV} (hn:∀x∈t,qM x=true):∀n,n<=t.length->((List.range n).any (O2 t)=false↔(oH (t.take n)).Nodup)
 | 0,_=>by simp[oH]
 | n+1,h=>by
  have H:n<t.length:=by omega
  have hx:t[n]?=some t[n]:=iD H
  have ih:=XD hn n (by omega)
  have M:t[n]∈t:=bQ H
  rw[List.range_succ,List.any_append,bL,ih,cD hx,OE,OG,o4,List.any_nil,Bool.or_false]
  unfold O2
  rw[hx]
  have D:=hn _ M
  generalize t[n]=x at D
  simp only[D,aM,b9]
  by_cases I:x.Pane=0
  ·rw[if_pos I,bO]
   have:mU x=false:=by
    cases R:mU x with
    | false=>rfl
    | true=>exact absurd I (LN R)
   rw[this]
   simp
  ·have R:mU x=true:=by
    unfold qM at D
    rw[eZ]at D
    exact D.resolve_right fun h=>I (mC h)
   rw[if_neg I,R,aK,gT,nE]
   constructor
   ·rintro⟨W,Y⟩
    exact⟨W,by simp,fun y hy z hz e=>Y y hy (by rw[List.mem_singleton.1 hz]at e;simp[e])⟩
   ·rintro⟨W,_,Y⟩
    exact⟨W,fun y hy e=>Y y hy x.Pane (by simp) (by simpa using e)⟩
theorem NO (h:(List.range t.length).any (O2 t)=false):∀x∈t,qM x=true:=fun x D=>by
 obtain⟨i,z⟩:=bD D
 have e:=(iR.1 z).1
 have:=List.any_eq_false.1 h i (List.mem_range.2 e)
 unfold O2 at this
 rw[z]at this
 simp only[Bool.not_eq_true,bL,dX]at this
 exact this.1
theorem br4 (f:Bool->α) (a b d e:Bool):br a (br b (br d (some (f e)) (some (f false))) (some (f false))) (some (f false))=some (f ((a&&b)&&(d&&e))):=by cases a<;>cases b<;>cases d<;>rfl
theorem br3 (f:Bool->α) (a b e:Bool):br a (br b (some (f e)) (some (f false))) (some (f false))=some (f (a&&(b&&e))):=by cases a<;>cases b<;>rfl
theorem SN {fuel:Nat} (ht:t.length<=1048576) (hf:t.length<fuel) (Y:i<t.length):rC fuel (oH (t.take i),t,(t.length:Int),(i:Int))=if O2 t i then some (.inr (.inr false))else some (.inl (oH (t.take (i+1)),t,(t.length:Int),((i+1:Nat):Int))):=by
 have H:t[i]?=some t[i]:=iD Y
 obtain⟨h1,h2,M,R,W⟩:=aV H (by omega)
 have hll:(oH (t.take i)).length<=i:=by have:=sX (t.take i);rw[aF]at this;omega
 rw[cD H,OE,OG]
 have hb:O2 t i=(!qM t[i]||(mU t[i]&&(oH (t.take i)).any fun y=>y==t[i].Pane)):=by unfold O2;rw[H]
 rw[hb]
 generalize t[i]=x at H M
 have e:dP fuel (oH (t.take i)) x.Pane=some ((oH (t.take i)).any fun y=>y==x.Pane):=mN (by omega) (by omega)
 have hr:cR K.int (oH (t.take i)++ [x.Pane]).length:=eK (by simp;omega) (by decide)
 unfold rC
 simp only[h1,br_t,aE h2,M,bd_s]
 have q1:mU x=(decide (1<=x.Pane)&&decide (x.Pane<=1000000)&&(!x.Down&&x.First==0)):=rfl
 have q2:mB x=(x.Pane==0&&(decide (1<=x.First)&&decide (x.First<=120))):=rfl
 have k1:=br4 (fun z=>(x,oH (t.take i),z,t,(t.length:Int),(i:Int))) (decide (1<=x.Pane)) (decide (x.Pane<=1000000)) (!x.Down) (x.First==0)
 have k2:=br3 (fun z=>(x,oH (t.take i),mU x,z,t,(t.length:Int),(i:Int))) (x.Pane==0) (decide (1<=x.First)) (decide (x.First<=120))
 rw[k1,<-q1,bd_s]
 dsimp only
 rw[k2,<-q2,bd_s]
 dsimp only
 unfold qM
 cases hl:mU x with
 | true=>
  have I:=LN hl
  have D:mB x=false:=by
   cases D:mB x with
   | false=>rfl
   | true=>exact absurd (mC D) I
  simp only[br_t,br_f,bd_s,aM,e,D,Bool.or_false,b9,aK]
  cases(oH (t.take i)).any fun y=>y==x.Pane with
  | true=>simp
  | false=>
   simp only[br_f,br_t,aE hr,jn_l]
   rw[W,aE R,if_neg I]
   simp
 | false=>
  cases D:mB x with
  | true=>
   have I:=mC D
   simp only[br_t,br_f,bd_s,aZ,aM,jn_l,b9,dJ]
   rw[W,aE R,if_pos I]
   simp
  | false=>simp
theorem KD {fuel:Nat} (hf:2*t.length+100<fuel):AV fuel t=some (uM t):=by
 unfold AV
 by_cases z:t.length<=31
 ·have H:decide ((31:Int)<(t.length:Int))=false:=by simp;omega
  have I:=V9 (fuel:=fuel) (t:=t) (i:=0) (by omega) (by omega) (by omega)
  rw[dK]at I
  rw[show((0:Nat):Int)=0 from rfl]at I
  rw[H,br_f,I,bd_s,bd_s]
  simp only
  by_cases D:aAy 1 t t=(t.length:Int)
  ·rw[show(aAy 1 t t !=(t.length:Int))=false by simp[D],br_f]
   have M:aL (rC fuel) fuel ([],t,(t.length:Int),0)=some (if(List.range t.length).any (O2 t)then .inr false else .inl ()):=
    fG (fun i=>(oH (t.take i),t,(t.length:Int),(i:Int))) t.length (O2 t) _ _ rfl (fun i hi=>SN (by omega) (by omega) hi) (by unfold rC;simp) (by omega)
   rw[M]
   have hb:(!(List.range t.length).any (O2 t))=uM t:=by
    refine yV ?_
    rw[dC]
    constructor
    ·intro h
     have Y:=NO h
     obtain⟨T,e,hs⟩:=aAz.1 D
     refine⟨z,⟨T,e,aH6 hs fun x R=>Y x (by rw[e];exact R)⟩,?_⟩
     have:=(XD Y t.length (bB _)).1 h
     rwa[iV]at this
    ·rintro⟨_,⟨T,e,W⟩,hd⟩
     refine(XD (fun x R=>(WF W).2 x (by rw[<-e];exact R)) t.length (bB _)).2 ?_
     rwa[iV]
   rw[<-hb]
   cases(List.range t.length).any (O2 t)<;>rfl
  ·rw[show(aAy 1 t t !=(t.length:Int))=true by simp[D],br_t]
   congr 1
   refine yV ⟨fun h=>(by cases h),fun h=> ?_⟩
   obtain⟨T,e,W⟩:=h.2.1
   exact absurd (aAz.2 ⟨T,e,(WF W).1⟩) D
 ·have H:decide ((31:Int)<(t.length:Int))=true:=by simp;omega
  rw[H,br_t,bd_s]
  simp only[br_t]
  congr 1
  exact yV ⟨fun h=>(by cases h),fun h=>absurd h.1 z⟩
abbrev Qd:=Int×Int×Int×Int
def mn (f n:Int):Int:=if n-2<f then n-2 else f
def f1 (x:bV) (q:Qd):Qd:=if x.Down=true then(q.1,q.2.1,q.2.2.1,mn x.First q.2.2.2)else(q.1,q.2.1,mn x.First q.2.2.1,q.2.2.2)
def f2 (x:bV) (q:Qd):Qd:=if x.Down=true then(q.1,q.2.1+mn x.First q.2.2.2+1,q.2.2.1,q.2.2.2-mn x.First q.2.2.2-1)else(q.1+mn x.First q.2.2.1+1,q.2.1,q.2.2.1-mn x.First q.2.2.1-1,q.2.2.2)
def ZX (x:bV) (q:Qd):Bool:=decide (3<=if x.Down=true then q.2.2.2 else q.2.2.1)
def QS (p:Int) (q:Qd):bS:=bS.mk p q.1 q.2.1 q.2.2.1 q.2.2.2
def rq (r:bS):Qd:=(r.X,r.Y,r.W,r.H)
def oD.fits:oD->Qd->Bool
 | .leaf _,_=>true
 | .node x a b,q=>ZX x q&&(a.fits (f1 x q)&&b.fits (f2 x q))
def oD.all:oD->Qd->List bS
 | .leaf x,q=> [QS x.Pane q]
 | .node x a b,q=>QS x.Pane q::(a.all (f1 x q)++b.all (f2 x q))
def oD.lf:oD->Qd->List bS
 | .leaf x,q=> [QS x.Pane q]
 | .node x a b,q=>a.lf (f1 x q)++b.lf (f2 x q)
def qOk (q:Qd):Prop:=0<=q.1/\0<=q.2.1/\1<=q.2.2.1/\1<=q.2.2.2/\q.1+q.2.2.1<=1000/\q.2.1+q.2.2.2<=1000
theorem aBA {x:bV} {q:Qd} (h:qOk q) (e:ZX x q=true) (D:1<=x.First):qOk (f1 x q)/\qOk (f2 x q):=by
 obtain⟨X,Y,W,H⟩:=q
 unfold qOk at h
 unfold ZX at e
 simp only[bN]at e h
 unfold qOk f1 f2 mn
 cases z:x.Down with
 | true=>
  rw[z]at e
  simp only[if_true]at e⊢
  split<;>omega
 | false=>
  rw[z]at e
  simp only[if_false,aJ]at e⊢
  split<;>omega
theorem FH {f n:Int} (e:1<=f) (z:f<=120) (D:1<=n) (H:n<=1000): -1<=mn f n/\mn f n<=120:=by
 unfold mn;split<;>omega
theorem G2 {x:bV} (h:mB x=true):1<=x.First/\x.First<=120:=by
 unfold mB at h
 simp only[aB,bN]at h
 exact h.2
theorem aDC (fuel:Nat) {x:bV} {r:bS} (e:qOk (rq r)) (z:1<=x.First) (D:x.First<=120):BU fuel x r=some (QS r.Pane (f1 x (rq r)),QS r.Pane (f2 x (rq r)),ZX x (rq r)):=by
 obtain⟨P,X,Y,W,H⟩:=r
 unfold qOk rq at e
 simp only at e
 have bH:=FH z D e.2.2.2.1 (show H<=1000 by omega)
 have bW:=FH z D e.2.2.1 (show W<=1000 by omega)
 unfold BU QS f1 f2 ZX rq mn
 unfold mn at bH bW
 cases I:x.Down with
 | true=>
  simp only[br_t,bd_s,I,if_true]
  rw[uP (cS (by omega) (by omega)),uP (cS (by omega) (by omega)),uP (cS (by omega) (by omega)),uP (cS (by omega) (by omega)),uP (cS (by omega) (by omega)),bd_s]
 | false=>
  simp only[br_f,bd_s,I,if_false,aJ]
  rw[uP (cS (by omega) (by omega)),uP (cS (by omega) (by omega)),uP (cS (by omega) (by omega)),uP (cS (by omega) (by omega)),uP (cS (by omega) (by omega)),bd_s]
theorem VX {x:bV} {a b:oD} (h:t.drop i=(oD.node x a b).flat++rest):t[i]?=some x/\t.drop (i+1)=a.flat++(b.flat++rest)/\t.drop (i+1+a.flat.length)=b.flat++rest/\i+1+a.flat.length+b.flat.length<=t.length:=by
 have h:t.drop i=x::(a.flat++(b.flat++rest)):=by rw[h];simp[oD.flat]
 have e:t[i]?=some x:=by
  have:(t.drop i)[0]?=some x:=by rw[h];rfl
  rwa[bK,eY]at this
 have z:t.drop (i+1)=a.flat++(b.flat++rest):=by
  have:=tK e
  rw[h]at this
  exact(List.cons.inj this).2.symm
 have D:t.drop (i+1+a.flat.length)=b.flat++rest:=by
  rw[<-kH,z,List.drop_left]
 refine⟨e,z,D,?_⟩
 have H:=(iR.1 e).1
 have:=congrArg List.length z
 simp only[cA,aW]at this
 omega
theorem VW {x:bV} (h:t.drop i=(oD.leaf x).flat++rest):t[i]?=some x:=by
 have:(t.drop i)[0]?=some x:=by rw[h];rfl
 rwa[bK,eY]at this
theorem aG4 {fuel:Nat} {a:oD} (e:t.length<=1048576) (I:2*t.length+100<fuel) (z:a.ok) (h:t.drop i=a.flat++rest) (D:i<=t.length) :
  lU (kF fuel) fuel (t,(i:Int))=some ((i+a.flat.length:Nat):Int)/\sQ fuel t (i:Int)=some ((i+a.flat.length:Nat):Int):=by
 have H:=congrArg List.length h
 simp only[cA,aW]at H
 constructor
 ·rw[PY fuel t e fuel i D (by omega)]
  unfold PZ
  rw[h,rH z (by omega)]
  simp only
  congr 1
  omega
 ·rw[V9 e D (by omega)]
  unfold aAy
  rw[h,I6 (WF z).1 (bB 1),if_pos rfl]
  simp only
  congr 1
  omega
theorem aDD (fuel:Nat) (t:List bV) (ht:t.length<=1048576) (hf:2*t.length+100<fuel):∀(T:oD) (n i:Nat) (rest:List bV) (r:bS) (out:List bS),T.ok->t.drop i=T.flat++rest->T.flat.length<=n->qOk (rq r)->out.length+T.flat.length<=1048600->
  ∃o,lU (hK fuel) n ((i:Int),r,t,out,true,())=some (t,o,T.fits (rq r),())/\(T.fits (rq r)=true->o=out++T.all (rq r))/\o.length<=out.length+T.flat.length
 | .leaf x,0,i,rest,r,out,e,D,z,I,M=>by simp[oD.flat]at z
 | .leaf x,n+1,i,rest,r,out,e,D,z,I,M=>by
  have hx:=VW D
  obtain⟨h1,h2,h3,h4,h5⟩:=aV hx (by omega)
  have hl:(oD.leaf x).flat.length=1:=rfl
  rw[hl]at M
  have hr:cR K.iRect (out++ [bS.mk x.Pane r.X r.Y r.W r.H]).length:=eK (by simp;omega) (by decide)
  have e1:(x.Pane !=0)=true:=by simpa using e.1
  refine⟨out++ [bS.mk x.Pane r.X r.Y r.W r.H],?_,fun _=>rfl,by simp[oD.flat]⟩
  show hK fuel (lU (hK fuel) n) _=_
  generalize lU (hK fuel) n=slf
  unfold hK i6
  simp only[aE h2,h3,bd_s,aE hr,e1,br_t]
  rfl
 | .node x a b,0,i,rest,r,out,e,D,z,I,M=>by simp[oD.flat]at z
 | .node x a b,n+1,i,rest,r,out,e,D,z,I,M=>by
  obtain⟨hx,R,hd2,hle⟩:=VX D
  obtain⟨h1,h2,h3,h4,h5⟩:=aV hx (by omega)
  have hl:(oD.node x a b).flat.length=a.flat.length+b.flat.length+1:=by simp[oD.flat]
  rw[hl]at M z
  have hr:cR K.iRect (out++ [bS.mk x.Pane r.X r.Y r.W r.H]).length:=eK (by simp;omega) (by decide)
  have h0:=mC e.1
  obtain⟨hf1,hf2⟩:=G2 e.1
  have e1:(x.Pane !=0)=false:=by simp[h0]
  have hpo:=aDC fuel (x:=x) (r:=bS.mk x.Pane r.X r.Y r.W r.H) I hf1 hf2
  have iha:=aDD fuel t ht hf a n (i+1) (b.flat++rest) (QS x.Pane (f1 x (rq r))) (out++ [bS.mk x.Pane r.X r.Y r.W r.H]) e.2.1 R (by omega)
  have ihb:=fun o=>aDD fuel t ht hf b n (i+1+a.flat.length) rest (QS x.Pane (f2 x (rq r))) o e.2.2 hd2 (by omega)
  have hend:=(aG4 (fuel:=fuel) (i:=i+1) ht hf e.2.1 R (by omega)).1
  rw[hl]
  unfold oD.fits
  show∃o,hK fuel (lU (hK fuel) n) _=_/\_
  generalize lU (hK fuel) n=slf at iha ihb⊢
  unfold hK i6
  simp only[aE h2,h3,bd_s,aE hr,e1,br_f,aM]
  rw[hpo,bd_s]
  simp only
  have erq:rq (bS.mk x.Pane r.X r.Y r.W r.H)=rq r:=rfl
  rw[erq]
  cases hro:ZX x (rq r)with
  | false=>
   simp only[aZ,br_t,dJ]
   exact⟨_,rfl,fun h=>(by cases h),by simp⟩
  | true=>
   obtain⟨q1,q2⟩:=aBA I hro hf1
   simp only[aM,br_f,aK]
   rw[h5,aE h4]
   obtain⟨oa,a1,a2,a3⟩:=iha q1 (by simp;omega)
   have erf:rq (QS x.Pane (f1 x (rq r)))=f1 x (rq r):=rfl
   have erg:rq (QS x.Pane (f2 x (rq r)))=f2 x (rq r):=rfl
   rw[erf]at a1 a2
   rw[a1,bd_s]
   simp only
   simp only[aW,fV]at a3
   cases hfa:a.fits (f1 x (rq r))with
   | false=>
    simp only[br_f,dJ]
    exact⟨oa,rfl,fun h=>(by cases h),by omega⟩
   | true=>
    simp only[br_t,aK]
    rw[aE h4,hend,bd_s]
    obtain⟨ob,b1,b2,b3⟩:=ihb oa q2 (by omega)
    rw[erg]at b1 b2
    rw[b1,bd_s]
    refine⟨ob,rfl,fun h=> ?_,by omega⟩
    rw[b2 h,a2 hfa]
    simp[oD.all,QS,rq]
theorem SR (fuel:Nat) (t:List bV) (ht:t.length<=1048576) (hf:2*t.length+100<fuel):∀(T:oD) (n i:Nat) (rest:List bV) (r:bS),T.ok->t.drop i=T.flat++rest->T.flat.length<=n->qOk (rq r)->
  ∃l,lU (iK fuel) n (t,(i:Int),r)=some (l,T.fits (rq r))/\(T.fits (rq r)=true->l=T.lf (rq r))/\l.length<=T.flat.length
 | .leaf x,0,i,rest,r,e,hd,hn,D=>by simp[oD.flat]at hn
 | .leaf x,n+1,i,rest,r,e,hd,hn,D=>by
  have hx:=VW hd
  obtain⟨h1,h2,z,h4,h5⟩:=aV hx (by omega)
  have e1:decide (0<x.Pane)=true:=by
   have:=e.2
   unfold mU at this
   simp only[aB,bN]at this
   simp;omega
  refine⟨[bS.mk x.Pane r.X r.Y r.W r.H],?_,fun _=>rfl,by simp[oD.flat]⟩
  show iK fuel (lU (iK fuel) n) _=_
  generalize lU (iK fuel) n=slf
  unfold iK
  simp only[aE h2,z,bd_s,e1,br_t]
  rfl
 | .node x a b,0,i,rest,r,e,hd,hn,D=>by simp[oD.flat]at hn
 | .node x a b,n+1,i,rest,r,e,hd,hn,D=>by
  obtain⟨hx,hd1,hd2,hle⟩:=VX hd
  obtain⟨h1,h2,z,h4,h5⟩:=aV hx (by omega)
  have hl:(oD.node x a b).flat.length=a.flat.length+b.flat.length+1:=by simp[oD.flat]
  rw[hl]at hn
  have h0:=mC e.1
  obtain⟨R,hf2⟩:=G2 e.1
  have e1:decide (0<x.Pane)=false:=by simp[h0]
  have iha:=SR fuel t ht hf a n (i+1) (b.flat++rest) (QS r.Pane (f1 x (rq r))) e.2.1 hd1 (by omega)
  have ihb:=SR fuel t ht hf b n (i+1+a.flat.length) rest (QS r.Pane (f2 x (rq r))) e.2.2 hd2 (by omega)
  have I:=(aG4 (fuel:=fuel) (i:=i+1) ht hf e.2.1 hd1 (by omega)).2
  rw[hl]
  have erf:rq (QS r.Pane (f1 x (rq r)))=f1 x (rq r):=rfl
  have erg:rq (QS r.Pane (f2 x (rq r)))=f2 x (rq r):=rfl
  rw[erf]at iha
  rw[erg]at ihb
  unfold oD.fits
  show∃l,iK fuel (lU (iK fuel) n) _=_/\_
  generalize lU (iK fuel) n=slf at iha ihb⊢
  generalize hle:sQ fuel=le at I
  unfold iK xU
  rw[hle]
  simp only[aE h2,z,bd_s,e1,br_f]
  have parts:∀K:bS×bS×List bV×Int->Option (List bS×Bool),jn (V:=bS×bS×List bV×Int) (
    br x.Down (br (decide (r.H<3)) (some (.inr ([],false))) (bd (gd (cN IntKind.i64 (r.H-2)) (br (decide (r.H-2<x.First)) (gd (cN IntKind.i64 (r.H-2)) (some (r.H-2))) (some x.First))) fun x5=>
     gd (cN IntKind.i64 (r.Y+x5)) (gd (cN IntKind.i64 (r.Y+x5+1)) (gd (cN IntKind.i64 (r.H-x5)) (gd (cN IntKind.i64 (r.H-x5-1)) (some (.inl (bS.mk r.Pane r.X r.Y r.W x5,bS.mk r.Pane r.X (r.Y+x5+1) r.W (r.H-x5-1),t,(i:Int)))))))))
    (br (decide (r.W<3)) (some (.inr ([],false))) (bd (gd (cN IntKind.i64 (r.W-2)) (br (decide (r.W-2<x.First)) (gd (cN IntKind.i64 (r.W-2)) (some (r.W-2))) (some x.First))) fun x6=>
     gd (cN IntKind.i64 (r.X+x6)) (gd (cN IntKind.i64 (r.X+x6+1)) (gd (cN IntKind.i64 (r.W-x6)) (gd (cN IntKind.i64 (r.W-x6-1)) (some (.inl (bS.mk r.Pane r.X r.Y x6 r.H,bS.mk r.Pane (r.X+x6+1) r.Y (r.W-x6-1) r.H,t,(i:Int)))))))))) K
    = if ZX x (rq r)=true then K (QS r.Pane (f1 x (rq r)),QS r.Pane (f2 x (rq r)),t,(i:Int))else some ([],false):=by
   intro K
   obtain⟨P,X,Y,W,H⟩:=r
   unfold qOk rq at D
   simp only at D
   have fst:∀n:Int,1<=n->n<=1000->gd (cN IntKind.i64 (n-2)) (br (decide (n-2<x.First)) (gd (cN IntKind.i64 (n-2)) (some (n-2))) (some x.First))=some (mn x.First n):=by
    intro n hn1 hn2
    rw[aE (cS (by omega) (by omega)),aE (cS (by omega) (by omega))]
    unfold mn
    by_cases hc:n-2<x.First
    ·simp[hc]
    ·simp[hc]
   have bH:=FH R hf2 D.2.2.2.1 (show H<=1000 by omega)
   have bW:=FH R hf2 D.2.2.1 (show W<=1000 by omega)
   simp only[fst H (by omega) (by omega),fst W (by omega) (by omega),bd_s]
   unfold QS f1 f2 ZX rq
   simp only
   cases hdn:x.Down with
   | true=>
    simp only[br_t,if_true]
    by_cases z:H<3
    ·rw[show decide (H<3)=true by simpa using z,br_t,if_neg (by simp;omega)];rfl
    ·rw[show decide (H<3)=false by simpa using z,br_f,aE (cS (by omega) (by omega)),aE (cS (by omega) (by omega)),aE (cS (by omega) (by omega)),aE (cS (by omega) (by omega)),jn_l,if_pos (by simp;omega)]
   | false=>
    simp only[br_f,if_false,aJ]
    by_cases z:W<3
    ·rw[show decide (W<3)=true by simpa using z,br_t,if_neg (by simp;omega)];rfl
    ·rw[show decide (W<3)=false by simpa using z,br_f,aE (cS (by omega) (by omega)),aE (cS (by omega) (by omega)),aE (cS (by omega) (by omega)),aE (cS (by omega) (by omega)),jn_l,if_pos (by simp;omega)]
  rw[parts]
  cases hro:ZX x (rq r)with
  | false=>
   simp only[aJ,if_false,dJ]
   exact⟨[],rfl,fun h=>(by cases h),by simp⟩
  | true=>
   obtain⟨q1,q2⟩:=aBA D hro R
   simp only[if_true,aK]
   rw[h5,aE h4]
   obtain⟨la,a1,a2,a3⟩:=iha q1
   obtain⟨lb,b1,b2,b3⟩:=ihb q2
   rw[a1,bd_s]
   simp only
   rw[aE h4,I,bd_s,b1,bd_s]
   simp only
   rw[aE (eK (by simp;omega) (by decide))]
   have M:(la++lb).length<=a.flat.length+b.flat.length+1:=by simp;omega
   cases hfa:a.fits (f1 x (rq r))with
   | false=>
    simp only[br_f,bd_s,dJ]
    exact⟨_,rfl,fun h=>(by cases h),M⟩
   | true=>
    simp only[br_t,bd_s,aK]
    exact⟨_,rfl,fun h=>by rw[a2 hfa,b2 h];rfl,M⟩
instance:Inhabited bS:=⟨bS.mk 0 0 0 0 0⟩
theorem aCj:∀{T:oD} {q:Qd},T.ok->(T.all q).filter (fun r=> !(r.Pane==0))=T.lf q
 | .leaf x,q,h=>by
  have e:(QS x.Pane q).Pane≠0:=h.1
  show [QS x.Pane q].filter _=[QS x.Pane q]
  simp[e]
 | .node x a b,q,h=>by
  have e:(QS x.Pane q).Pane=0:=mC h.1
  show(QS x.Pane q::(a.all (f1 x q)++b.all (f2 x q))).filter _=a.lf (f1 x q)++b.lf (f2 x q)
  rw[List.filter_cons]
  simp only[e,beq_self_eq_true,aM,aJ,if_false,eP]
  rw[aCj h.2.1,aCj h.2.2]
theorem N7:∀(T:oD) (q:Qd),(T.all q).length=T.flat.length
 | .leaf x,q=>rfl
 | .node x a b,q=>by simp[oD.all,oD.flat,N7 a,N7 b]
theorem TU {fuel:Nat} {l:List bS} (hl:l.length<=1048600) (hf:l.length<fuel):eT fuel l=some (l.filter fun r=> !(r.Pane==0)):=by
 unfold eT gQ
 rcases kZ (B:=d7 fuel) (fun i=>(l,(l.length:Int),(i:Int))) l (fun x=>x.Pane==0) (fun i=> .inr (i:Int)) (.inl ()) (fuel:=fuel) (v:=(l,(l.length:Int),0)) rfl (fun i x hx=>by
  obtain⟨D,H,h3,h4,h5⟩:=aV hx (by omega)
  unfold d7 tV
  simp only[D,br_t,aE H,h3,bd_s,h5,aE h4]
  cases x.Pane==0<;>rfl) (by
  unfold d7
  simp) hf with⟨i,x,D,H,h3,h4⟩ |⟨D,H⟩
 ·have hi:=(iR.1 D).1
  rw[h4]
  simp only[jn_r,bd_s]
  rw[show((i:Int)== -1)=false by simp,br_f,aE (cS (by omega) (by omega))]
  have z:l.take i=(l.take (i+1)).filter fun r=> !(r.Pane==0):=by
   rw[cD D,eP]
   have I:(l.take i).filter (fun r=> !(r.Pane==0))=l.take i:=List.filter_eq_self.2 fun y hy=>by
    obtain⟨j,hj⟩:=bD hy
    have M:j<i:=by have:=(iR.1 hj).1;simp at this;omega
    rw[aU,if_pos M]at hj
    rw[h3 j y M hj];rfl
   rw[I]
   simp[H]
  obtain⟨o,p1,p2,p3,p4,p5⟩:=y2 (V:=List bS×Int×Int) (O:=List bS×Int) (B:=fU fuel)
   (fun v=>v.1.length=l.length/\0<=v.2.1/\v.2.1<v.2.2/\v.2.2<=(l.length:Int)/\v.1.take v.2.1.toNat=(l.take v.2.2.toNat).filter (fun r=> !(r.Pane==0))/\v.1.drop v.2.2.toNat=l.drop v.2.2.toNat)
   (fun v=>((l.length:Int)-v.2.2).toNat) (fun o=>o.1.length=l.length/\0<=o.2/\o.2<=(l.length:Int)/\o.1.take o.2.toNat=l.filter (fun r=> !(r.Pane==0))) (by
    rintro⟨v,k,j⟩ ⟨a1,a2,a3,a4,a5,a6⟩
    simp only at a1 a2 a3 a4 a5 a6⊢
    unfold fU
    simp only
    by_cases hlt:j<(l.length:Int)
    ·left
     rw[show decide (j<(v.length:Int))=true by simp;omega,br_t,aE ⟨by omega,by omega⟩]
     have R:l[j.toNat]?=some l[j.toNat]!:=by rw[iD (by omega),getElem!_pos l _ (by omega)]
     have hjv:v[0+j.toNat]?=some l[j.toNat]!:=by
      rw[<-R,bP]
      have I:=bK (xs:=v) (i:=j.toNat) (j:=0)
      have e2:=bK (xs:=l) (i:=j.toNat) (j:=0)
      rw[a6]at I
      rw[eY]at I e2
      rw[<-I,<-e2]
     have hkv:v[0+k.toNat]?=some v[k.toNat]!:=by rw[bP,iD (by omega),getElem!_pos v _ (by omega)]
     have hd:v.drop (j+1).toNat=l.drop (j+1).toNat:=by
      have e:(j+1).toNat=j.toNat+1:=by omega
      rw[e,<-kH,<-kH,a6]
     have ht:l.take (j+1).toNat=l.take j.toNat++ [l[j.toNat]!]:=by
      rw[show(j+1).toNat=j.toNat+1 by omega,cD R]
     rw[hjv,bd_s]
     unfold tV
     rw[bd_s]
     generalize l[j.toNat]! = x9 at *
     cases W:(x9.Pane==0)with
     | true=>
      simp only[aM,br_f,bd_s]
      rw[aE (cS (by omega) (by omega))]
      refine⟨_,rfl,⟨a1,a2,by dsimp only;omega,by dsimp only;omega,?_,hd⟩,by dsimp only;omega⟩
      dsimp only
      rw[ht,eP,<-a5]
      simp[W]
     | false=>
      simp only[aZ,br_t]
      rw[aE ⟨by omega,by omega⟩,hkv,bd_s,aE (cS (by omega) (by omega)),bd_s]
      simp only
      rw[aE (cS (by omega) (by omega))]
      refine⟨_,rfl,⟨by simp[a1],by dsimp only;omega,by dsimp only;omega,by dsimp only;omega,?_,?_⟩,by dsimp only;omega⟩
      ·dsimp only
       rw[ht,eP,<-a5,show(k+1).toNat=k.toNat+1 by omega,bP]
       have Y:(v.set k.toNat x9)[k.toNat]?=some x9:=by rw[jX (by omega)]
       rw[cD Y,List.take_set_of_le (bB _)]
       simp[W]
      ·dsimp only
       rw[bP,List.drop_set_of_lt (by omega)]
       exact hd
    ·right
     rw[show decide (j<(v.length:Int))=false by simp;omega,br_f]
     refine⟨_,rfl,a1,a2,by dsimp only;omega,?_⟩
     dsimp only
     rw[a5,List.take_of_length_le (by omega)]) fuel (l,(i:Int),(i:Int)+1) ⟨rfl,by dsimp only;omega,by dsimp only;omega,by dsimp only;omega,by
      dsimp only
      rw[show((i:Int)+1).toNat=i+1 by omega,show(i:Int).toNat=i by omega]
      exact z,rfl⟩ (by dsimp only;omega)
  rw[p1,bd_s]
  obtain⟨v,k⟩:=o
  simp only at p2 p3 p4 p5⊢
  rw[aE ⟨by omega,by omega⟩,aE ⟨by omega,by omega⟩]
  congr 1
  rw[<-p5,Nat.sub_zero,dK,bP]
  unfold CO
  rw[aQ,List.take_append_of_le_length (by rw[aF];omega),nU,Nat.min_self]
 ·rw[H]
  simp only[jn_l,bd_s]
  rw[show((-1:Int)== -1)=true by rfl,br_t]
  congr 1
  exact(List.filter_eq_self.2 fun y hy=>by rw[D y hy];rfl).symm
def noR:bS:=bS.mk 0 0 0 0 0
noncomputable def iY (t:List bV) (w h:Int):List bS×Bool:=if uM t=true/\(1<=w/\w<=120)/\1<=h/\h<=120 then(match prs t.length t with
 | some (T,_)=>if T.fits (0,0,w,h)=true then(T.lf (0,0,w,h),true)else([],false)
 | none=>([],false))else([],false)
theorem CK (h:uM t=true):∃T:oD,t=T.flat/\T.ok/\prs t.length t=some (T,[]):=by
 obtain⟨_,⟨T,e,z⟩,_⟩:=vP.1 h
 have:=rH (r:=[]) (n:=t.length) z (by rw[<-e];exact bB _)
 rw[bO,<-e]at this
 exact⟨T,e,z,this⟩
theorem JN {fuel:Nat} (I:2*t.length+100<fuel):y7 fuel t w h=some (iY t w h):=by
 unfold y7 L5 HR iY
 rw[JQ I,bd_s,pI_within_eq,pI_within_eq]
 cases M:uM t with
 | false=>simp
 | true=>
  simp only[aM,br_f,bd_s]
  by_cases D:1<=w/\w<=120
  ·rw[show(decide (1<=w)&&decide (w<=120))=true by simp[D.1,D.2]]
   by_cases H:1<=h/\h<=120
   ·rw[show(decide (1<=h)&&decide (h<=120))=true by simp[H.1,H.2],if_pos ⟨trivial,D,H⟩]
    obtain⟨T,e,R,hp⟩:=CK M
    have W:=(vP.1 M).1
    rw[hp]
    simp only[aM,br_f,bd_s]
    obtain⟨o,Y,h2,h3⟩:=aDD fuel t (by omega) I T fuel 0 [] (bS.mk 0 0 0 w h) [] R (by rw[dK,bO];exact e) (by rw[<-e];omega) (by unfold qOk rq;simp only;omega) (by rw[<-e];simp;omega)
    rw[show((0:Nat):Int)=0 from rfl,show rq (bS.mk 0 0 0 w h)=(0,0,w,h)from rfl]at Y
    rw[show rq (bS.mk 0 0 0 w h)=(0,0,w,h)from rfl]at h2
    rw[Y,bd_s]
    simp only[bd_s]
    cases z:T.fits (0,0,w,h)with
    | false=>simp
    | true=>
     have e2:=h2 z
     rw[cV]at e2
     subst e2
     simp only[aM,br_f,if_true]
     rw[TU (by rw[N7,<-e];omega) (by rw[N7,<-e];omega),bd_s,aCj R]
   ·rw[show(decide (1<=h)&&decide (h<=120))=false by rw[gW];simp;omega,if_neg (by omega)]
    simp
  ·rw[show(decide (1<=w)&&decide (w<=120))=false by rw[gW];simp;omega,if_neg (by omega)]
   simp
theorem KA {fuel:Nat} (H:2*t.length+100<fuel):AP fuel t w h=some (iY t w h):=by
 unfold AP iY
 rw[KD H,bd_s]
 cases I:uM t with
 | false=>simp
 | true=>
  simp only[aM,br_f]
  by_cases Y:1<=w/\w<=120
  ·by_cases hh:1<=h/\h<=120
   ·rw[show decide (w<1)=false by simp;omega,show decide (120<w)=false by simp;omega,show decide (h<1)=false by simp;omega,show decide (120<h)=false by simp;omega,if_pos ⟨trivial,Y,hh⟩]
    obtain⟨T,e,ho,hp⟩:=CK I
    have M:=(vP.1 I).1
    rw[hp]
    simp only[br_f,bd_s]
    obtain⟨l,R,W,h3⟩:=SR fuel t (by omega) H T fuel 0 [] (bS.mk 0 0 0 w h) ho (by rw[dK,bO];exact e) (by rw[<-e];omega) (by unfold qOk rq;simp only;omega)
    rw[show((0:Nat):Int)=0 from rfl,show rq (bS.mk 0 0 0 w h)=(0,0,w,h)from rfl]at R
    rw[show rq (bS.mk 0 0 0 w h)=(0,0,w,h)from rfl]at W
    rw[R,bd_s]
    simp only
    cases D:T.fits (0,0,w,h)with
    | false=>simp
    | true=>
     rw[W D]
     simp
   ·rw[if_neg (by omega)]
    by_cases z:h<1
    ·simp[z,show¬w<1 by omega,show¬120<w by omega]
    ·simp[z,show 120<h by omega,show¬w<1 by omega,show¬120<w by omega]
  ·rw[if_neg (by omega)]
   by_cases z:w<1
   ·simp[z]
   ·simp[z,show 120<w by omega]
theorem aC4:∀(T:oD) (q:Qd),(T.lf q).length<=T.flat.length
 | .leaf x,q=>bB _
 | .node x a b,q=>by have:=aC4 a (f1 x q);have:=aC4 b (f2 x q);simp[oD.lf,oD.flat];omega
theorem ND (t:List bV) (w h:Int):(iY t w h).1.length<=t.length:=by
 unfold iY
 split
 ·rename_i z
  obtain⟨T,e,H,D⟩:=CK z.1
  rw[D]
  simp only
  split
  ·rw[e];exact aC4 T _
  ·exact cT _
 ·exact cT _
noncomputable def AW (t:List bV) (w h p:Int):bS×Bool:=match(iY t w h).1.find? (fun r=>r.Pane==p)with
 | some r=>(r,true)
 | none=>(noR,false)
theorem JB {l:List α} {q:α->Bool} {x:α} (z:l[i]?=some x) (D:q x=true) (H:∀(j:Nat) y,j<i->l[j]?=some y->q y=false):l.find? q=some x:=by
 obtain⟨I,e⟩:=iR.1 z
 have:l.find? q=some l[i]:=List.find?_eq_some_iff_getElem.2 ⟨by rw[e];exact D,i,I,rfl,fun j M=>by
  rw[H j l[j] M (iD (by omega))];rfl⟩
 rw[this,e]
theorem GP {fuel:Nat} (R:2*t.length+100<fuel) (Y:t.length<=1048576):BN fuel t w h p=some (AW t w h p):=by
 unfold BN AW gK
 rw[JN R,bd_s]
 have M:=ND t w h
 generalize iY t w h=pl at M
 obtain⟨l,b⟩:=pl
 simp only at M⊢
 rcases kZ (B:=d3 fuel) (fun i=>(p,l,(l.length:Int),(i:Int))) l (fun x=>x.Pane==p) (fun i=> .inr ((i:Int),p)) (.inl p) (fuel:=fuel) (v:=(p,l,(l.length:Int),0)) rfl (fun i x D=>by
  obtain⟨e,z,H,I,W⟩:=aV D (by omega)
  unfold d3 BO
  simp only[e,br_t,aE z,H,bd_s,W,aE I]
  cases x.Pane==p<;>rfl) (by
  unfold d3
  simp) (by omega)with⟨i,x,e,z,H,I⟩ |⟨e,z⟩
 ·have hi:=(iR.1 e).1
  rw[I]
  simp only[jn_r,bd_s]
  rw[show decide ((i:Int)<0)=false by simp,br_f,aE ⟨by omega,by omega⟩,show(i:Int).toNat=i by omega,e,bd_s,JB e z H]
 ·rw[z]
  simp only[jn_l,bd_s]
  rw[show decide ((-1:Int)<0)=true by rfl,br_t,List.find?_eq_none.2 fun x D=>by rw[e x D];simp]
  rfl
theorem GS {fuel:Nat} (R:2*t.length+100<fuel) (Y:t.length<=1048576):CF fuel t w h p=some (AW t w h p):=by
 unfold CF AW
 rw[KA R,bd_s]
 have M:=ND t w h
 generalize iY t w h=pl at M
 obtain⟨l,b⟩:=pl
 simp only at M⊢
 have key:(∃(i:Nat) (x:bS),l[i]?=some x/\(x.Pane==p)=true/\(∀(j:Nat) y,j<i->l[j]?=some y->(y.Pane==p)=false)/\aL (mR fuel) fuel (bS.mk 0 0 0 0 0,p,l,(l.length:Int),0)=some (.inr ((l[i]?).getD noR,true)))∨((∀x∈l,(x.Pane==p)=false)/\aL (mR fuel) fuel (bS.mk 0 0 0 0 0,p,l,(l.length:Int),0)=some (.inl noR)):=
  kZ (B:=mR fuel) (fun i=>(bS.mk 0 0 0 0 0,p,l,(l.length:Int),(i:Int))) l (fun x=>x.Pane==p) (fun i=> .inr ((l[i]?).getD noR,true)) (.inl noR) rfl (fun i x D=>by
   obtain⟨e,z,H,I,W⟩:=aV D (by omega)
   unfold mR
   rw[D]
   simp only[e,br_t,aE z,bP,H,bd_s,W,aE I]
   cases x.Pane==p<;>rfl) (by
   unfold mR
   simp[noR]) (by omega)
 rcases key with⟨i,x,e,z,H,I⟩ |⟨e,z⟩
 ·rw[I]
  simp only[jn_r]
  rw[JB e z H,e]
  rfl
 ·rw[z]
  simp only[jn_l]
  rw[List.find?_eq_none.2 fun x D=>by rw[e x D];simp]
  rfl
noncomputable def jT (t:List bV):List Int:=if uM t=true then oH t else []
theorem D2 (t:List bV):(jT t).length<=t.length:=by
 unfold jT
 split
 ·exact sX t
 ·exact cT _
theorem ZA {fuel:Nat} (e:2*t.length+100<fuel):FK fuel t=some (jT t):=by
 unfold FK jT
 rw[JQ e,bd_s]
 cases z:uM t with
 | false=>rfl
 | true=>
  have:=(vP.1 z).1
  simp only[aM,br_f,if_true]
  rw[uU (by omega) (by omega),bd_s]
theorem CB {fuel:Nat} (hf:2*t.length+100<fuel):nZ fuel t=some (jT t):=by
 unfold nZ jT
 rw[KD hf,bd_s]
 cases ht:uM t with
 | false=>rfl
 | true=>
  obtain⟨hl,⟨T,e,ho⟩,_⟩:=vP.1 ht
  have hn:∀x∈t,qM x=true:=fun x D=>(WF ho).2 x (by rw[<-e];exact D)
  simp only[aM,br_f,if_true]
  have key:aL (uX fuel) fuel ([],t,(t.length:Int),0)=some (oH t):=by
   refine fS (fun i=>(oH (t.take i),t,(t.length:Int),(i:Int))) t.length (oH t) rfl (fun i M=> ?_) (by unfold uX;simp) (by omega)
   have D:t[i]?=some t[i]:=iD M
   have z:=hn _ (bQ M)
   obtain⟨h1,h2,R,W,Y⟩:=aV D (by omega)
   rw[cD D,OE,OG]
   generalize t[i]=x at D R z
   unfold uX
   simp only[h1,br_t,aE h2,R,bd_s]
   have hr:cR K.int (oH (t.take i)++ [x.Pane]).length:=eK (by have:=sX (t.take i);simp at this⊢;omega) (by decide)
   by_cases H:x.Pane=0
   ·have I:decide (0<x.Pane)=false:=by simp[H]
    simp only[I,br_f,bd_s,if_pos H,bO]
    rw[Y,aE W]
   ·have I:decide (0<x.Pane)=true:=by
     unfold qM at z
     rw[eZ]at z
     rcases z with h|h
     ·unfold mU at h;simp only[aB,bN]at h;simp;omega
     ·exact absurd (mC h) H
    simp only[I,br_t,if_neg H,aE hr,bd_s]
    rw[Y,aE W]
  rw[key,bd_s]
def E1 {α:Type} (q:α->Bool) (l:List α):Int:=match l.findIdx? q with
 | some i=>(i:Int)
 | none=> -1
theorem aCS {l:List α} {q:α->Bool} {x:α} (z:l[i]?=some x) (D:q x=true) (H:∀(j:Nat) y,j<i->l[j]?=some y->q y=false):l.findIdx? q=some i:=by
 obtain⟨I,e⟩:=iR.1 z
 exact List.findIdx?_eq_some_iff_getElem.2 ⟨I,by rw[e];exact D,fun j M=>by
  rw[H j l[j] M (iD (by omega))];simp⟩
theorem j3 {V:Type} {B:V->Option (V⊕O)} (f:Nat->V) (l:List α) (q:α->Bool) (R:Nat->O) (E:O) {fuel:Nat} {v:V} (D:v=f 0) (h:∀i x,l[i]?=some x->B (f i)=if q x then some (.inr (R i))else some (.inl (f (i+1)))) (H:B (f l.length)=some (.inr E)) (I:l.length<fuel) :
  aL B fuel v=some (match l.findIdx? q with|some i=>R i|none=>E):=by
 rcases kZ f l q R E D h H I with⟨i,x,e,z,M,W⟩ |⟨e,z⟩
 ·rw[W,aCS e z M]
 ·rw[z,List.findIdx?_eq_none_iff.2 e]
theorem vV {q:α->Bool} {l:List α} (h:l.findIdx? q=some i):E1 q l=(i:Int):=by unfold E1;rw[h]
theorem DN {q:α->Bool} {l:List α} (h:l.findIdx? q=none):E1 q l= -1:=by unfold E1;rw[h]
theorem W9 (q:α->Bool) (l:List α):decide (E1 q l<0)= !l.any q:=by
 cases h:l.findIdx? q with
 | none=>
  rw[DN h]
  have:=List.findIdx?_eq_none_iff.1 h
  rw[show l.any q=false from List.any_eq_false.2 fun x e=>by rw[this x e];simp]
  rfl
 | some i=>
  rw[vV h]
  obtain⟨z,D,_⟩:=List.findIdx?_eq_some_iff_getElem.1 h
  rw[show l.any q=true from List.any_eq_true.2 ⟨l[i],bQ z,D⟩]
  simp
theorem vU (q:α->Bool) (l:List α):decide (0<=E1 q l)=l.any q:=by
 have:=W9 q l
 cases h:l.any q with
 | true=>
  rw[h]at this
  simp only[aM,aY]at this
  simp;omega
 | false=>
  rw[h]at this
  simp only[aZ,bN]at this
  simp;omega
theorem tN {q:α->Bool} {l:List α} (h:l.findIdx? q=some i):∃x,l[i]?=some x/\q x=true:=by
 obtain⟨e,z,_⟩:=List.findIdx?_eq_some_iff_getElem.1 h
 exact⟨l[i],iD e,z⟩
section
variable {fuel:Nat}
theorem aFd {l:List Int} {n:Int} (W:l.length<=1000000000) (e:l.length<fuel):lI fuel l n=some (E1 (fun y=>y==n) l):=by
 unfold lI E1
 have h:=j3 (B:=jW fuel) (fun i=>(l,n,(l.length:Int),(i:Int))) l (fun y=>y==n) (fun i=> .inr (i:Int)) (.inl ()) (v:=(l,n,(l.length:Int),0)) rfl (fun i x z=>by
  obtain⟨D,H,I,M,R⟩:=aV z (by omega)
  unfold jW
  simp only[D,br_t,aE H,I,bd_s,R,aE M]
  rw[show(n==x)=(x==n) by rw[dG];simp;exact eq_comm]
  cases x==n<;>rfl) (by unfold jW;simp) e
 rw[h]
 cases l.findIdx? _<;>rfl
theorem BC {l:List Int} {n:Int} (e:l.length<=1000000000) (z:l.length<fuel):fH fuel l n=some (l.any fun y=>y==n):=by
 unfold fH
 rw[aFd e z,bd_s,vU]
theorem J9 {n:Int} (W:s.Panes.length<=1000000000) (e:s.Panes.length<fuel):vN fuel s n=some (E1 (fun y=>y.Id==n) s.Panes):=by
 unfold vN E1
 have h:=j3 (B:=uZ fuel) (fun i=>(n,s.Panes,(s.Panes.length:Int),(i:Int))) s.Panes (fun y=>y.Id==n) (fun i=> .inr (i:Int)) (.inl ()) (v:=(n,s.Panes,(s.Panes.length:Int),0)) rfl (fun i x z=>by
  obtain⟨D,H,I,M,R⟩:=aV z (by omega)
  unfold uZ
  simp only[D,br_t,aE H,I,bd_s,R,aE M]
  cases x.Id==n<;>rfl) (by unfold uZ;simp) e
 rw[h]
 cases s.Panes.findIdx? _<;>rfl
theorem aBv {n:Int} (W:s.Wins.length<=1000000000) (e:s.Wins.length<fuel):KE fuel s n=some (E1 (fun y=>y.Id==n) s.Wins):=by
 unfold KE E1
 have h:=j3 (B:=xR fuel) (fun i=>(n,s.Wins,(s.Wins.length:Int),(i:Int))) s.Wins (fun y=>y.Id==n) (fun i=> .inr (i:Int)) (.inl ()) (v:=(n,s.Wins,(s.Wins.length:Int),0)) rfl (fun i x z=>by
  obtain⟨D,H,I,M,R⟩:=aV z (by omega)
  unfold xR
  simp only[D,br_t,aE H,I,bd_s,R,aE M]
  cases x.Id==n<;>rfl) (by unfold xR;simp) e
 rw[h]
 cases s.Wins.findIdx? _<;>rfl
theorem aBo {n:Int} (W:s.Wins.length<=1000000000) (e:s.Wins.length<fuel):wE fuel s n=some (E1 (fun y=>y.Id==n) s.Wins):=by
 unfold wE hY E1
 have h:=j3 (B:=eU fuel) (fun i=>(n,s.Wins,(s.Wins.length:Int),(i:Int))) s.Wins (fun y=>y.Id==n) (fun i=> .inr ((i:Int),n)) (.inl n) (v:=(n,s.Wins,(s.Wins.length:Int),0)) rfl (fun i x z=>by
  obtain⟨D,H,I,M,R⟩:=aV z (by omega)
  unfold eU HP
  simp only[D,br_t,aE H,I,bd_s,R,aE M]
  cases x.Id==n<;>rfl) (by unfold eU;simp) e
 rw[h]
 cases s.Wins.findIdx? _<;>rfl
theorem ZM (W:s.Sess.length<=1000000000) (e:s.Sess.length<fuel):FT fuel s n=some (E1 (fun y=>decide (y.Name=n)) s.Sess):=by
 unfold FT E1
 have h:=j3 (B:=u5 fuel) (fun i=>(n,s.Sess,(s.Sess.length:Int),(i:Int))) s.Sess (fun y=>decide (y.Name=n)) (fun i=> .inr (i:Int)) (.inl ()) (v:=(n,s.Sess,(s.Sess.length:Int),0)) rfl (fun i x z=>by
  obtain⟨D,H,I,M,R⟩:=aV z (by omega)
  unfold u5
  simp only[D,br_t,aE H,I,bd_s,R,aE M]
  cases decide (x.Name=n)<;>rfl) (by unfold u5;simp) e
 rw[h]
 cases s.Sess.findIdx? _<;>rfl
theorem ZD (W:s.Sess.length<=1000000000) (e:s.Sess.length<fuel):FL fuel s n=some (E1 (fun y=>decide (y.Name=n)) s.Sess):=by
 unfold FL gR E1
 have h:=j3 (B:=d8 fuel) (fun i=>(n,s.Sess,(s.Sess.length:Int),(i:Int))) s.Sess (fun y=>decide (y.Name=n)) (fun i=> .inr ((i:Int),n)) (.inl n) (v:=(n,s.Sess,(s.Sess.length:Int),0)) rfl (fun i x z=>by
  obtain⟨D,H,I,M,R⟩:=aV z (by omega)
  unfold d8 EA
  simp only[D,br_t,aE H,I,bd_s,R,aE M]
  cases decide (x.Name=n)<;>rfl) (by unfold d8;simp) e
 rw[h]
 cases s.Sess.findIdx? _<;>rfl
structure StF (fuel:Nat) (s:bA):Prop where
 fu:20000000<fuel
 pl:s.Panes.length<=1048576
 wl:s.Wins.length<=1048576
 sl:s.Sess.length<=1048576
 tr:∀w∈s.Wins,w.Tree.length<=1048576
 nm:∀w∈s.Wins,w.Name.size<=1048576
 sw:∀x∈s.Sess,x.Wins.length<=1048576
 sn:∀x∈s.Sess,x.Name.size<=1048576
noncomputable def aAb (p:Int) (w:lF):Bool:=(jT w.Tree).any fun y=>y==p
theorem aBp (h:StF fuel s):JR fuel s p=some (E1 (aAb p) s.Wins):=by
 have:=h.fu;have:=h.wl
 unfold JR hZ E1
 have z:=j3 (fuel:=fuel) (B:=eV fuel) (fun i=>(p,s.Wins,(s.Wins.length:Int),(i:Int))) s.Wins (aAb p) (fun i=> .inr ((i:Int),p)) (.inl p) (v:=(p,s.Wins,(s.Wins.length:Int),0)) rfl (fun i x e=>by
  obtain⟨D,H,I,M,R⟩:=aV e (by omega)
  have Y:=h.tr x (tF e)
  have W:=D2 x.Tree
  unfold eV HQ
  simp only[D,br_t,aE H,I,bd_s,R,aE M]
  rw[ZA (by omega),bd_s,BC (by omega) (by omega),bd_s,bd_s]
  unfold aAb
  cases(jT x.Tree).any fun y=>y==p<;>rfl) (by unfold eV;simp) (by omega)
 rw[z]
 cases s.Wins.findIdx? _<;>rfl
theorem aBw (h:StF fuel s):KF fuel s p=some (E1 (aAb p) s.Wins):=by
 have:=h.fu;have:=h.wl
 unfold KF E1
 have z:=j3 (fuel:=fuel) (B:=xS fuel) (fun i=>(p,s.Wins,(s.Wins.length:Int),(i:Int))) s.Wins (aAb p) (fun i=> .inr (i:Int)) (.inl ()) (v:=(p,s.Wins,(s.Wins.length:Int),0)) rfl (fun i x e=>by
  obtain⟨D,H,I,M,R⟩:=aV e (by omega)
  have Y:=h.tr x (tF e)
  have W:=D2 x.Tree
  unfold xS
  simp only[D,br_t,aE H,I,bd_s,R,aE M]
  rw[CB (by omega),bd_s,mN (by omega) (by omega),bd_s]
  unfold aAb
  cases(jT x.Tree).any fun y=>y==p<;>rfl) (by unfold xS;simp) (by omega)
 rw[z]
 cases s.Wins.findIdx? _<;>rfl
noncomputable def vT (s:bA) (p:Int):Int×Int:=match s.Wins.findIdx? (aAb p)with
 | none=>(0,0)
 | some i=>(match s.Wins[i]? with
  | none=>(0,0)
  | some w=>if(w.Zoom&&w.Active==p)=true then(s.W,s.H)else((AW w.Tree s.W s.H p).1.W,(AW w.Tree s.W s.H p).1.H))
theorem aDr (h:StF fuel s):OI fuel s p=some (vT s p):=by
 have:=h.fu;have:=h.wl
 unfold OI vT
 rw[aBp h,bd_s]
 cases z:s.Wins.findIdx? (aAb p)with
 | none=>rw[DN z];rfl
 | some i=>
  obtain⟨w,e,_⟩:=tN z
  have H:=(iR.1 e).1
  have D:=h.tr w (tF e)
  rw[vV z,show decide ((i:Int)<0)=false by simp,br_f,aE ⟨by omega,by omega⟩,show(i:Int).toNat=i by omega,e,bd_s]
  simp only
  rw[e]
  simp only
  cases I:w.Zoom with
  | false=>
   simp only[br_f,bd_s,dJ,aJ,if_false]
   rw[GP (by omega) D,bd_s]
  | true=>
   simp only[br_t,bd_s,aK]
   cases M:(w.Active==p)with
   | true=>rfl
   | false=>
    simp only[br_f,aJ,if_false]
    rw[GP (by omega) D,bd_s]
theorem aDv (h:StF fuel s):OQ fuel s p=some (vT s p):=by
 have:=h.fu;have:=h.wl
 unfold OQ vT
 rw[aBw h,bd_s]
 cases z:s.Wins.findIdx? (aAb p)with
 | none=>rw[DN z];rfl
 | some i=>
  obtain⟨w,e,_⟩:=tN z
  have H:=(iR.1 e).1
  have D:=h.tr w (tF e)
  rw[vV z,show decide ((i:Int)<0)=false by simp,br_f,aE ⟨by omega,by omega⟩,show(i:Int).toNat=i by omega,e,bd_s]
  simp only
  rw[e]
  simp only
  cases I:w.Zoom with
  | false=>
   simp only[br_f,bd_s,dJ,aJ,if_false]
   rw[GS (by omega) D,bd_s]
  | true=>
   simp only[br_t,bd_s,aK]
   cases M:(w.Active==p)with
   | true=>rfl
   | false=>
    simp only[br_f,aJ,if_false]
    rw[GS (by omega) D,bd_s]
end
def bOk (x:UInt8):Bool:=(decide (97<=x.toNat)&&decide (x.toNat<=122))||(decide (48<=x.toNat)&&decide (x.toNat<=57))
def XC (s:ByteArray) (i:Nat):Bool:=match s[i]? with
 | some x=> !bOk x
 | none=>false
def oZ (s:ByteArray):Bool:= !(List.range s.size).any (XC s)&&(decide (1<=(s.size:Int))&&decide ((s.size:Int)<=12))
theorem N9 {s:ByteArray} (h:i<s.size):s[i]?=some s[i]:=getElem?_pos s i h
theorem aK7 (c:Int):cW (ByteArray.mk #[]) c=some (-1):=by
 unfold cW
 rw[aE (by show(0:Nat)<=_;omega)]
 rfl
theorem CY (x:UInt8):∃a b c d:Bool,decide (97<=(x.toNat:Int))=a/\decide ((x.toNat:Int)<=122)=b/\decide (48<=(x.toNat:Int))=c/\decide ((x.toNat:Int)<=57)=d/\bOk x=((a&&b)||(c&&d)):=by
 refine⟨_,_,_,_,rfl,rfl,rfl,rfl,?_⟩
 unfold bOk
 rw[show decide (97<=(x.toNat:Int))=decide (97<=x.toNat) by rw[decide_eq_decide];omega,show decide ((x.toNat:Int)<=122)=decide (x.toNat<=122) by rw[decide_eq_decide];omega,show decide (48<=(x.toNat:Int))=decide (48<=x.toNat) by rw[decide_eq_decide];omega,show decide ((x.toNat:Int)<=57)=decide (x.toNat<=57) by rw[decide_eq_decide];omega]
theorem BQ {fuel:Nat} {s:ByteArray} (hs:s.size<=1048576) (D:s.size<fuel):pQ fuel s=some (oZ s):=by
 unfold pQ wG oZ
 have key:aL (lD fuel) fuel (s,12,ByteArray.mk #[],(s.size:Int),0)=some (if(List.range s.size).any (XC s)then Sum.inr false else Sum.inl (s,12)):=by
  refine fG (fun i=>(s,12,ByteArray.mk #[],(s.size:Int),(i:Int))) s.size (XC s) (Sum.inr false) (Sum.inl (s,12)) rfl (fun i z=> ?_) (by unfold lD;simp) D
  have e:=N9 z
  unfold lD XC
  rw[e]
  generalize s[i]=x at e
  simp only
  rw[show decide ((i:Int)<(s.size:Int))=true by simpa using z,br_t,aE (by omega),show(i:Int).toNat=i by omega,e,bd_s]
  obtain⟨a,b,c,d,H,I,M,R,W⟩:=CY x
  simp only[H,I,M,R,W,aK7]
  have Y:(i:Int)+1=((i+1:Nat):Int):=by omega
  have hk:cN .i64 ((i:Int)+1):=cS (by omega) (by omega)
  cases a<;>cases b<;>cases c<;>cases d<;>simp only[br_t,br_f,bd_s]<;>first|rfl|(refine(uP hk _).trans ?_;rw[Y];rfl)
 rw[key]
 cases(List.range s.size).any (XC s)with
 | true=>rfl
 | false=>
  simp only[aJ,if_false,jn_l,pI_within_eq,bd_s,aZ,aK]
theorem CG {fuel:Nat} {s:ByteArray} (hs:s.size<=1048576) (W:s.size<fuel):pT fuel s=some (oZ s):=by
 unfold pT oZ
 have key:aL (u6 fuel) fuel (s,0)=some (if(List.range s.size).any (XC s)then Sum.inr false else Sum.inl s):=by
  refine fG (fun i=>(s,(i:Int))) s.size (XC s) (Sum.inr false) (Sum.inl s) rfl (fun i I=> ?_) (by unfold u6;simp) W
  have e:=N9 I
  unfold u6 XC
  rw[e]
  generalize s[i]=x at e
  simp only
  rw[show decide ((i:Int)<(s.size:Int))=true by simpa using I,br_t]
  simp only[aE (show(0:Int)<=(i:Int) by omega),show(i:Int).toNat=i by omega,e,bd_s]
  obtain⟨a,b,c,d,z,D,M,R,Y⟩:=CY x
  have f1:decide ((x.toNat:Int)<97)= !a:=by rw[<-z];by_cases h:97<=(x.toNat:Int)<;>simp[h]<;>omega
  have f2:decide (122<(x.toNat:Int))= !b:=by rw[<-D];by_cases h:(x.toNat:Int)<=122<;>simp[h]<;>omega
  have f3:decide ((x.toNat:Int)<48)= !c:=by rw[<-M];by_cases h:48<=(x.toNat:Int)<;>simp[h]<;>omega
  have f4:decide (57<(x.toNat:Int))= !d:=by rw[<-R];by_cases h:(x.toNat:Int)<=57<;>simp[h]<;>omega
  simp only[f1,f2,f3,f4,Y]
  have h5:(i:Int)+1=((i+1:Nat):Int):=by omega
  have f5:a=true->b=false->c=true/\d=false:=by
   intro H hb
   subst H hb
   simp only[bN,aY]at z D
   constructor
   ·rw[<-M];simp;omega
   ·rw[<-R];simp;omega
  have f6:a=false->b=true:=by
   intro H
   subst H
   simp only[aY]at z
   rw[<-D];simp;omega
  have hk:cN .i64 ((i:Int)+1):=cS (by omega) (by omega)
  cases a<;>cases b<;>cases c<;>cases d<;>simp only[br_t,br_f,bd_s,aM,aZ]<;>first|rfl|(exact absurd (f6 rfl) (by decide))|(have f7:=f5 rfl rfl;simp at f7;done)|(refine(uP hk _).trans ?_;rw[h5];rfl)
 rw[key]
 cases(List.range s.size).any (XC s)with
 | true=>rfl
 | false=>
  simp only[aJ,if_false,jn_l,bd_s,aZ,aK]
  cases decide (1<=(s.size:Int))<;>rfl
def gC (n:Int):ByteArray:=if 0<=n/\n<=4294967295 then⟨(Lib.decDigits n.toNat).toArray⟩else ByteArray.mk #[]
theorem oP (fuel:Nat) (n:Int):lC fuel n=some (gC n):=by
 unfold lC SC gC mE
 rw[pI_within_eq,bd_s,bd_s]
 by_cases h:0<=n/\n<=4294967295
 ·rw[show(decide (0<=n)&&decide (n<=4294967295))=true by simp[h.1,h.2],if_pos h,aE h]
  rfl
 ·rw[show(decide (0<=n)&&decide (n<=4294967295))=false by rw[gW];simp;omega,if_neg h]
  rfl
theorem dig (k:Nat) (e:k<10):UInt8.ofNat (IntKind.u8.wrap (48+(k:Int))).toNat=UInt8.ofNat (48+k):=by
 congr 1
 show((48+(k:Int)) % 256).toNat=_
 omega
theorem QV (fuel:Nat):∀(k m u:Nat),u<10 ^ (k+1)->u<=4294967295->k<m->lU (fK fuel) m (u:Int)=some ⟨(Lib.decDigits u).toArray⟩
 | k,0,u,h,H,I=>by omega
 | k,m+1,u,h,H,I=>by
  show fK fuel (lU (fK fuel) m) (u:Int)=_
  have ih:∀k',k=k'+1->lU (fK fuel) m ((u / 10:Nat):Int)=some ⟨(Lib.decDigits (u / 10)).toArray⟩:=fun k' e=>QV fuel k' m (u / 10) (by subst e;rw[Nat.pow_succ]at h;omega) (by omega) (by omega)
  generalize lU (fK fuel) m=slf at ih⊢
  unfold fK FU
  rw[show decide (0<=(u:Int))=true by simp,show decide ((u:Int)<=4294967295)=true by simp;omega]
  simp only[br_t,bd_s,aM,br_f]
  by_cases z:u<10
  ·rw[show decide ((u:Int)<10)=true by simp;omega,br_t,aE (cS (by omega) (by omega)),K7 z,dig u z]
  ·rw[show decide ((u:Int)<10)=false by simp;omega,br_f]
   have M:(u:Int).tdiv 10=((u / 10:Nat):Int):=by
    rw[Int.tdiv_eq_ediv_of_nonneg (by omega)];omega
   have R:(u:Int).tmod 10=((u % 10:Nat):Int):=by
    rw[Int.tmod_eq_emod_of_nonneg (by omega)];omega
   cases k with
   | zero=>simp at h;omega
   | succ k=>
    have Y:=I8 k (u / 10) (by rw[Nat.pow_succ]at h;omega)
    have D:k<=9∨9<k:=by omega
    rw[M,R,aE (by omega),aE (cS (by omega) (by omega)),ih k rfl,bd_s,aE (by omega),aE (cS (by omega) (by omega)),dig (u % 10) (by omega)]
    have W:=I8 9 (u / 10) (by omega)
    rw[aE (by
     show(Lib.decDigits (u / 10)).toArray.size+1<=_
     simp;omega),aD0 z]
    congr 1
theorem mQ {fuel:Nat} (n:Int) (z:20<fuel):lU (fK fuel) fuel n=some (gC n):=by
 unfold gC
 by_cases h:0<=n/\n<=4294967295
 ·rw[if_pos h]
  have:=QV fuel 9 fuel n.toNat (by omega) (by omega) (by omega)
  rwa[show((n.toNat:Nat):Int)=n by omega]at this
 ·rw[if_neg h]
  obtain⟨m,rfl⟩:∃m,fuel=m+1:=⟨fuel-1,by omega⟩
  show fK (m+1) (lU (fK (m+1)) m) n=_
  generalize lU (fK (m+1)) m=slf
  unfold fK FU
  by_cases e:0<=n
  ·rw[show decide (0<=n)=true by simpa using e,show decide (n<=4294967295)=false by simp;omega];rfl
  ·rw[show decide (0<=n)=false by simpa using e];rfl
theorem jD (n:Int):(gC n).size<=10:=by
 unfold gC
 split
 ·show(Lib.decDigits n.toNat).toArray.size<=_
  have:=I8 9 n.toNat (by omega)
  simp;omega
 ·exact cT _
open Classical in
noncomputable def fi:List MapEntry->Int->Option (Nat×Value)
 | [],_=>none
 | e::l,k=>if e.key= .int .i64 k then some (0,e.val)else(fi l k).map fun p=>(p.1+1,p.2)
def WfE (e:MapEntry):Prop:=(∃n,e.key= .int .i64 n)/\∃b,e.val= .bool b
theorem X3 {k:Int}:∀{l:List MapEntry} {i:Nat},(∀e∈l,WfE e)->Instr.findNow (.int .i64) (.int .i64 k) l i=some ((fi l k).map fun p=>(i+p.1,p.2))
 | [],i,_=>rfl
 | e::l,i,h=>by
  obtain⟨⟨n,D⟩,_⟩:=h e (by simp)
  have ih:=X3 (k:=k) (l:=l) (i:=i+1) fun e H=>h e (by simp[H])
  unfold Instr.findNow fi
  rw[D]
  unfold Instr.sameNow
  by_cases z:k=n
  ·subst z
   simp
  ·have I:¬(Value.int .i64 n= .int .i64 k):=fun e=>z (by injection e with _ e;exact e.symm)
   rw[if_neg I]
   simp only[if_true,show(k==n)=false by simpa using z]
   rw[ih]
   cases fi l k with
   | none=>rfl
   | some p=>simp;omega
theorem aCP {k:Int}:∀{l:List MapEntry} {i:Nat} {v:Value},fi l k=some (i,v)->∃e,l[i]?=some e/\e.key= .int .i64 k/\e.val=v
 | [],_,_,h=>by cases h
 | e::l,i,v,h=>by
  unfold fi at h
  split at h
  ·rename_i D
   cases h
   exact⟨e,rfl,D,rfl⟩
  ·cases z:fi l k with
   | none=>rw[z]at h;cases h
   | some p=>
    rw[z]at h
    obtain⟨j,u⟩:=p
    simp at h
    obtain⟨rfl,rfl⟩:=h
    obtain⟨H,I,M⟩:=aCP z
    exact⟨H,by simpa using I,M⟩
def aGk:Value->Bool
 | .bool b=>b
 | _=>false
def DR:Option (Nat×Value)->Bool
 | some p=>aGk p.2
 | none=>false
def aEJ (o:Obj) (g:Int->Bool):Prop:=∃es cl,o= .map es cl/\(∀e∈es.toList,WfE e)/\∀k,DR (fi es.toList k)=g k
theorem aDb:aEJ XY fun _=>false:=⟨#[],0,rfl,by simp,fun k=>rfl⟩
theorem QR {o:Obj} {g:Int->Bool} (h:aEJ o g) (k:Int):mpB .i o (.int .i64 k)=some (g k):=by
 obtain⟨es,cl,rfl,z,H⟩:=h
 unfold mpB WD
 simp only[MK.td]
 rw[X3 z,<-H k]
 cases I:fi es.toList k with
 | none=>rfl
 | some p=>
  obtain⟨i,v⟩:=p
  obtain⟨e,M,_,D⟩:=aCP I
  obtain⟨_,b,R⟩:=z e (tF M)
  rw[R]at D
  subst D
  rfl
theorem aHk {k:Int} {x:MapEntry}:∀{l:List MapEntry},DR (fi (l++ [x]) k)=match fi l k with
  | some p=>DR (some p)
  | none=>DR (fi [x] k)
 | []=>rfl
 | e::l=>by
  have ih:=aHk (k:=k) (x:=x) (l:=l)
  rw[n0]
  unfold fi
  by_cases z:e.key= .int .i64 k
  ·rw[if_pos z,if_pos z]
  ·rw[if_neg z,if_neg z]
   cases D:fi (l++ [x]) k<;>cases H:fi l k<;>simp only[D,H]at ih<;>simp only[Option.map_none,fR]
   ·exact ih
   ·rename_i p;obtain⟨_,v⟩:=p;exact ih
   ·rename_i p;obtain⟨_,v⟩:=p;unfold fi at ih;exact ih
   ·rename_i p q;obtain⟨_,v⟩:=p;obtain⟨_,u⟩:=q;exact ih
theorem aHl {k k':Int} {b:Bool}:∀{l:List MapEntry} {i:Nat} {v:Value},fi l k=some (i,v)->DR (fi (l.modify i fun e=> {e with key:= .int .i64 k,val:= .bool b}) k')=if k'=k then b else DR (fi l k')
 | [],_,_,h=>by cases h
 | e::l,i,v,h=>by
  unfold fi at h
  split at h
  ·rename_i I
   cases h
   rw[List.modify_zero_cons]
   unfold fi
   by_cases D:k'=k
   ·subst D;simp[DR,aGk]
   ·have R:¬(Value.int .i64 k= .int .i64 k'):=fun e=>D (by injection e with _ e;exact e.symm)
    rw[if_neg D,I]
    simp only
    rw[if_neg R,if_neg R]
  ·rename_i I
   cases M:fi l k with
   | none=>rw[M]at h;cases h
   | some p=>
    rw[M]at h
    obtain⟨j,u⟩:=p
    simp at h
    obtain⟨rfl,rfl⟩:=h
    have ih:=aHl (k':=k') (b:=b) M
    rw[List.modify_succ_cons]
    unfold fi
    by_cases z:e.key= .int .i64 k'
    ·rw[if_pos z,if_pos z]
     have:k'≠k:=fun Y=>I (by rw[z,Y])
     rw[if_neg this]
    ·rw[if_neg z,if_neg z]
     cases W:fi (l.modify j fun e=> {e with key:= .int .i64 k,val:= .bool b}) k' with
     | none=>
      rw[W]at ih
      cases H:fi l k' with
      | none=>rw[H]at ih;exact ih
      | some q=>rw[H]at ih;obtain⟨_,w⟩:=q;exact ih
     | some p1=>
      rw[W]at ih
      obtain⟨_,w1⟩:=p1
      cases H:fi l k' with
      | none=>rw[H]at ih;exact ih
      | some q=>rw[H]at ih;obtain⟨_,w⟩:=q;exact ih
theorem aHB {o:Obj} {g:Int->Bool} (h:aEJ o g) (k:Int) (b:Bool):∃o',QT .i o (.int .i64 k) (.bool b)=some o'/\aEJ o' fun k'=>if k'=k then b else g k':=by
 obtain⟨es,cl,rfl,M,hg⟩:=h
 unfold QT
 simp only[MK.td]
 rw[X3 M]
 cases R:fi es.toList k with
 | none=>
  refine⟨_,rfl,_,_,rfl,fun e he=> ?_,fun k'=> ?_⟩
  ·rw[Array.toList_push]at he
   rcases List.mem_append.1 he with he|he
   ·exact M e he
   ·rw[List.mem_singleton.1 he];exact⟨⟨k,rfl⟩,b,rfl⟩
  ·show _=if k'=k then b else g k'
   rw[Array.toList_push,aHk]
   by_cases W:k'=k
   ·subst W
    rw[R,if_pos rfl]
    unfold fi
    simp[DR,aGk]
   ·rw[if_neg W,<-hg k']
    cases h2:fi es.toList k' with
    | some p=>rfl
    | none=>
     unfold fi
     have e1:¬(Value.int .i64 k= .int .i64 k'):=fun e=>W (by injection e with _ e;exact e.symm)
     rw[if_neg e1]
     rfl
 | some p=>
  obtain⟨i,v⟩:=p
  obtain⟨e,h1,h2,h3⟩:=aCP R
  have hi:es[i]?=some e:=by simpa using h1
  have Y:Instr.sameBits 10000 (((es[i]?).map (·.key)).getD (.int .i64 k)) (.int .i64 k)=true:=by
   rw[hi]
   simp only[fR,Option.getD_some,h2]
   simp[Instr.sameBits]
  simp only[fR,bP]
  rw[if_pos Y]
  refine⟨_,rfl,_,_,rfl,fun e' H=> ?_,fun k'=> ?_⟩
  ·rw[Array.toList_modify]at H
   obtain⟨j,z⟩:=bD H
   rw[List.getElem?_modify]at z
   cases D:es.toList[j]? with
   | none=>rw[D]at z;simp at z
   | some e2=>
    rw[D]at z
    simp at z
    by_cases I:i=j
    ·rw[if_pos I]at z;rw[<-z];exact⟨⟨k,rfl⟩,b,rfl⟩
    ·rw[if_neg I]at z;rw[<-z];exact M e2 (tF D)
  ·rw[Array.toList_modify,aHl R,hg k']
structure aDQ (fuel:Nat) (p:dL):Prop where
 al:p.Term.P.Args.length<=9223372036854775807
 af:p.Term.P.Args.length<fuel
 s:aEK fuel p.Term.S
noncomputable def GZ (p:dL):Bool:=KJ p (pJ p.Term.P.Part)
theorem aBl {p:dL} (h:aDQ (F+70) p):vH (F+70) p=some (GZ p):=
 ZB (ZE h.al h.af h.s (NV (F+68) _))
theorem aBs {p:dL} (h:aDQ (F+70) p):AO (F+70) p=some (GZ p):=
 ZK (ZN h.al h.af h.s (NY F _))
theorem aFl {V:Type} {B:V->Option (V⊕O)} (I:Nat->V->Prop) (n:Nat) (bad:Nat->Bool) (R E:O) {fuel:Nat} {v:V} (h0:I 0 v) (h:∀i v,i<n->I i v->if bad i=true then B v=some (.inr R)else∃D,B v=some (.inl D)/\I (i+1) D) (he:∀v,I n v->B v=some (.inr E)) (H:n<fuel) :
  aL B fuel v=some (if(List.range n).any bad then R else E):=by
 have key:∀(m fuel i:Nat) (v:V),n-i=m->i<=n->m<fuel->I i v->(∀j,j<i->bad j=false)->aL B fuel v=some (if(List.range n).any bad then R else E):=by
  intro m
  induction m with
  | zero=>
   intro fuel i v hm hi H M W
   obtain rfl:i=n:=by omega
   cases fuel with
   | zero=>omega
   | succ fuel=>
    unfold aL
    rw[he v M,show(List.range i).any bad=false from List.any_eq_false.2 fun j Y=>by rw[W j (List.mem_range.1 Y)];simp]
    rfl
  | succ m ih=>
   intro fuel i v hm hi H M W
   cases fuel with
   | zero=>omega
   | succ fuel=>
    have:=h i v (by omega) M
    unfold aL
    cases z:bad i with
    | true=>
     rw[z,if_pos rfl]at this
     rw[this,show(List.range n).any bad=true from List.any_eq_true.2 ⟨i,List.mem_range.2 (by omega),z⟩]
     rfl
    | false=>
     rw[z]at this
     obtain⟨D,e,hv'⟩:=this
     rw[e]
     exact ih fuel (i+1) D (by omega) (by omega) (by omega) hv' fun j Y=>by
      by_cases hji:j=i
      ·rw[hji];exact z
      ·exact W j (by omega)
 exact key n fuel 0 v rfl (cT _) H h0 fun j Y=>by omega
def sA (l:List Int) (i:Nat) (n:Int):Bool:=match i with
 | 0=>false
 | j+1=>(match l[j]? with
  | some y=>decide (n<=y)
  | none=>false)
theorem FZ {l:List α} {g:α->Int} {x:α} (e:l[i]?=some x) (W:l.length<=1000000000) (n:Int) (K:Bool->Option J) (K':α->Option J) (z:∀y,K' y=K (decide (n<=g y))) :
  br (decide (0<(i:Int))) (gd (cN IntKind.i64 ((i:Int)-1)) (gd (0<=(i:Int)-1/\(i:Int)-1<(l.length:Int)) (bd (l[((i:Int)-1).toNat]?) K'))) (K false)=K (sA (l.map g) i n):=by
 cases i with
 | zero=>rfl
 | succ j=>
  obtain⟨y,D,H,I,M,R⟩:=IJ e (by omega)
  rw[H,br_t,aE I,aE M,R,bd_s,z]
  unfold sA
  simp only[bX,D,fR]
def tQ (l:List dL) (k:Int):Bool:=l.any fun q=>q.Life==1&&q.Pid==k
noncomputable def XB (s:bA) (i:Nat):Bool:=match s.Panes[i]? with
 | none=>false
 | some p=>(!GZ p||(decide (s.Next<=p.Id)||(sA (s.Panes.map (·.Id)) i p.Id||((s.Wins.any fun w=>w.Id==p.Id)||p.Term.S.Limit !=s.Limit))))||(p.Life==1&&tQ (s.Panes.take i) p.Pid)
structure SF (F:Nat) (s:bA):Prop where
 f:StF (F+70) s
 p:∀p∈s.Panes,aDQ (F+70) p
theorem U3 (h:SF F s):nW (F+70) s=some (!(List.range s.Panes.length).any (XB s)&&decide ((s.Panes.length:Int)<=24)):=by
 have hfu:=h.f.fu;have hpl:=h.f.pl;have hwl:=h.f.wl
 unfold nW
 have key:aL (lJ (F+70)) (F+70) (s,XY,s.Panes,(s.Panes.length:Int),0)=some (if(List.range s.Panes.length).any (XB s)then Sum.inr false else Sum.inl s):=by
  refine aFl (fun i v=>∃o,v=(s,o,s.Panes,(s.Panes.length:Int),(i:Int))/\aEJ o (tQ (s.Panes.take i))) s.Panes.length (XB s) (Sum.inr false) (Sum.inl s) ⟨_,rfl,aDb⟩ ?_ ?_ (by omega)
  ·rintro i v hi ⟨o,rfl,W⟩
   have R:s.Panes[i]?=some s.Panes[i]:=iD hi
   have H:=tF R
   obtain⟨h1,h2,h3,h4,h5⟩:=aV R (by omega)
   have Y:=aBl (h.p _ H)
   have htk:=cD R
   unfold XB
   rw[R]
   generalize s.Panes[i]=p at R h3 H Y htk
   have I:=FZ (J:=bA×dL×Obj×List dL×Int×Int×Bool) (l:=s.Panes) (g:=(·.Id)) R (by omega) p.Id
   simp only
   have chk:(bd (vH (F+70) p) fun x10=>
     br (!x10) (some (s,p,o,s.Panes,(s.Panes.length:Int),(i:Int),true)) <|
     br (decide (s.Next<=p.Id)) (some (s,p,o,s.Panes,(s.Panes.length:Int),(i:Int),true)) <|
     br (decide (0<(i:Int))) (
      gd (cN IntKind.i64 ((i:Int)-1)) <|
      gd (0<=(i:Int)-1/\(i:Int)-1<(s.Panes.length:Int)) <|
      bd (s.Panes[((i:Int)-1).toNat]?) fun M=>
      br (decide (p.Id<=M.Id)) (some (s,p,o,s.Panes,(s.Panes.length:Int),(i:Int),true)) <|
      bd (wE (F+70) s p.Id) fun x12=>
      br (decide (0<=x12)) (some (s,p,o,s.Panes,(s.Panes.length:Int),(i:Int),true)) <|
      some (s,p,o,s.Panes,(s.Panes.length:Int),(i:Int),p.Term.S.Limit !=s.Limit)) <|
     bd (wE (F+70) s p.Id) fun x13=>
     br (decide (0<=x13)) (some (s,p,o,s.Panes,(s.Panes.length:Int),(i:Int),true)) <|
     some (s,p,o,s.Panes,(s.Panes.length:Int),(i:Int),p.Term.S.Limit !=s.Limit))
     = some (s,p,o,s.Panes,(s.Panes.length:Int),(i:Int),!GZ p||(decide (s.Next<=p.Id)||(sA (s.Panes.map (·.Id)) i p.Id||((s.Wins.any fun w=>w.Id==p.Id)||p.Term.S.Limit !=s.Limit)))):=by
    rw[Y,bd_s,aBo (by omega) (by omega)]
    simp only[bd_s,vU]
    have hp2:=I (fun b=>br b (some (s,p,o,s.Panes,(s.Panes.length:Int),(i:Int),true)) (br (s.Wins.any fun y=>y.Id==p.Id) (some (s,p,o,s.Panes,(s.Panes.length:Int),(i:Int),true)) (some (s,p,o,s.Panes,(s.Panes.length:Int),(i:Int),p.Term.S.Limit !=s.Limit)))) (fun M=>br (decide (p.Id<=M.Id)) (some (s,p,o,s.Panes,(s.Panes.length:Int),(i:Int),true)) (br (s.Wins.any fun y=>y.Id==p.Id) (some (s,p,o,s.Panes,(s.Panes.length:Int),(i:Int),true)) (some (s,p,o,s.Panes,(s.Panes.length:Int),(i:Int),p.Term.S.Limit !=s.Limit)))) (fun y=>rfl)
    simp only[br_f]at hp2
    rw[hp2]
    cases GZ p<;>cases decide (s.Next<=p.Id)<;>cases sA (s.Panes.map (·.Id)) i p.Id<;>cases(s.Wins.any fun y=>y.Id==p.Id)<;>rfl
   unfold lJ
   simp only[h1,br_t,aE h2,h3,bd_s]
   rw[chk,bd_s]
   simp only
   generalize (!GZ p||(decide (s.Next<=p.Id)||(sA (s.Panes.map (·.Id)) i p.Id||((s.Wins.any fun w=>w.Id==p.Id)||p.Term.S.Limit !=s.Limit))))=c
   cases c with
   | true=>simp
   | false=>
    simp only[br_f,b9]
    rw[QR W]
    simp only[bd_s]
    have fin:∀b:Bool,b=(tQ (s.Panes.take i) p.Pid||p.Life==1)->∃v',(bd (QT MK.i o (Value.int IntKind.i64 p.Pid) (Value.bool b)) fun x30=>(some (s,x30,s.Panes,(s.Panes.length:Int),(i:Int)):Option (bA×Obj×List dL×Int×Int)))=some (s,v',s.Panes,(s.Panes.length:Int),(i:Int))/\aEJ v' (tQ (s.Panes.take (i+1))):=by
     intro b hb
     obtain⟨o',e,z⟩:=aHB W p.Pid b
     refine⟨o',by rw[e,bd_s],?_⟩
     have:(fun k'=>if k'=p.Pid then b else tQ (s.Panes.take i) k')=tQ (s.Panes.take (i+1)):=by
      funext k'
      rw[htk]
      unfold tQ
      rw[List.any_append,o4,List.any_nil,Bool.or_false]
      by_cases hk:k'=p.Pid
      ·subst hk
       rw[if_pos rfl,hb]
       unfold tQ
       simp
      ·rw[if_neg hk,show(p.Pid==k')=false by simpa using fun e=>hk e.symm]
       simp
     rw[<-this]
     exact z
    cases D:(p.Life==1)with
    | true=>
     simp only[br_t,bd_s,aK]
     cases hg:tQ (s.Panes.take i) p.Pid with
     | true=>simp
     | false=>
      simp only[br_f,aJ,if_false]
      obtain⟨v',e,z⟩:=fin true (by rw[D];simp)
      rw[QR W,hg,bd_s,br_f,D,e,bd_s]
      simp only
      rw[h5,aE h4]
      exact⟨_,rfl,_,rfl,z⟩
    | false=>
     simp only[br_f,bd_s,dJ,aJ,if_false]
     rw[QR W,bd_s]
     cases hg:tQ (s.Panes.take i) p.Pid with
     | true=>
      obtain⟨v',e,z⟩:=fin true (by rw[hg];simp)
      rw[br_t,e,bd_s]
      simp only
      rw[h5,aE h4]
      exact⟨_,rfl,_,rfl,z⟩
     | false=>
      obtain⟨v',e,z⟩:=fin false (by rw[hg,D];simp)
      rw[br_f,D,e,bd_s]
      simp only
      rw[h5,aE h4]
      exact⟨_,rfl,_,rfl,z⟩
  ·rintro v ⟨o,rfl,W⟩
   unfold lJ
   simp
 rw[key]
 cases(List.range s.Panes.length).any (XB s)<;>rfl
def C8 (l:List dL):List Int:=(l.filter fun q=>q.Life==1).map (·.Pid)
theorem aFv (l:List dL) (k:Int):((C8 l).any fun y=>y==k)=tQ l k:=by
 unfold C8 tQ
 rw[vE,List.any_filter]
 rfl
noncomputable def TQ (s:bA) (i:Nat):Bool:=match s.Panes[i]? with
 | none=>false
 | some p=>((!GZ p||(decide (s.Next<=p.Id)||sA (s.Panes.map (·.Id)) i p.Id))||(p.Term.S.W !=(vT s p.Id).1||(p.Term.S.H !=(vT s p.Id).2||p.Term.S.Limit !=s.Limit)))||(p.Life==1&&tQ (s.Panes.take i) p.Pid)
theorem NC (h:SF F s):xV (F+70) s=some (!(List.range s.Panes.length).any (TQ s)):=by
 have hfu:=h.f.fu;have hpl:=h.f.pl;have hwl:=h.f.wl
 unfold xV
 have key:aL (rF (F+70)) (F+70) (s,[],s.Panes,(s.Panes.length:Int),0)=some (if(List.range s.Panes.length).any (TQ s)then Sum.inr false else Sum.inl ()):=by
  refine fG (fun i=>(s,C8 (s.Panes.take i),s.Panes,(s.Panes.length:Int),(i:Int))) s.Panes.length (TQ s) (Sum.inr false) (Sum.inl ()) rfl (fun i hi=> ?_) (by unfold rF;simp) (by omega)
  have hx:s.Panes[i]?=some s.Panes[i]:=iD hi
  have D:=tF hx
  obtain⟨h1,h2,h3,h4,h5⟩:=aV hx (by omega)
  have hpo:=aBs (h.p _ D)
  have htk:=cD hx
  have hpll:(C8 (s.Panes.take i)).length<=i:=by
   unfold C8
   rw[aP]
   have:=gX (fun q=>q.Life==1) (s.Panes.take i)
   rw[aF]at this
   omega
  generalize s.Panes[i]=p at hx h3 D hpo htk
  have e:TQ s i=(((!GZ p||(decide (s.Next<=p.Id)||sA (s.Panes.map (·.Id)) i p.Id))||(p.Term.S.W !=(vT s p.Id).1||(p.Term.S.H !=(vT s p.Id).2||p.Term.S.Limit !=s.Limit)))||(p.Life==1&&tQ (s.Panes.take i) p.Pid)):=by unfold TQ;rw[hx]
  have M:C8 (s.Panes.take (i+1))=if(p.Life==1)=true then C8 (s.Panes.take i)++ [p.Pid]else C8 (s.Panes.take i):=by
   rw[htk]
   unfold C8
   rw[eP,e8]
   cases hl:(p.Life==1)<;>simp[hl]
  rw[M]
  have hr:cR K.int (C8 (s.Panes.take i)++ [p.Pid]).length:=eK (by simp;omega) (by decide)
  have I:dP (F+70) (C8 (s.Panes.take i)) p.Pid=some (tQ (s.Panes.take i) p.Pid):=by rw[mN (by omega) (by omega),aFv]
  generalize C8 (s.Panes.take i)=pd at I hr⊢
  have R:=FZ (l:=s.Panes) (g:=(·.Id)) hx (by omega) p.Id (fun b=>some (s,p,pd,s.Panes,(s.Panes.length:Int),(i:Int),b)) (fun x10=>some (s,p,pd,s.Panes,(s.Panes.length:Int),(i:Int),decide (p.Id<=x10.Id))) (fun y=>rfl)
  unfold rF
  simp only[h1,br_t,aE h2,h3,bd_s,hpo]
  rw[R]
  have Y:∀(a b c:Bool),br (!a) (some (s,p,pd,s.Panes,(s.Panes.length:Int),(i:Int),true)) (br b (some (s,p,pd,s.Panes,(s.Panes.length:Int),(i:Int),true)) (some (s,p,pd,s.Panes,(s.Panes.length:Int),(i:Int),c)))=some (s,p,pd,s.Panes,(s.Panes.length:Int),(i:Int),!a||(b||c)):=by
   intro a b c;cases a<;>cases b<;>rfl
  rw[Y,bd_s]
  simp only
  generalize (!GZ p||(decide (s.Next<=p.Id)||sA (s.Panes.map (·.Id)) i p.Id))=c1 at e⊢
  cases c1 with
  | true=>rw[e];simp
  | false=>
   simp only[br_f,bd_s,b9]
   rw[aDv h.f,bd_s]
   have z:∀(a b c:Bool),br a (some (s,p,pd,s.Panes,(s.Panes.length:Int),(i:Int),true)) (br b (some (s,p,pd,s.Panes,(s.Panes.length:Int),(i:Int),true)) (some (s,p,pd,s.Panes,(s.Panes.length:Int),(i:Int),c)))=some (s,p,pd,s.Panes,(s.Panes.length:Int),(i:Int),a||(b||c)):=by
    intro a b c;cases a<;>cases b<;>rfl
   rw[z,bd_s]
   simp only
   generalize (p.Term.S.W !=(vT s p.Id).fst||(p.Term.S.H !=(vT s p.Id).snd||p.Term.S.Limit !=s.Limit))=c2 at e⊢
   cases c2 with
   | true=>rw[e];simp
   | false=>
    rw[I]
    simp only[br_f,b9]at e⊢
    rw[e]
    cases hlf:(p.Life==1)with
    | true=>
     simp only[br_t,bd_s,aK]
     cases hg:tQ (s.Panes.take i) p.Pid with
     | true=>simp
     | false=>
      simp only[br_f,aE hr]
      rw[hlf,br_t,jn_l]
      simp only
      rw[h5,aE h4]
      simp
    | false=>
     simp only[br_f,bd_s,dJ]
     rw[hlf,br_f,jn_l]
     simp only
     rw[h5,aE h4]
     simp
 rw[key]
 cases(List.range s.Panes.length).any (TQ s)<;>rfl
theorem aEu {b:List Int} (D:a.Nodup) (H:a.length=b.length) (I:∀x∈a,x∈b):a.Perm b:=by
 induction a generalizing b with
 | nil=>
  cases b with
  | nil=>exact .nil
  | cons y b=>simp at H
 | cons x a ih=>
  have M:x∈b:=I x (aN ..)
  refine(List.Perm.cons x (ih (b:=b.erase x) (List.nodup_cons.1 D).2 ?_ fun y R=> ?_)).trans (List.perm_cons_erase M).symm
  ·rw[List.length_erase_of_mem M,<-H];simp
  ·have z:y≠x:=fun e=>(List.nodup_cons.1 D).1 (e▸R)
   exact(List.mem_erase_of_ne z).2 (I y (aI _ R))
noncomputable def RV (a b:List Int):Bool:=(a.mergeSort fun x y=>decide (x<=y))==(b.mergeSort fun x y=>decide (x<=y))
theorem aFq (a b:List Int):RV a b=true↔a.Perm b:=by
 unfold RV
 rw[fX]
 constructor
 ·intro h
  exact(jP a _).symm.trans (h▸jP b _)
 ·intro h
  refine List.Perm.eq_of_pairwise (le:=fun x y=>x<=y) (fun x y _ _ e z=>Int.le_antisymm e z) (ZZ a) (ZZ b) ?_
  exact(jP a _).trans (h.trans (jP b _).symm)
theorem aE7 {fuel:Nat} {b:List Int} (ha:a.length<=1000000000) (D:a.length<fuel):lH fuel a b=some (a==b):=by
 unfold lH
 by_cases H:a.length=b.length
 ·rw[show((a.length:Int) !=(b.length:Int))=false by simp;omega,br_f]
  have key:aL (jV fuel) fuel (a,b,(a.length:Int),0)=some (if(List.range a.length).any (fun i=>a[i]? !=b[i]?)then Sum.inr false else Sum.inl ()):=by
   refine fG (fun i=>(a,b,(a.length:Int),(i:Int))) a.length (fun i=>a[i]? !=b[i]?) (Sum.inr false) (Sum.inl ()) rfl (fun i z=> ?_) (by unfold jV;simp) D
   obtain⟨I,M,R,W,Y⟩:=aV (iD z) (by omega)
   obtain⟨_,g2,g3,_,_⟩:=aV (iD (l:=b) (i:=i) (by omega)) (by omega)
   unfold jV
   simp only[I,br_t,aE M,R,bd_s,aE g2,g3,Y,aE W]
   rw[iD z,iD (show i<b.length by omega)]
   have:(a[i] !=b[i]'(by omega))=(some a[i] !=some (b[i]'(by omega))):=by
    rw[dG];simp
   rw[this]
   cases(some a[i] !=some (b[i]'(by omega)))<;>simp
  rw[key]
  cases h:(List.range a.length).any (fun i=>a[i]? !=b[i]?)with
  | true=>
   obtain⟨i,_,z⟩:=List.any_eq_true.1 h
   have:(a==b)=false:=by
    rw[lK]
    intro e;subst e;simp at z
   rw[this];rfl
  | false=>
   have:(a==b)=true:=by
    rw[fX]
    refine kX fun i=> ?_
    by_cases z:i<a.length
    ·have:=List.any_eq_false.1 h i (List.mem_range.2 z)
     simpa using this
    ·rw[dF (by omega),dF (by omega)]
   rw[this];rfl
 ·rw[show((a.length:Int) !=(b.length:Int))=true by simp;omega,br_t]
  rw[show(a==b)=false by rw[lK];intro e;exact H (by rw[e])]
theorem SD {fuel:Nat} {b:List Int} (e:a.length<=1048576) (z:b.length<=1048576) (D:1048576<fuel):JX fuel a b=some (RV a b):=by
 unfold JX
 rw[K6 (eK (by omega) (by decide)),bd_s,K6 (eK (by omega) (by decide)),bd_s,OS e,bd_s,OS z,bd_s,aE7 (by rw[iU];omega) (by rw[iU];omega),bd_s]
 rfl
structure SG (F:Nat) (s:bA):Prop where
 f:SF F s
 al:(s.Wins.flatMap fun w=>w.Tree).length<=1048576
 sg:(s.Sess.flatMap fun x=>x.Wins).length<=1048576
def FG (l:List lF):List Int:=l.flatMap fun w=>oH w.Tree
def IR (l:List kM):List Int:=l.flatMap fun x=>x.Wins
theorem JK:∀(l:List lF),(FG l).length<=(l.flatMap fun w=>w.Tree).length
 | []=>by simp[FG]
 | w::l=>by
  have:=JK l
  have:=sX w.Tree
  unfold FG at *
  rw[dD,dD,aW,aW]
  omega
theorem LF (g:α->List J) (l:List α) (i:Nat):((l.take i).flatMap g).length<=(l.flatMap g).length:=by
 conv=>rhs;rw[<-fW i l,cH,aW]
 omega
theorem aA8 {l:List lF} {w:lF} (h:l[i]?=some w):FG (l.take (i+1))=FG (l.take i)++oH w.Tree:=by
 unfold FG;rw[cD h,cH];simp
theorem aBQ {l:List kM} {x:kM} (h:l[i]?=some x):IR (l.take (i+1))=IR (l.take i)++x.Wins:=by
 unfold IR;rw[cD h,cH];simp
noncomputable def DO (s:bA) (i:Nat):Bool:=match s.Wins[i]? with
 | none=>false
 | some w=>decide (w.Id<1)||(decide (s.Next<=w.Id)||(sA (s.Wins.map (·.Id)) i w.Id||(!oZ w.Name||(!(iY w.Tree s.W s.H).2|| !((oH w.Tree).any fun y=>y==w.Active)))))
noncomputable def DP (s:bA) (i:Nat):Bool:=match s.Wins[i]? with
 | none=>false
 | some w=> !(iY w.Tree s.W s.H).2||(decide (w.Id<1)||(decide (s.Next<=w.Id)||(sA (s.Wins.map (·.Id)) i w.Id||((s.Panes.any fun y=>y.Id==w.Id)||(!oZ w.Name|| !((jT w.Tree).any fun y=>y==w.Active))))))
theorem CM (e:(iY t w h).2=true):uM t=true:=by
 unfold iY at e
 split at e
 ·rename_i h;exact h.1
 ·cases e
theorem aFX (h:SG F s):aL (l7 (F+70)) (F+70) (s,[],[],s.Wins,(s.Wins.length:Int),0)=some (if(List.range s.Wins.length).any (DO s)then Sum.inr false else Sum.inl (s,FG s.Wins,[])):=by
 have hfu:=h.f.f.fu;have hpl:=h.f.f.pl;have hwl:=h.f.f.wl
 have he:(FG (s.Wins.take s.Wins.length))=FG s.Wins:=by rw[iV]
 rw[<-he]
 refine fG (fun i=>(s,FG (s.Wins.take i),[],s.Wins,(s.Wins.length:Int),(i:Int))) s.Wins.length (DO s) (Sum.inr false) (Sum.inl (s,FG (s.Wins.take s.Wins.length),[])) rfl (fun i hi=> ?_) (by unfold l7;simp) (by omega)
 have Y:s.Wins[i]?=some s.Wins[i]:=iD hi
 have z:=tF Y
 obtain⟨h1,h2,h3,h4,h5⟩:=aV Y (by omega)
 have hsum:(FG (s.Wins.take (i+1))).length<=1048576:=aX (JK _) (aX (LF _ _ _) h.al)
 have ht:=h.f.f.tr _ z
 have hn:=h.f.f.nm _ z
 have hll:=sX s.Wins[i].Tree
 have D:=aA8 Y
 rw[D]at hsum
 have hr:cR K.int (FG (s.Wins.take i)++oH s.Wins[i].Tree).length:=eK (by omega) (by decide)
 rw[D]
 generalize FG (s.Wins.take i)=A at hr⊢
 have M:DO s i=(decide (s.Wins[i].Id<1)||(decide (s.Next<=s.Wins[i].Id)||(sA (s.Wins.map (·.Id)) i s.Wins[i].Id||(!oZ s.Wins[i].Name||(!(iY s.Wins[i].Tree s.W s.H).2|| !((oH s.Wins[i].Tree).any fun y=>y==s.Wins[i].Active)))))):=by unfold DO;rw[Y]
 generalize s.Wins[i]=w at Y h3 z ht hn hll hr M⊢
 have hpl:=JN (fuel:=F+70) (t:=w.Tree) (w:=s.W) (h:=s.H) (by omega)
 have hwo:=BQ (fuel:=F+70) (s:=w.Name) (by omega) (by omega)
 have hle:=uU (fuel:=F+70) (t:=w.Tree) (by omega) (by omega)
 have hco:=BC (fuel:=F+70) (l:=oH w.Tree) (n:=w.Active) (by omega) (by omega)
 have I:=FZ (l:=s.Wins) (g:=(·.Id)) Y (by omega) w.Id
  (fun b=>br b (some (s,w,A,([]:List Int),s.Wins,(s.Wins.length:Int),(i:Int),true)) (br (!oZ w.Name) (some (s,w,A,[],s.Wins,(s.Wins.length:Int),(i:Int),true)) (br (!(iY w.Tree s.W s.H).2) (some (s,w,A,[],s.Wins,(s.Wins.length:Int),(i:Int),true)) (some (s,w,A,[],s.Wins,(s.Wins.length:Int),(i:Int),!((oH w.Tree).any fun y=>y==w.Active))))))
  (fun x=>br (decide (w.Id<=x.Id)) (some (s,w,A,([]:List Int),s.Wins,(s.Wins.length:Int),(i:Int),true)) (br (!oZ w.Name) (some (s,w,A,[],s.Wins,(s.Wins.length:Int),(i:Int),true)) (br (!(iY w.Tree s.W s.H).2) (some (s,w,A,[],s.Wins,(s.Wins.length:Int),(i:Int),true)) (some (s,w,A,[],s.Wins,(s.Wins.length:Int),(i:Int),!((oH w.Tree).any fun y=>y==w.Active)))))) (fun y=>rfl)
 simp only[br_f]at I
 unfold l7
 simp only[h1,br_t,aE h2,h3,bd_s,hpl,hwo,hle,hco]
 rw[I]
 have R:∀a b c d e f:Bool,br a (some (s,w,A,([]:List Int),s.Wins,(s.Wins.length:Int),(i:Int),true)) (br b (some (s,w,A,[],s.Wins,(s.Wins.length:Int),(i:Int),true)) (br c (some (s,w,A,([]:List Int),s.Wins,(s.Wins.length:Int),(i:Int),true)) (br (!d) (some (s,w,A,[],s.Wins,(s.Wins.length:Int),(i:Int),true)) (br (!e) (some (s,w,A,[],s.Wins,(s.Wins.length:Int),(i:Int),true)) (some (s,w,A,[],s.Wins,(s.Wins.length:Int),(i:Int),!f))))))=some (s,w,A,[],s.Wins,(s.Wins.length:Int),(i:Int),a||(b||(c||(!d||(!e|| !f))))):=by
  intro a b c d e f;cases a<;>cases b<;>cases c<;>cases d<;>cases e<;>rfl
 rw[R,bd_s,<-M]
 cases DO s i with
 | true=>simp
 | false=>
  simp only[br_f]
  rw[hle,bd_s,h5,aE hr,aE h4]
  simp
theorem aFY (h:SG F s) (A:List Int):aL (kE (F+70)) (F+70) (s,A,[],s.Panes,(s.Panes.length:Int),0)=some (s,A,s.Panes.map (·.Id)):=by
 have z:=h.f.f.fu;have D:=h.f.f.pl;have H:=h.f.f.wl
 refine fS (B:=kE (F+70)) (fuel:=F+70) (fun i=>(s,A,(s.Panes.take i).map (·.Id),s.Panes,(s.Panes.length:Int),(i:Int))) s.Panes.length (s,A,s.Panes.map (·.Id)) rfl (fun i e=> ?_) (by unfold kE;simp) (by omega)
 obtain⟨I,M,R,W,Y⟩:=aV (iD e) (by omega)
 have hr:cR K.int ((s.Panes.take i).map (·.Id)++ [s.Panes[i].Id]).length:=eK (by simp;omega) (by decide)
 unfold kE
 simp only[I,br_t,aE M,R,bd_s,aE hr,Y,aE W]
 rw[cD (iD e),e8]
 rfl
theorem ZJ (h:SG F s):pB (F+70) s=some (!(List.range s.Wins.length).any (DO s)&&(decide ((s.Wins.length:Int)<=12)&&RV (FG s.Wins) (s.Panes.map (·.Id)))):=by
 have e:=h.f.f.fu;have z:=h.f.f.pl;have D:=h.f.f.wl
 have H:(FG s.Wins).length<=1048576:=aX (JK _) h.al
 unfold pB
 rw[aFX h]
 cases(List.range s.Wins.length).any (DO s)with
 | true=>rfl
 | false=>
  simp only[aJ,if_false,jn_l]
  rw[aFY h,bd_s,SD H (by simp;omega) (by omega)]
  cases decide ((s.Wins.length:Int)<=12)<;>rfl
theorem aC1 (h:SG F s):aL (tC (F+70)) (F+70) (s,[],s.Wins,(s.Wins.length:Int),0)=some (if(List.range s.Wins.length).any (DP s)then Sum.inr false else Sum.inl (s,FG s.Wins)):=by
 have hfu:=h.f.f.fu;have hpl:=h.f.f.pl;have hwl:=h.f.f.wl
 have he:(FG (s.Wins.take s.Wins.length))=FG s.Wins:=by rw[iV]
 rw[<-he]
 refine fG (fun i=>(s,FG (s.Wins.take i),s.Wins,(s.Wins.length:Int),(i:Int))) s.Wins.length (DP s) (Sum.inr false) (Sum.inl (s,FG (s.Wins.take s.Wins.length))) rfl (fun i hi=> ?_) (by unfold tC;simp) (by omega)
 have Y:s.Wins[i]?=some s.Wins[i]:=iD hi
 have D:=tF Y
 obtain⟨h1,h2,h3,h4,h5⟩:=aV Y (by omega)
 have hsum:(FG (s.Wins.take (i+1))).length<=1048576:=aX (JK _) (aX (LF _ _ _) h.al)
 have ht:=h.f.f.tr _ D
 have hn:=h.f.f.nm _ D
 have I:=aA8 Y
 rw[I]at hsum
 have hr:cR K.int (FG (s.Wins.take i)++oH s.Wins[i].Tree).length:=eK (by omega) (by decide)
 rw[I]
 generalize FG (s.Wins.take i)=A at hr⊢
 have z:DP s i=(!(iY s.Wins[i].Tree s.W s.H).2||(decide (s.Wins[i].Id<1)||(decide (s.Next<=s.Wins[i].Id)||(sA (s.Wins.map (·.Id)) i s.Wins[i].Id||((s.Panes.any fun y=>y.Id==s.Wins[i].Id)||(!oZ s.Wins[i].Name|| !((jT s.Wins[i].Tree).any fun y=>y==s.Wins[i].Active))))))):=by unfold DP;rw[Y]
 generalize s.Wins[i]=w at Y h3 D ht hn hr z⊢
 have hlv:=D2 w.Tree
 have hpl':=KA (fuel:=F+70) (t:=w.Tree) (w:=s.W) (h:=s.H) (by omega)
 have hwo:=CG (fuel:=F+70) (s:=w.Name) (by omega) (by omega)
 have hle:=CB (fuel:=F+70) (t:=w.Tree) (by omega)
 have hco:=mN (fuel:=F+70) (l:=jT w.Tree) (n:=w.Active) (by omega) (by omega)
 have hpa:=J9 (fuel:=F+70) (s:=s) (n:=w.Id) (by omega) (by omega)
 have M:=FZ (l:=s.Wins) (g:=(·.Id)) Y (by omega) w.Id
  (fun b=>br b (some (s,w,A,s.Wins,(s.Wins.length:Int),(i:Int),true)) (br (s.Panes.any fun y=>y.Id==w.Id) (some (s,w,A,s.Wins,(s.Wins.length:Int),(i:Int),true)) (br (!oZ w.Name) (some (s,w,A,s.Wins,(s.Wins.length:Int),(i:Int),true)) (some (s,w,A,s.Wins,(s.Wins.length:Int),(i:Int),!((jT w.Tree).any fun y=>y==w.Active))))))
  (fun x=>br (decide (w.Id<=x.Id)) (some (s,w,A,s.Wins,(s.Wins.length:Int),(i:Int),true)) (br (s.Panes.any fun y=>y.Id==w.Id) (some (s,w,A,s.Wins,(s.Wins.length:Int),(i:Int),true)) (br (!oZ w.Name) (some (s,w,A,s.Wins,(s.Wins.length:Int),(i:Int),true)) (some (s,w,A,s.Wins,(s.Wins.length:Int),(i:Int),!((jT w.Tree).any fun y=>y==w.Active)))))) (fun y=>rfl)
 simp only[br_f]at M
 unfold tC
 simp only[h1,br_t,aE h2,h3,bd_s,hpl',hwo,hle,hco,hpa,vU]
 rw[M]
 have R:∀a b c d e f g:Bool,br (!a) (some (s,w,A,s.Wins,(s.Wins.length:Int),(i:Int),true)) (br b (some (s,w,A,s.Wins,(s.Wins.length:Int),(i:Int),true)) (br c (some (s,w,A,s.Wins,(s.Wins.length:Int),(i:Int),true)) (br d (some (s,w,A,s.Wins,(s.Wins.length:Int),(i:Int),true)) (br e (some (s,w,A,s.Wins,(s.Wins.length:Int),(i:Int),true)) (br (!f) (some (s,w,A,s.Wins,(s.Wins.length:Int),(i:Int),true)) (some (s,w,A,s.Wins,(s.Wins.length:Int),(i:Int),!g)))))))=some (s,w,A,s.Wins,(s.Wins.length:Int),(i:Int),!a||(b||(c||(d||(e||(!f|| !g)))))):=by
  intro a b c d e f g;cases a<;>cases b<;>cases c<;>cases d<;>cases e<;>cases f<;>rfl
 rw[R,bd_s,<-z]
 cases hb:DP s i with
 | true=>simp
 | false=>
  have hp:(iY w.Tree s.W s.H).2=true:=by
   rw[hb]at z
   cases hp:(iY w.Tree s.W s.H).2 with
   | true=>rfl
   | false=>rw[hp]at z;simp at z
  have hl:jT w.Tree=oH w.Tree:=by unfold jT;rw[if_pos (CM hp)]
  simp only[br_f]
  rw[hle,bd_s,h5,hl,aE hr,aE h4]
  simp
def BB (all ids:List Int) (i:Nat):Bool:=match all[i]? with
 | none=>false
 | some x=>((all.take i).any fun y=>y==x)|| !(ids.any fun y=>y==x)
theorem IP {l:List Int}:nQ false l (0+0) ((i:Int).toNat-0)=l.take i:=by
 unfold nQ
 simp
theorem aC2 (h:SG F s) (hA:A.length<=1048576):aL (oV (F+70)) (F+70) (s,A,(A.length:Int),0)=some (if(List.range A.length).any (BB A (s.Panes.map (·.Id)))then Sum.inr false else Sum.inl (s,A)):=by
 have R:=h.f.f.fu;have W:=h.f.f.pl;have Y:=h.f.f.wl
 refine fG (B:=oV (F+70)) (fuel:=F+70) (fun i=>(s,A,(A.length:Int),(i:Int))) A.length (BB A (s.Panes.map (·.Id))) (Sum.inr false) (Sum.inl (s,A)) rfl (fun i hi=> ?_) (by unfold oV;simp) (by omega)
 have D:A[i]?=some A[i]:=iD hi
 obtain⟨h1,h2,M,h4,h5⟩:=aV D (by omega)
 have e:BB A (s.Panes.map (·.Id)) i=(((A.take i).any fun y=>y==A[i])|| !(s.Panes.any fun y=>y.Id==A[i])):=by
  unfold BB;rw[D];simp only[vE];rfl
 generalize A[i]=x at D M e
 have H:=mN (fuel:=F+70) (l:=A.take i) (n:=x) (by rw[aF];omega) (by rw[aF];omega)
 have I:=J9 (fuel:=F+70) (s:=s) (n:=x) (by omega) (by omega)
 unfold oV
 simp only[h1,br_t,aE h2,bP,M,bd_s,uP (show(0:Int)<=(i:Int)/\(i:Int)<=(A.length:Int)from⟨by omega,by omega⟩)]
 rw[show nQ false A 0 ((i:Int).toNat-0)=A.take i from IP,H,bd_s,I,bd_s,W9]
 have z:∀a b:Bool,br a (some (s,A,(A.length:Int),(i:Int),true)) (some (s,A,(A.length:Int),(i:Int),!b))=some (s,A,(A.length:Int),(i:Int),a|| !b):=by
  intro a b;cases a<;>rfl
 rw[z,bd_s,<-e]
 cases BB A (s.Panes.map (·.Id)) i with
 | true=>simp
 | false=>simp only[br_f];rw[h5,aE h4];simp
theorem GY (h:SG F s):CJ (F+70) s=some (!(List.range s.Wins.length).any (DP s)&&(!(List.range (FG s.Wins).length).any (BB (FG s.Wins) (s.Panes.map (·.Id)))&&((FG s.Wins).length:Int)==(s.Panes.length:Int))):=by
 have e:(FG s.Wins).length<=1048576:=aX (JK _) h.al
 unfold CJ
 rw[aC1 h]
 cases(List.range s.Wins.length).any (DP s)with
 | true=>rfl
 | false=>
  simp only[aJ,if_false,jn_l]
  rw[aC2 h e]
  cases(List.range (FG s.Wins).length).any (BB (FG s.Wins) (s.Panes.map (·.Id)))<;>rfl
noncomputable def GB (s:bA) (i:Nat):Bool:=match s.Sess[i]? with
 | none=>false
 | some x=> !oZ x.Name||(E1 (fun y=>decide (y.Name=x.Name)) s.Sess !=(i:Int)|| !(x.Wins.any fun y=>y==x.Active))
theorem aEA (h:SG F s) (i:Nat):(IR (s.Sess.take i)).length<=1048576:=aX (LF _ _ _) h.sg
theorem aFK (h:SG F s):aL (l6 (F+70)) (F+70) (s,[],[],s.Sess,(s.Sess.length:Int),0)=some (if(List.range s.Sess.length).any (GB s)then Sum.inr false else Sum.inl (s,IR s.Sess,[])):=by
 have hfu:=h.f.f.fu;have hpl:=h.f.f.pl;have hsl:=h.f.f.sl
 have he:(IR (s.Sess.take s.Sess.length))=IR s.Sess:=by rw[iV]
 rw[<-he]
 refine fG (fun i=>(s,IR (s.Sess.take i),[],s.Sess,(s.Sess.length:Int),(i:Int))) s.Sess.length (GB s) (Sum.inr false) (Sum.inl (s,IR (s.Sess.take s.Sess.length),[])) rfl (fun i hi=> ?_) (by unfold l6;simp) (by omega)
 have I:s.Sess[i]?=some s.Sess[i]:=iD hi
 have e:=tF I
 obtain⟨h1,h2,h3,h4,h5⟩:=aV I (by omega)
 have M:=aEA h (i+1)
 have hn:=h.f.f.sn _ e
 have hw:=h.f.f.sw _ e
 have D:=aBQ I
 rw[D]at M⊢
 have R:cR K.int (IR (s.Sess.take i)++s.Sess[i].Wins).length:=eK (by omega) (by decide)
 generalize IR (s.Sess.take i)=A at R⊢
 have z:GB s i=(!oZ s.Sess[i].Name||(E1 (fun y=>decide (y.Name=s.Sess[i].Name)) s.Sess !=(i:Int)|| !(s.Sess[i].Wins.any fun y=>y==s.Sess[i].Active))):=by unfold GB;rw[I]
 generalize s.Sess[i]=x at I h3 e hn hw R z⊢
 have W:=BQ (fuel:=F+70) (s:=x.Name) (by omega) (by omega)
 have Y:=ZD (fuel:=F+70) (s:=s) (n:=x.Name) (by omega) (by omega)
 have hco:=BC (fuel:=F+70) (l:=x.Wins) (n:=x.Active) (by omega) (by omega)
 unfold l6
 simp only[h1,br_t,aE h2,h3,bd_s,W,Y,hco]
 have H:∀a b c:Bool,br (!a) (some (s,x,A,([]:List Int),s.Sess,(s.Sess.length:Int),(i:Int),true)) (br b (some (s,x,A,[],s.Sess,(s.Sess.length:Int),(i:Int),true)) (some (s,x,A,[],s.Sess,(s.Sess.length:Int),(i:Int),!c)))=some (s,x,A,[],s.Sess,(s.Sess.length:Int),(i:Int),!a||(b|| !c)):=by
  intro a b c;cases a<;>cases b<;>rfl
 rw[H,bd_s,<-z]
 cases GB s i with
 | true=>simp
 | false=>
  simp only[br_f]
  rw[h5,aE R,aE h4]
  simp
theorem aFL (h:SG F s) (A:List Int):aL (kD (F+70)) (F+70) (s,A,[],s.Wins,(s.Wins.length:Int),0)=some (s,A,s.Wins.map (·.Id)):=by
 have z:=h.f.f.fu;have D:=h.f.f.pl;have H:=h.f.f.wl
 refine fS (B:=kD (F+70)) (fuel:=F+70) (fun i=>(s,A,(s.Wins.take i).map (·.Id),s.Wins,(s.Wins.length:Int),(i:Int))) s.Wins.length (s,A,s.Wins.map (·.Id)) rfl (fun i e=> ?_) (by unfold kD;simp) (by omega)
 obtain⟨I,M,R,W,Y⟩:=aV (iD e) (by omega)
 have hr:cR K.int ((s.Wins.take i).map (·.Id)++ [s.Wins[i].Id]).length:=eK (by simp;omega) (by decide)
 unfold kD
 simp only[I,br_t,aE M,R,bd_s,aE hr,Y,aE W]
 rw[cD (iD e),e8]
 rfl
theorem ZH (h:SG F s):pA (F+70) s=some (!(List.range s.Sess.length).any (GB s)&&(decide ((s.Sess.length:Int)<=8)&&RV (IR s.Sess) (s.Wins.map (·.Id)))):=by
 have z:=h.f.f.fu;have D:=h.f.f.pl;have H:=h.f.f.wl
 unfold pA
 rw[aFK h]
 cases(List.range s.Sess.length).any (GB s)with
 | true=>rfl
 | false=>
  simp only[aJ,if_false,jn_l]
  have e:(IR s.Sess).length<=1048576:=h.sg
  rw[aFL h,bd_s,SD e (by simp;omega) (by omega)]
  cases decide ((s.Sess.length:Int)<=8)<;>rfl
theorem aCZ (h:SG F s):aL (s9 (F+70)) (F+70) (s,[],s.Sess,(s.Sess.length:Int),0)=some (if(List.range s.Sess.length).any (GB s)then Sum.inr false else Sum.inl (s,IR s.Sess)):=by
 have hfu:=h.f.f.fu;have hpl:=h.f.f.pl;have hsl:=h.f.f.sl
 have he:(IR (s.Sess.take s.Sess.length))=IR s.Sess:=by rw[iV]
 rw[<-he]
 refine fG (fun i=>(s,IR (s.Sess.take i),s.Sess,(s.Sess.length:Int),(i:Int))) s.Sess.length (GB s) (Sum.inr false) (Sum.inl (s,IR (s.Sess.take s.Sess.length))) rfl (fun i hi=> ?_) (by unfold s9;simp) (by omega)
 have I:s.Sess[i]?=some s.Sess[i]:=iD hi
 have e:=tF I
 obtain⟨h1,h2,h3,h4,h5⟩:=aV I (by omega)
 have M:=aEA h (i+1)
 have hn:=h.f.f.sn _ e
 have hw:=h.f.f.sw _ e
 have D:=aBQ I
 rw[D]at M⊢
 have R:cR K.int (IR (s.Sess.take i)++s.Sess[i].Wins).length:=eK (by omega) (by decide)
 generalize IR (s.Sess.take i)=A at R⊢
 have z:GB s i=(!oZ s.Sess[i].Name||(E1 (fun y=>decide (y.Name=s.Sess[i].Name)) s.Sess !=(i:Int)|| !(s.Sess[i].Wins.any fun y=>y==s.Sess[i].Active))):=by unfold GB;rw[I]
 generalize s.Sess[i]=x at I h3 e hn hw R z⊢
 have W:=CG (fuel:=F+70) (s:=x.Name) (by omega) (by omega)
 have Y:=ZM (fuel:=F+70) (s:=s) (n:=x.Name) (by omega) (by omega)
 have hco:=mN (fuel:=F+70) (l:=x.Wins) (n:=x.Active) (by omega) (by omega)
 unfold s9
 simp only[h1,br_t,aE h2,h3,bd_s,W,Y,hco]
 have H:∀a b c:Bool,br (!a) (some (s,x,A,s.Sess,(s.Sess.length:Int),(i:Int),true)) (br b (some (s,x,A,s.Sess,(s.Sess.length:Int),(i:Int),true)) (some (s,x,A,s.Sess,(s.Sess.length:Int),(i:Int),!c)))=some (s,x,A,s.Sess,(s.Sess.length:Int),(i:Int),!a||(b|| !c)):=by
  intro a b c;cases a<;>cases b<;>rfl
 rw[H,bd_s,<-z]
 cases GB s i with
 | true=>simp
 | false=>
  simp only[br_f]
  rw[h5,aE R,aE h4]
  simp
theorem aC0 (h:SG F s) (hA:A.length<=1048576):aL (oU (F+70)) (F+70) (s,A,(A.length:Int),0)=some (if(List.range A.length).any (BB A (s.Wins.map (·.Id)))then Sum.inr false else Sum.inl (s,A)):=by
 have R:=h.f.f.fu;have W:=h.f.f.pl;have Y:=h.f.f.wl
 refine fG (B:=oU (F+70)) (fuel:=F+70) (fun i=>(s,A,(A.length:Int),(i:Int))) A.length (BB A (s.Wins.map (·.Id))) (Sum.inr false) (Sum.inl (s,A)) rfl (fun i hi=> ?_) (by unfold oU;simp) (by omega)
 have D:A[i]?=some A[i]:=iD hi
 obtain⟨h1,h2,M,h4,h5⟩:=aV D (by omega)
 have e:BB A (s.Wins.map (·.Id)) i=(((A.take i).any fun y=>y==A[i])|| !(s.Wins.any fun y=>y.Id==A[i])):=by
  unfold BB;rw[D];simp only[vE];rfl
 generalize A[i]=x at D M e
 have H:=mN (fuel:=F+70) (l:=A.take i) (n:=x) (by rw[aF];omega) (by rw[aF];omega)
 have I:=aBv (fuel:=F+70) (s:=s) (n:=x) (by omega) (by omega)
 unfold oU
 simp only[h1,br_t,aE h2,bP,M,bd_s,uP (show(0:Int)<=(i:Int)/\(i:Int)<=(A.length:Int)from⟨by omega,by omega⟩)]
 rw[show nQ false A 0 ((i:Int).toNat-0)=A.take i from IP,H,bd_s,I,bd_s,W9]
 have z:∀a b:Bool,br a (some (s,A,(A.length:Int),(i:Int),true)) (some (s,A,(A.length:Int),(i:Int),!b))=some (s,A,(A.length:Int),(i:Int),a|| !b):=by
  intro a b;cases a<;>rfl
 rw[z,bd_s,<-e]
 cases BB A (s.Wins.map (·.Id)) i with
 | true=>simp
 | false=>simp only[br_f];rw[h5,aE h4];simp
theorem GX (h:SG F s):CI (F+70) s=some (!(List.range s.Sess.length).any (GB s)&&(!(List.range (IR s.Sess).length).any (BB (IR s.Sess) (s.Wins.map (·.Id)))&&((IR s.Sess).length:Int)==(s.Wins.length:Int))):=by
 unfold CI
 rw[aCZ h]
 cases(List.range s.Sess.length).any (GB s)with
 | true=>rfl
 | false=>
  simp only[aJ,if_false,jn_l]
  have e:(IR s.Sess).length<=1048576:=h.sg
  rw[aC0 h e]
  cases(List.range (IR s.Sess).length).any (BB (IR s.Sess) (s.Wins.map (·.Id)))<;>rfl
theorem yT {n:Nat} {bad:Nat->Bool}:(List.range n).any bad=false↔∀i,i<n->bad i=false:=by
 rw[gT]
 constructor
 ·intro h i e
  have:=h i (List.mem_range.2 e)
  simpa using this
 ·intro h i e
  rw[h i (List.mem_range.1 e)];simp
def aDP (s:bA):Prop:=∀i p,s.Panes[i]?=some p->GZ p=true/\p.Id<s.Next/\sA (s.Panes.map (·.Id)) i p.Id=false/\p.Term.S.Limit=s.Limit/\(p.Life==1&&tQ (s.Panes.take i) p.Pid)=false
def aKb (s:bA):Prop:=∀p∈s.Panes,∀w∈s.Wins,w.Id≠p.Id
def aF6 (s:bA):Prop:=∀p∈s.Panes,p.Term.S.W=(vT s p.Id).1/\p.Term.S.H=(vT s p.Id).2
def aIL (s:bA):Prop:=∀i w,s.Wins[i]?=some w->(iY w.Tree s.W s.H).2=true/\1<=w.Id/\w.Id<s.Next/\sA (s.Wins.map (·.Id)) i w.Id=false/\oZ w.Name=true/\((oH w.Tree).any fun y=>y==w.Active)=true
theorem aGe (s:bA):(List.range s.Panes.length).any (XB s)=false↔aDP s/\aKb s:=by
 rw[yT]
 constructor
 ·intro h
  have M:∀i p,s.Panes[i]?=some p->_:=fun i p z=>by
   have D:=h i (iR.1 z).1
   unfold XB at D
   rw[z]at D
   simp only[bL,dX,aY,nS,bne_eq_false_iff_eq]at D
   exact D
  refine⟨fun i p z=> ?_,fun p z w I e=> ?_⟩
  ·obtain⟨⟨a,b,c,d,e⟩,f⟩:=M i p z
   exact⟨a,b,c,e,f⟩
  ·obtain⟨i,H⟩:=bD z
   obtain⟨⟨a,b,c,d,_⟩,f⟩:=M i p H
   exact absurd (beq_iff_eq.2 e) (List.any_eq_false.1 d w I)
 ·rintro⟨h,R⟩ i H
  have z:s.Panes[i]?=some s.Panes[i]:=iD H
  obtain⟨a,b,c,e,f⟩:=h i _ z
  unfold XB
  rw[z]
  simp only[bL,dX,aY,nS,bne_eq_false_iff_eq]
  exact⟨⟨a,b,c,List.any_eq_false.2 fun w I=>by simpa using R _ (bQ H) w I,e⟩,f⟩
theorem aGf (s:bA):(List.range s.Panes.length).any (TQ s)=false↔aDP s/\aF6 s:=by
 rw[yT]
 constructor
 ·intro h
  have I:∀i p,s.Panes[i]?=some p->_:=fun i p z=>by
   have D:=h i (iR.1 z).1
   unfold TQ at D
   rw[z]at D
   simp only[bL,dX,aY,nS,bne_eq_false_iff_eq]at D
   exact D
  refine⟨fun i p z=> ?_,fun p z=> ?_⟩
  ·obtain⟨⟨⟨a,b,c⟩,d,e,g⟩,f⟩:=I i p z
   exact⟨a,b,c,g,f⟩
  ·obtain⟨i,H⟩:=bD z
   obtain⟨⟨⟨a,b,c⟩,d,e,g⟩,f⟩:=I i p H
   exact⟨d,e⟩
 ·rintro⟨h,M⟩ i H
  have z:s.Panes[i]?=some s.Panes[i]:=iD H
  obtain⟨a,b,c,e,f⟩:=h i _ z
  obtain⟨d,g⟩:=M _ (bQ H)
  unfold TQ
  rw[z]
  simp only[bL,dX,aY,nS,bne_eq_false_iff_eq]
  exact⟨⟨⟨a,b,c⟩,d,g,e⟩,f⟩
theorem VL (s:bA):(List.range s.Wins.length).any (DO s)=false↔aIL s:=by
 rw[yT]
 constructor
 ·intro h i w z
  have D:=h i (iR.1 z).1
  unfold DO at D
  rw[z]at D
  simp only[bL,dX,aY,nS,C0]at D
  obtain⟨a,b,c,d,e,f⟩:=D
  exact⟨e,a,b,c,d,f⟩
 ·intro h i H
  have z:s.Wins[i]?=some s.Wins[i]:=iD H
  obtain⟨e,a,b,c,d,f⟩:=h i _ z
  unfold DO
  rw[z]
  simp only[bL,dX,aY,nS,C0]
  exact⟨a,b,c,d,e,f⟩
theorem aEQ (s:bA):(List.range s.Wins.length).any (DP s)=false↔aIL s/\aKb s:=by
 have R:∀w:lF,(iY w.Tree s.W s.H).2=true->jT w.Tree=oH w.Tree:=fun w z=>by unfold jT;rw[if_pos (CM z)]
 rw[yT]
 constructor
 ·intro h
  have Y:∀i w,s.Wins[i]?=some w->_:=fun i w z=>by
   have I:=h i (iR.1 z).1
   unfold DP at I
   rw[z]at I
   simp only[bL,dX,aY,nS,C0]at I
   exact I
  refine⟨fun i w D=> ?_,fun p z w D e=> ?_⟩
  ·obtain⟨a,b,c,d,e,f,g⟩:=Y i w D
   rw[R w a]at g
   exact⟨a,b,c,d,f,g⟩
  ·obtain⟨i,M⟩:=bD D
   obtain⟨a,b,c,d,q,f,g⟩:=Y i w M
   exact absurd (beq_iff_eq.2 e.symm) (List.any_eq_false.1 q p z)
 ·rintro⟨h,hd⟩ i M
  have D:s.Wins[i]?=some s.Wins[i]:=iD M
  obtain⟨a,b,c,d,f,g⟩:=h i _ D
  unfold DP
  rw[D]
  simp only[bL,dX,aY,nS,C0]
  exact⟨a,b,c,d,List.any_eq_false.2 fun p z=>by simpa using fun e=>hd p z _ (bQ M) e.symm,f,by rw[R _ a];exact g⟩
theorem I1 {b:List Int} (W:b.Nodup):((List.range a.length).any (BB a b)=false/\a.length=b.length)↔a.Perm b:=by
 rw[yT]
 constructor
 ·rintro⟨h,Y⟩
  have M:∀i x,a[i]?=some x->x∉a.take i/\x∈b:=fun i x D=>by
   have H:=h i (iR.1 D).1
   unfold BB at H
   rw[D]at H
   simp only[bL,dX]at H
   obtain⟨h2,h3⟩:=H
   refine⟨fun hm=>absurd (beq_self_eq_true x) (List.any_eq_false.1 h2 x hm),?_⟩
   obtain⟨y,I,e⟩:=List.any_eq_true.1 h3
   rw[<-beq_iff_eq.1 e];exact I
  refine aEu (List.pairwise_iff_getElem.2 fun i j z R hij e=> ?_) Y fun x D=> ?_
  ·refine(M j _ (iD R)).1 ?_
   rw[<-e]
   exact List.mem_take_iff_getElem.2 ⟨i,by omega,rfl⟩
  ·obtain⟨i,z⟩:=bD D
   exact(M i x z).2
 ·intro h
  have ha:a.Nodup:=h.nodup_iff.2 W
  refine⟨fun i z=> ?_,h.length_eq⟩
  unfold BB
  rw[iD z]
  simp only[bL,dX]
  refine⟨List.any_eq_false.2 fun y I e=> ?_,List.any_eq_true.2 ⟨a[i],h.mem_iff.1 (bQ z),beq_self_eq_true _⟩⟩
  obtain⟨j,R,e'⟩:=List.mem_take_iff_getElem.1 I
  exact List.pairwise_iff_getElem.1 ha j i (by omega) z (by omega) (e'.trans (beq_iff_eq.1 e))
theorem aKu {l:List Int} (h:∀(i:Nat) x,l[i]?=some x->sA l i x=false):∀(j i:Nat) (x y:Int),i<j->l[i]?=some x->l[j]?=some y->x<y:=by
 intro j
 induction j with
 | zero=>intro i x y z;omega
 | succ j ih=>
  intro i x y z D M
  have H:j<l.length:=by have:=(iR.1 M).1;omega
  have I:=h (j+1) y M
  unfold sA at I
  simp only[iD H,aY,nS]at I
  by_cases e:i=j
  ·subst e
   rw[iD H]at D;cases D;exact I
  ·have:=ih i x l[j] (by omega) D (iD H)
   omega
theorem VG {l:List Int} (h:∀(i:Nat) x,l[i]?=some x->sA l i x=false):l.Nodup:=
 List.pairwise_iff_getElem.2 fun i j D H z e=>by
  have:=aKu h j i _ _ z (iD D) (iD H)
  omega
theorem aDP.nodup (h:aDP s):(s.Panes.map (·.Id)).Nodup:=VG fun i x e=>by
 rw[bX]at e
 obtain⟨p,z,rfl⟩:=Option.map_eq_some_iff.1 e
 exact(h i p z).2.2.1
theorem aIL.nodup (h:aIL s):(s.Wins.map (·.Id)).Nodup:=VG fun i x e=>by
 rw[bX]at e
 obtain⟨p,z,rfl⟩:=Option.map_eq_some_iff.1 e
 exact(h i p z).2.2.2.1
noncomputable def GG (s:bA) (p:dL):Bool:=p.Term.S.W !=(vT s p.Id).1||p.Term.S.H !=(vT s p.Id).2
theorem aEO (s:bA):s.Panes.any (GG s)=false↔aF6 s:=by
 rw[gT]
 constructor
 ·intro h p e
  have:=h p e
  unfold GG at this
  simpa using this
 ·intro h p e
  have:=h p e
  unfold GG
  simpa using this
noncomputable def sW (s:bA):Bool:=iB s.W s.H&&((decide (0<=s.Limit)&&decide (s.Limit<=100))&&((decide (1<=s.Next)&&decide (s.Next<=1000000))&&((!(List.range s.Panes.length).any (XB s)&&decide ((s.Panes.length:Int)<=24))&&((!(List.range s.Wins.length).any (DO s)&&(decide ((s.Wins.length:Int)<=12)&&RV (FG s.Wins) (s.Panes.map (·.Id))))&&((!(List.range s.Sess.length).any (GB s)&&(decide ((s.Sess.length:Int)<=8)&&RV (IR s.Sess) (s.Wins.map (·.Id))))&& !s.Panes.any (GG s))))))
theorem NW {p:dL} (h:SG F s):uS (F+70) p s=some (GG s p,s):=by
 unfold uS GG
 rw[aDr h.f.f,bd_s]
 generalize vT s p.Id=v
 obtain⟨a,b⟩:=v
 simp only
 cases(p.Term.S.W !=a)<;>rfl
theorem NP (h:SG F s):dY (F+70) s.Panes s=some (s.Panes.any (GG s),s):=by
 have e:=h.f.f.fu;have z:=h.f.f.pl
 unfold dY gJ
 have D:=j3 (fuel:=F+70) (B:=dZ (F+70)) (fun i=>(s,s.Panes,(s.Panes.length:Int),(i:Int))) s.Panes (GG s) (fun i=> .inr ((i:Int),s)) (.inl s) (v:=(s,s.Panes,(s.Panes.length:Int),0)) rfl (fun i x H=>by
  obtain⟨I,M,R,W,Y⟩:=aV H (by omega)
  unfold dZ
  simp only[I,br_t,aE M,R,bd_s,Y,aE W,NW h]
  cases GG s x<;>rfl) (by unfold dZ;simp) (by omega)
 rw[D,<-vU]
 unfold E1
 cases s.Panes.findIdx? (GG s)<;>rfl
theorem GQ (h:SG F s):wC (F+70) s=some (sW s):=by
 unfold wC sW
 simp only[pI_isSize_eq,pI_within_eq,pI_isId_eq,bd_s,U3 h.f,ZJ h,ZH h]
 have z:∀a b c d e f:Bool,br (!a) (some (s,true)) (br (!b) (some (s,true)) (br (!c) (some (s,true)) (br (!d) (some (s,true)) (br (!e) (some (s,true)) (some (s,!f))))))=some (s,!(a&&(b&&(c&&(d&&(e&&f)))))):=by
  intro a b c d e f;cases a<;>cases b<;>cases c<;>cases d<;>cases e<;>rfl
 rw[z,bd_s]
 simp only
 rw[NP h,bd_s]
 have D:∀a b c d e f g:Bool,br (!(a&&(b&&(c&&(d&&(e&&f)))))) (some false) (some (!g))=some (a&&(b&&(c&&(d&&(e&&(f&& !g)))))):=by
  intro a b c d e f g;cases a<;>cases b<;>cases c<;>cases d<;>cases e<;>cases f<;>rfl
 exact D _ _ _ _ _ _ _
theorem U5 {fuel:Nat} (w h:Int) (hf:20000<fuel):∃g,CA fuel w h=some (g,iB w h):=by
 unfold CA
 by_cases e:w<1
 ·exact⟨fY.mk 0 0 [],by rw[jA e,show iB w h=false by unfold iB;rw[iM (show¬1<=w by omega)];rfl];rfl⟩
 by_cases z:120<w
 ·exact⟨fY.mk 0 0 [],by rw[iM e,jA z,show iB w h=false by unfold iB;rw[iM (show¬w<=120 by omega)];simp];rfl⟩
 by_cases D:h<1
 ·exact⟨fY.mk 0 0 [],by rw[iM e,iM z,jA D,show iB w h=false by unfold iB;rw[iM (show¬1<=h by omega)];simp];rfl⟩
 by_cases M:120<h
 ·exact⟨fY.mk 0 0 [],by rw[iM e,iM z,iM D,jA M,show iB w h=false by unfold iB;rw[iM (show¬h<=120 by omega)];simp];rfl⟩
 have H:0<=w*h:=Int.mul_nonneg (by omega) (by omega)
 have Y:w*h<=120*120:=Int.mul_le_mul (by omega) (by omega) (by omega) (by omega)
 have I:cN IntKind.i64 (w*h):=cS (by omega) (by omega)
 rw[iM e,iM z,iM D,iM M]
 simp only[br_f,aE I,bd_s]
 by_cases R:4000<w*h
 ·exact⟨fY.mk 0 0 [],by rw[jA R,show iB w h=false by unfold iB;rw[iM (show¬w*h<=4000 by omega)];simp];rfl⟩
 have hs:iB w h=true:=qJ.2 ⟨by omega,by omega,by omega,by omega,by omega⟩
 rw[iM R,hs,br_f]
 obtain⟨n,W⟩:=Int.eq_ofNat_of_zero_le H
 have key:aL (oS fuel) fuel (fY.mk 0 0 [],fY.mk w h [],w,h,0)=some (fY.mk 0 0 [],fY.mk w h (List.replicate n (jB.mk 32 (oN.mk 0 0 false false false)))):=by
  refine fS (B:=oS fuel) (fuel:=fuel) (fun i=>(fY.mk 0 0 [],fY.mk w h (List.replicate i (jB.mk 32 (oN.mk 0 0 false false false))),w,h,(i:Int))) n _ rfl (fun i hi=> ?_) (by unfold oS;simp only[aE I];rw[W];simp) (by omega)
  have hr:cR K.iCell (List.replicate i (jB.mk 32 (oN.mk 0 0 false false false))++ [jB.mk 32 (oN.mk 0 0 false false false)]).length:=eK (by simp;omega) (by decide)
  unfold oS ET
  simp only[aE I,bd_s]
  rw[W,jA (show(i:Int)<(n:Int) by omega),br_t,aE hr,aE (cS (v:=(i:Int)+1) (by omega) (by omega)),<-List.replicate_succ']
  rfl
 rw[key]
 exact⟨_,rfl⟩
noncomputable def Z4 (s:bA):Bool:=iB s.W s.H&&(!decide (s.Limit<0)&&(!decide (100<s.Limit)&&(!decide (s.Next<1)&&(!decide (1000000<s.Next)&&(!decide (24<(s.Panes.length:Int))&&(!decide (12<(s.Wins.length:Int))&&(!decide (8<(s.Sess.length:Int))&&((!(List.range s.Wins.length).any (DP s)&&(!(List.range (FG s.Wins).length).any (BB (FG s.Wins) (s.Panes.map (·.Id)))&&((FG s.Wins).length:Int)==(s.Panes.length:Int)))&&((!(List.range s.Sess.length).any (GB s)&&(!(List.range (IR s.Sess).length).any (BB (IR s.Sess) (s.Wins.map (·.Id)))&&((IR s.Sess).length:Int)==(s.Wins.length:Int)))&& !(List.range s.Panes.length).any (TQ s))))))))))
theorem SL (h:SG F s):sO (F+70) s=some (Z4 s):=by
 have M:=h.f.f.fu
 obtain⟨g,R⟩:=U5 (fuel:=F+70) s.W s.H (by omega)
 unfold sO Z4
 simp only[R,bd_s,GY h,GX h,NC h.f]
 have D:∀a b c d e f g k:Bool,br (!a) (some (s,true)) (br b (some (s,true)) (br c (some (s,true)) (br d (some (s,true)) (br e (some (s,true)) (br f (some (s,true)) (br g (some (s,true)) (some (s,k))))))))=some (s,!(a&&(!b&&(!c&&(!d&&(!e&&(!f&&(!g&& !k)))))))):=by
  intro a b c d e f g k;cases a<;>cases b<;>cases c<;>cases d<;>cases e<;>cases f<;>cases g<;>cases k<;>rfl
 rw[D,bd_s]
 simp only
 rw[GY h,bd_s,GX h,bd_s,NC h.f,bd_s]
 have I:∀z a b c:Bool,br (!z) (some false) (bd (br a (br b (some c) (some false)) (some false)) fun x=>some x)=some (z&&(a&&(b&&c))):=by
  intro z a b c;cases z<;>cases a<;>cases b<;>cases c<;>rfl
 rw[I]
 simp only[Bool.and_assoc]
theorem aFP (s:bA):Z4 s=sW s:=by
 rw[dG]
 unfold Z4 sW
 simp only[aB,dC,aGe,aGf,VL,aEQ,aEO,aFq,bN,aY,fX,C0]
 constructor
 ·rintro⟨z,e,l2,D,H,I,M,c3,⟨⟨w,d⟩,u,ul⟩,⟨x,v,vl⟩,p,a⟩
  exact⟨z,⟨by omega,by omega⟩,⟨by omega,by omega⟩,⟨⟨p,d⟩,by omega⟩,⟨w,by omega,(I1 p.nodup).1 ⟨u,by simp;omega⟩⟩,⟨x,by omega,(I1 w.nodup).1 ⟨v,by simp;omega⟩⟩,a⟩
 ·rintro⟨z,⟨e,l2⟩,⟨D,H⟩,⟨⟨p,d⟩,I⟩,⟨w,M,u⟩,⟨x,c3,v⟩,a⟩
  obtain⟨R,W⟩:=(I1 p.nodup).2 u
  obtain⟨v1,Y⟩:=(I1 w.nodup).2 v
  rw[aP]at W Y
  exact⟨z,by omega,by omega,by omega,by omega,by omega,by omega,by omega,⟨⟨w,d⟩,R,by omega⟩,⟨x,v1,by omega⟩,p,a⟩
theorem GT (h:SG F s):sO (F+70) s=some (sW s):=by rw[SL h,aFP]
def xH (a b:ByteArray):Bool:=Op.bytesLess a.toList b.toList
theorem VM:∀(a:List UInt8),Op.bytesLess a a=false
 | []=>rfl
 | x::a=>by simp[Op.bytesLess,VM a]
theorem aAp:∀{a b c:List UInt8},Op.bytesLess a b=true->Op.bytesLess b c=true->Op.bytesLess a c=true
 | _,[],_,h,_=>by simp[Op.bytesLess]at h
 | _,_::_,[],_,h=>by simp[Op.bytesLess]at h
 | [],_::_,_::_,_,_=>rfl
 | x::a,y::b,z::c,D,e=>by
  simp only[Op.bytesLess,eZ,bN,aB,fX]at D e⊢
  rcases D with D|⟨rfl,D⟩
  ·rcases e with e|⟨rfl,e⟩
   ·exact .inl (UInt8.lt_trans D e)
   ·exact .inl D
  ·rcases e with e|⟨rfl,e⟩
   ·exact .inl e
   ·exact .inr ⟨rfl,aAp D e⟩
theorem aGh:∀{a b:List UInt8},Op.bytesLess a b=false->Op.bytesLess b a=false->a=b
 | [],[],_,_=>rfl
 | [],_::_,h,_=>by simp[Op.bytesLess]at h
 | _::_,[],_,h=>by simp[Op.bytesLess]at h
 | x::a,y::b,e,z=>by
  simp only[Op.bytesLess,bL,aY,gW,lK]at e z
  have D:x=y:=UInt8.le_antisymm (UInt8.not_lt.1 z.1) (UInt8.not_lt.1 e.1)
  subst D
  have H:Op.bytesLess a b=false:=by
   rcases e.2 with h|h
   ·exact absurd rfl h
   ·exact h
  have I:Op.bytesLess b a=false:=by
   rcases z.2 with h|h
   ·exact absurd rfl h
   ·exact h
  rw[aGh H I]
theorem QU (a:ByteArray):xH a a=false:=VM _
theorem vF {a b c:ByteArray} (e:xH a b=true) (z:xH b c=true):xH a c=true:=aAp e z
theorem toList_inj {a b:ByteArray} (h:a.toList=b.toList):a=b:=by
 rw[Lib.toList_data,Lib.toList_data]at h
 cases a;cases b
 congr 1
 exact Array.toList_inj.1 h
theorem YK {a b:ByteArray} (e:xH a b=false) (z:xH b a=false):a=b:=toList_inj (aGh e z)
theorem LR {a b:ByteArray} (h:xH a b=true):xH b a=false:=by
 cases e:xH b a with
 | false=>rfl
 | true=>exact absurd (vF h e) (by rw[QU];simp)
section
variable {α:Type} (nm:α->ByteArray)
def EW (l:List α):Prop:=l.Pairwise fun x y=>xH (nm x) (nm y)=true
def sJ (x:α):List α->List α
 | []=> [x]
 | y::l=>if xH (nm x) (nm y)=true then x::y::l else y::sJ x l
def QJ (n:ByteArray) (l:List α):List α:=l.filter fun y=>decide (nm y≠n)
theorem sL {l:List α} (h:EW nm l):EW nm (QJ nm n l):=h.filter _
theorem sM {l:List α} {y:α}:y∈QJ nm n l↔y∈l/\nm y≠n:=by
 unfold QJ
 simp
theorem D5 {x:α}:∀{l:List α} {y:α},y∈sJ nm x l↔y=x∨y∈l
 | [],y=>by simp[sJ]
 | z::l,y=>by
  unfold sJ
  split
  ·simp
  ·rw[dS,D5,dS]
   exact⟨fun h=>by rcases h with h|h|h<;>simp[h],fun h=>by rcases h with h|h|h<;>simp[h]⟩
theorem FC {x:α}:∀{l:List α},EW nm l->(∀y∈l,nm y≠nm x)->EW nm (sJ nm x l)
 | [],_,_=>by simp[sJ,EW]
 | z::l,h,D=>by
  obtain⟨H,I⟩:=List.pairwise_cons.1 h
  unfold sJ
  split
  ·rename_i e
   refine List.pairwise_cons.2 ⟨fun y hy=> ?_,h⟩
   rcases List.mem_cons.1 hy with rfl|hy
   ·exact e
   ·exact vF e (H y hy)
  ·rename_i e
   refine List.pairwise_cons.2 ⟨fun y hy=> ?_,FC I fun y hy=>D y (aI _ hy)⟩
   rcases(D5 nm).1 hy with rfl|hy
   ·cases M:xH (nm z) (nm y)with
    | true=>rfl
    | false=>exact absurd (YK M (Bool.eq_false_iff.2 e)) (D z aN)
   ·exact H y hy
def yH (n:ByteArray) (l:List α):Nat:=l.countP fun y=>xH (nm y) n
theorem aEe {x:α}:∀{l:List α},EW nm l->(∀y∈l,nm y≠nm x)->sJ nm x l=l.take (yH nm (nm x) l)++x::l.drop (yH nm (nm x) l)
 | [],_,_=>by simp[sJ,yH]
 | z::l,h,I=>by
  obtain⟨M,R⟩:=List.pairwise_cons.1 h
  unfold sJ
  split
  ·rename_i e
   have D:yH nm (nm x) (z::l)=0:=by
    unfold yH
    rw[List.countP_eq_zero]
    intro y hy
    rcases List.mem_cons.1 hy with rfl|hy
    ·rw[LR e];simp
    ·rw[LR (vF e (M y hy))];simp
   rw[D]
   rfl
  ·rename_i e
   have H:xH (nm z) (nm x)=true:=by
    cases W:xH (nm z) (nm x)with
    | true=>rfl
    | false=>exact absurd (YK W (Bool.eq_false_iff.2 e)) (I z aN)
   have D:yH nm (nm x) (z::l)=yH nm (nm x) l+1:=by
    unfold yH
    rw[List.countP_cons_of_pos (by exact H)]
   rw[D,List.take_succ_cons,List.drop_succ_cons,aEe R fun y hy=>I y (aI _ hy)]
   rfl
theorem aDX {n:ByteArray}:∀{l:List α} {i:Nat} {y:α},EW nm l->l[i]?=some y->(xH (nm y) n=true↔i<yH nm n l)
 | [],i,y,_,h=>by simp at h
 | z::l,0,y,h,D=>by
  obtain rfl:z=y:=by simpa using D
  obtain⟨H,R⟩:=List.pairwise_cons.1 h
  unfold yH
  constructor
  ·intro e
   rw[List.countP_cons_of_pos (by exact e)]
   omega
  ·intro W
   cases e:xH (nm z) n with
   | true=>rfl
   | false=>
    rw[List.countP_cons_of_neg (by rw[e];simp)]at W
    obtain⟨y,D,I⟩:=List.countP_pos_iff.1 W
    rw[vF (H y D) I]at e
    cases e
 | z::l,i+1,y,h,D=>by
  obtain⟨H,R⟩:=List.pairwise_cons.1 h
  have D:l[i]?=some y:=by simpa using D
  rw[aDX R D]
  cases e:xH (nm z) n with
  | true=>
   unfold yH
   rw[List.countP_cons_of_pos (by exact e)]
   omega
  | false=>
   have Y:∀w∈l,xH (nm w) n=false:=fun w M=>by
    cases I:xH (nm w) n with
    | false=>rfl
    | true=>rw[vF (H w M) I]at e;cases e
   unfold yH
   rw[List.countP_cons_of_neg (by rw[e];simp),List.countP_eq_zero.2 (fun w M=>by rw[Y w M];simp)]
   omega
end
theorem KS:∀{a b:List Int},a.Perm b->a.Pairwise (·<=·)->b.Pairwise (·<=·)->a=b:=fun h e z=>h.eq_of_pairwise (fun x y _ _ D H=>Int.le_antisymm D H) e z
theorem aAZ (I:f.Pairwise (· < ·)):(a.mergeSort fun x y=>decide (x<=y))=f↔a.length=f.length/\a.Nodup/\∀x∈a,x∈f:=by
 have e:(a.mergeSort fun x y=>decide (x<=y)).Perm a:=jP a _
 have M:(a.mergeSort fun x y=>decide (x<=y)).Pairwise (·<=·):=by
  have:=List.pairwise_mergeSort (le:=fun(x y:Int)=>decide (x<=y)) (fun a b c z D=>by simp at z D⊢;omega) (fun a b=>by simp;omega) a
  exact this.imp fun h=>by simpa using h
 have H:f.Pairwise (·<=·):=I.imp fun h=>Int.le_of_lt h
 have R:f.Nodup:=I.imp fun h=>Int.ne_of_lt h
 constructor
 ·intro h
  rw[h]at e
  exact⟨e.symm.length_eq,e.nodup_iff.1 R,fun x W=>e.mem_iff.2 W⟩
 ·rintro⟨z,D,Y⟩
  exact KS (e.trans (aEu D z Y)) M H
def aAY (a f:List Int):Bool:=decide (a.length=f.length)&&(List.range a.length).all fun i=>match a[i]? with
 | some n=> !(a.take i).contains n&&f.contains n
 | none=>true
theorem aDd:a.Nodup↔∀i n,a[i]?=some n->n∉a.take i:=by
 constructor
 ·intro h i n H M
  obtain⟨j,z⟩:=bD M
  rw[aU]at z
  split at z
  ·rename_i R
   have I:=(iR.1 H).1
   have:=(List.getElem?_inj (by omega) h).1 (z.trans H.symm)
   omega
  ·cases z
 ·intro h
  unfold List.Nodup
  rw[List.pairwise_iff_getElem]
  intro i j I z D e
  refine h j a[j] (iD z) ?_
  rw[<-e]
  exact tF (i:=i) (by rw[aU,if_pos D];exact iD I)
theorem QA:aAY a f=true↔a.length=f.length/\a.Nodup/\∀x∈a,x∈f:=by
 unfold aAY
 rw[aB,bN,List.all_eq_true,aDd]
 refine and_congr_right fun I=>⟨fun h=>⟨fun i n z D=> ?_,fun x H=> ?_⟩,fun h i e=> ?_⟩
 ·have:=h i (List.mem_range.2 (iR.1 z).1)
  rw[z]at this
  simp only[aB,dC,List.contains_eq_mem,aY]at this
  exact this.1 D
 ·obtain⟨i,e⟩:=bD H
  have:=h i (List.mem_range.2 (iR.1 e).1)
  rw[e]at this
  simp only[aB,dC,List.contains_eq_mem,aY,bN]at this
  exact this.2
 ·have e:=List.mem_range.1 e
  rw[iD e]
  simp only[aB,dC,List.contains_eq_mem,aY,bN]
  exact⟨h.1 i _ (iD e),h.2 _ (bQ _)⟩
abbrev pM:aT->ByteArray:=aT.Name
abbrev ins:aT->List aT->List aT:=sJ pM
abbrev less:ByteArray->List aT->List aT:=QJ pM
abbrev e0:ByteArray:=ByteArray.mk #[]
def xF (nameB:ByteArray->Bool) (t:eA):Bool:=
 if t.Kind=1 then nameB t.Name&&decide (t.To=e0)else if t.Kind=4 then nameB t.Name&&nameB t.To&&decide (t.Id=0)else if t.Kind=5 then nameB t.Name&&decide (t.To=e0)&&decide (t.Id=0)else false
def NN (d:List aT) (t:eA):Option (List aT):=
 let k:=d.find? fun l=>decide (l.Name=t.Name)
 if t.Kind=1 then(if k.isSome then none else some (ins ⟨t.Name,t.Id⟩ d))
 else match k with
  | none=>none
  | some x=>if t.Kind=4/\t.To=t.Name then none else if t.Kind=4 then some (ins ⟨t.To,x.Id⟩ (less t.To (less t.Name d)))else some (less t.Name d)
def fnd (d:List aT) (n:ByteArray):Int:=match d.find? fun l=>decide (l.Name=n)with|some x=>x.Id|none=>0
def oY (d:List aT) (t:eA):List aT:=
 if t.Kind=1 then ins ⟨t.Name,t.Id⟩ d else if t.Kind=4 then ins ⟨t.To,fnd d t.Name⟩ (less t.To (less t.Name d))else less t.Name d
def rN (nameB:ByteArray->Bool) (d:List aT) (t:eA):Bool:=
 nameB t.Name&&(if t.Kind=1 then decide (t.To=e0)&&decide (0<t.Id)&& !decide (0<fnd d t.Name)else if t.Kind=4 then nameB t.To&&decide (t.To≠t.Name)&&decide (t.Id=0)&&decide (0<fnd d t.Name)else if t.Kind=5 then decide (t.To=e0)&&decide (t.Id=0)&&decide (0<fnd d t.Name)else false)
structure rW (d:List aT):Prop where
 s:EW pM d
 p:∀x∈d,0<x.Id
theorem JE {d:List aT} {x:aT} (h:d.find? (fun l=>decide (l.Name=n))=some x):fnd d n=x.Id:=by unfold fnd;rw[h]
theorem aAU {d:List aT} (h:d.find? (fun l=>decide (l.Name=n))=none):fnd d n=0:=by unfold fnd;rw[h]
theorem rW.pos {d:List aT} (e:rW d) (n:ByteArray):0<fnd d n↔(d.find? fun l=>decide (l.Name=n)).isSome=true:=by
 cases h:d.find? (fun l=>decide (l.Name=n))with
 | none=>rw[aAU h];simp
 | some x=>rw[JE h];simp[e.p x (iN h)]
theorem rW.less {d:List aT} (e:rW d) (n:ByteArray):rW (less n d):=⟨sL pM e.s,fun x z=>e.p x ((sM pM).1 z).1⟩
theorem rW.ins {d:List aT} (e:rW d) {x:aT} (z:0<x.Id) (D:∀y∈d,y.Name≠x.Name):rW (ins x d):=⟨FC pM e.s D,fun y hy=>by
 rcases(D5 pM).1 hy with rfl|hy
 ·exact z
 ·exact e.p y hy⟩
theorem LS {d:List aT} (h:(d.find? fun l=>decide (l.Name=n))=none):∀y∈d,y.Name≠n:=fun y z e=>by
 have:=List.find?_eq_none.1 h y z
 simp[e]at this
theorem MN {nameB:ByteArray->Bool} {d:List aT} {t:eA} (D:rW d) (R:t.Kind=1->0<t.Id) :
  (xF nameB t&&(NN d t).isSome)=rN nameB d t/\(rN nameB d t=true->NN d t=some (oY d t)/\rW (oY d t)):=by
 have W:=D.pos t.Name
 unfold xF rN NN oY
 cases H:d.find? (fun l=>decide (l.Name=t.Name))with
 | none=>
  have I:¬0<fnd d t.Name:=by rw[W,H];simp
  rw[iM I]
  by_cases e:t.Kind=1
  ·simp only[e,if_true,Option.isSome_none,aJ,if_false,Option.isSome_some,jA (R e),bE,aZ,aB,true_and]
   exact fun _=>D.ins (R e) (LS H)
  ·simp[e]
 | some x=>
  have I:0<fnd d t.Name:=by rw[W,H];simp
  have Y:fnd d t.Name=x.Id:=JE H
  rw[jA I]
  by_cases e:t.Kind=1
  ·simp[e]
  ·by_cases M:t.Kind=4
   ·have z:¬(4:Int)=1:=by omega
    by_cases he:t.To=t.Name
    ·simp[M,he,z]
    ·simp only[M,z,if_false,if_true,he,and_false,Option.isSome_some,bE,ne_eq,not_false_eq_true,decide_true,Y]
     refine⟨by cases nameB t.Name<;>cases nameB t.To<;>rfl,fun _=>⟨trivial,((D.less _).less _).ins (by rw[<-Y];exact I) fun y hy=>((sM pM).1 hy).2⟩⟩
   ·by_cases h5:t.Kind=5
    ·simp only[h5,show¬(5:Int)=1 by omega,show¬(5:Int)=4 by omega,if_false,if_true,false_and,Option.isSome_some,bE,Bool.and_assoc,true_and]
     exact fun _=>D.less _
    ·simp[e,M,h5]
def CW (nameB:ByteArray->Bool):List aT->List eA->Bool
 | _,[]=>true
 | d,t::l=>xF nameB t&&match NN d t with|some d'=>CW nameB d' l|none=>false
def oJ (nameB:ByteArray->Bool):List aT->List eA->Bool
 | _,[]=>true
 | d,t::l=>rN nameB d t&&oJ nameB (oY d t) l
theorem TH {nameB:ByteArray->Bool}:∀{l:List eA} {d:List aT},rW d->(∀t∈l,t.Kind=1->0<t.Id)->CW nameB d l=oJ nameB d l/\(oJ nameB d l=true->rW (l.foldl oY d))
 | [],d,z,_=>⟨rfl,fun _=>z⟩
 | t::l,d,z,H=>by
  obtain⟨e,M⟩:=MN (nameB:=nameB) z (H t aN)
  unfold CW oJ
  cases D:rN nameB d t with
  | false=>
   rw[D]at e
   refine⟨?_,fun h=>by simp at h⟩
   cases R:NN d t with
   | none=>simp
   | some d'=>rw[R]at e;simp at e;simp[e]
  | true=>
   obtain⟨I,W⟩:=M D
   rw[D,I]at e
   obtain⟨Y,h6⟩:=TH (nameB:=nameB) W fun t' h=>H t' (aI _ h)
   rw[I]
   simp only[Option.isSome_some,bE]at e
   simp only[e,aK,Y,List.foldl_cons,true_and]
   exact h6
def rY (kept:List aT) (turns:List eA):List Int:=kept.map (·.Id)++(turns.filter fun t=>decide (t.Kind=1)).map (·.Id)
theorem aC8 {nameB:ByteArray->Bool} {turns:List eA} (z:f.Pairwise (· < ·)) (D:∀x∈f,0<x) (H:EW pM kept) :
  (CW nameB kept turns&&decide (((rY kept turns).mergeSort fun x y=>decide (x<=y))=f))=(aAY (rY kept turns) f&&oJ nameB kept turns):=by
 cases e:aAY (rY kept turns) f with
 | false=>
  have:¬((rY kept turns).mergeSort fun x y=>decide (x<=y))=f:=fun h=>by
   rw[QA.2 ((aAZ z).1 h)]at e
   cases e
  rw[iM this]
  simp
 | true=>
  have h:=QA.1 e
  rw[jA ((aAZ z).2 h),bE,aK]
  have I:rW kept:=⟨H,fun x M=>D _ (h.2.2 _ (bJ _ (jO M)))⟩
  exact(TH I fun t R W=>D _ (h.2.2 _ (bG _ (jO (List.mem_filter.2 ⟨R,by simpa using W⟩))))).1
structure IX (nameB:ByteArray->Bool) (kept:List aT) (turns:List eA) (f:List Int):Prop where
 d:rW kept
 t:∀t∈turns,t.Kind=1->0<t.Id
 i:∀x∈rY kept turns,x∈f
 s:oJ nameB kept turns=true
theorem aC7 {nameB:ByteArray->Bool} {turns:List eA} (z:∀x∈f,0<x) (D:EW pM kept) (h:(aAY (rY kept turns) f&&oJ nameB kept turns)=true):IX nameB kept turns f:=by
 rw[aB]at h
 have e:=(QA.1 h.1).2.2
 exact⟨⟨D,fun x H=>z _ (e _ (bJ _ (jO H)))⟩,fun t I M=>z _ (e _ (bG _ (jO (List.mem_filter.2 ⟨I,by simpa using M⟩)))),e,h.2⟩
def K8 (kept:List aT) (turns:List eA):List aT:=turns.foldl oY kept
theorem aFV {d:List aT} {t:eA} {S:Int->Prop} (e:∀x∈d,S x.Id) (z:t.Kind=1->S t.Id) (D:t.Kind=4->S (fnd d t.Name)):∀x∈oY d t,S x.Id:=by
 intro x hx
 unfold oY at hx
 split at hx
 ·rename_i H
  rcases(D5 pM).1 hx with rfl|hx
  ·exact z H
  ·exact e x hx
 ·split at hx
  ·rename_i I
   rcases(D5 pM).1 hx with rfl|hx
   ·exact D I
   ·exact e x ((sM pM).1 ((sM pM).1 hx).1).1
  ·exact e x ((sM pM).1 hx).1
theorem aD1 {nameB:ByteArray->Bool} {S:Int->Prop}:∀{l:List eA} {d:List aT},rW d->(∀t∈l,t.Kind=1->0<t.Id/\S t.Id)->oJ nameB d l=true->(∀x∈d,S x.Id)->rW (K8 d l)/\∀x∈K8 d l,S x.Id
 | [],d,e,_,_,h=>⟨e,h⟩
 | t::l,d,e,z,h,H=>by
  unfold oJ at h
  rw[aB]at h
  have M:=((MN (nameB:=nameB) e fun D=>(z t aN D).1).2 h.1).2
  refine aD1 (l:=l) (d:=oY d t) M (fun R W=>z R (aI _ W)) h.2 (aFV H (fun D=>(z t aN D).2) fun Y=> ?_)
  have hf:0<fnd d t.Name:=by
   have:=h.1
   unfold rN at this
   rw[if_neg (by omega),if_pos Y]at this
   simp only[aB,bN]at this
   exact this.2.2
  obtain⟨x,I⟩:=Option.isSome_iff_exists.1 ((e.pos t.Name).1 hf)
  rw[JE I]
  exact H x (iN I)
theorem IX.dir {nameB:ByteArray->Bool} {turns:List eA} (h:IX nameB kept turns f):rW (K8 kept turns)/\∀x∈K8 kept turns,x.Id∈f:=
 aD1 (S:=fun n=>n∈f) h.d (fun t e z=>⟨h.t t e z,h.i _ (bG _ (jO (List.mem_filter.2 ⟨e,by simpa using z⟩)))⟩) h.s fun x D=>h.i _ (bJ _ (jO D))
def P3 (files:List gB) (d:List aT) (n:ByteArray):Option gB:=
 match d.find? fun l=>decide (l.Name=n)with
 | none=>none
 | some x=>files.find? fun f=>decide (f.Id=x.Id)
theorem aCQ {files:List gB} {d:List aT} (h:∀x∈d,x.Id∈files.map (·.Id)) (n:ByteArray) {x:aT} (z:d.find? (fun l=>decide (l.Name=n))=some x):∃f,P3 files d n=some f/\f∈files/\f.Id=x.Id:=by
 unfold P3
 rw[z]
 dsimp only
 cases e:files.find? (fun f=>decide (f.Id=x.Id))with
 | some f=>exact⟨f,rfl,iN e,by simpa using List.find?_some e⟩
 | none=>
  obtain⟨f,D,H⟩:=List.mem_map.1 (h x (iN z))
  have:=List.find?_eq_none.1 e f D
  simp[H]at this
theorem aCi {α:Type} {R:α->α->Prop} (D:∀x y z,R x y->R y z->R x z):∀{l:List α},(∀i x y,l[i]?=some x->l[i+1]?=some y->R x y)->l.Pairwise R
 | [],_=> .nil
 | a::l,h=>by
  have H:l.Pairwise R:=aCi (R:=R) D fun i x y I hy=>h (i+1) x y (by simpa using I) (by simpa using hy)
  refine List.pairwise_cons.2 ⟨fun y hy=> ?_,H⟩
  cases l with
  | nil=>cases hy
  | cons b l=>
   have e:R a b:=h 0 a b rfl rfl
   rcases List.mem_cons.1 hy with rfl|hy
   ·exact e
   ·exact D _ _ _ e ((List.pairwise_cons.1 H).1 y hy)
def o6 (next:Int) (fs:List gB) (i:Nat):Bool:=match fs[i]? with
 | none=>true
 | some f=>decide (f.Id<1)||decide (next<=f.Id)||(match i with|0=>false|j+1=>match fs[j]? with|some g=>decide (f.Id<=g.Id)|none=>true)||decide (f.Safe<0)||decide ((f.Body.length:Int)<f.Safe)
def wA (next:Int) (fs:List gB):Bool:= !(List.range fs.length).any (o6 next fs)
theorem V2 {fs:List gB} (h:wA next fs=true):(fs.map (·.Id)).Pairwise (· < ·)/\∀x∈fs.map (·.Id),0<x:=by
 unfold wA at h
 simp only[dC,gT,List.mem_range,Bool.not_eq_true]at h
 have key:∀i f,fs[i]?=some f->o6 next fs i=false:=fun i f e=>h i (iR.1 e).1
 constructor
 ·rw[List.pairwise_map]
  refine aCi (R:=fun(x y:gB)=>x.Id<y.Id) (fun _ _ _ I M=>Int.lt_trans I M) fun i x y z D=> ?_
  have:=key (i+1) y D
  unfold o6 at this
  rw[D]at this
  simp only[z,bL,aY]at this
  omega
 ·intro x z
  obtain⟨f,e,rfl⟩:=List.mem_map.1 z
  obtain⟨i,H⟩:=bD e
  have:=key i f H
  unfold o6 at this
  rw[H]at this
  simp only[bL,aY]at this
  omega
def qF (nameB:ByteArray->Bool) (ls:List aT) (i:Nat):Bool:=match ls[i]? with
 | none=>true
 | some f=> !nameB f.Name||(match i with|0=>false|j+1=>match ls[j]? with|some g=> !xH g.Name f.Name|none=>true)
def yZ (nameB:ByteArray->Bool) (ls:List aT):Bool:= !(List.range ls.length).any (qF nameB ls)
theorem QF {nameB:ByteArray->Bool} {ls:List aT} (h:yZ nameB ls=true):EW pM ls:=by
 unfold yZ at h
 simp only[dC,gT,List.mem_range,Bool.not_eq_true]at h
 refine aCi (R:=fun(x y:aT)=>xH x.Name y.Name=true) (fun _ _ _ z D=>vF z D) fun i x y H e=> ?_
 have:=h (i+1) (iR.1 e).1
 unfold qF at this
 rw[e]at this
 simp only[H,bL,dX]at this
 exact this.2
def YE (nameB:ByteArray->Bool) (fs:List gB) (kept:List aT) (turns:List eA):Bool:=CW nameB kept turns&&decide (((rY kept turns).mergeSort fun x y=>decide (x<=y))=fs.map (·.Id))
def QM (nameB:ByteArray->Bool) (fs:List gB) (kept:List aT) (turns:List eA):Bool:=aAY (rY kept turns) (fs.map (·.Id))&&oJ nameB kept turns
theorem aE2 {nameB:ByteArray->Bool} {fs:List gB} {turns:List eA}:(wA next fs&&(yZ nameB kept&&YE nameB fs kept turns))=(wA next fs&&(yZ nameB kept&&QM nameB fs kept turns)):=by
 cases e:wA next fs with
 | false=>rfl
 | true=>
  cases z:yZ nameB kept with
  | false=>rfl
  | true=>
   obtain⟨D,H⟩:=V2 e
   simp only[aK]
   exact aC8 D H (QF z)
theorem aCw {nameB:ByteArray->Bool} {fs:List gB} {turns:List eA} (h:(wA next fs&&(yZ nameB kept&&QM nameB fs kept turns))=true):IX nameB kept turns (fs.map (·.Id))/\(fs.map (·.Id)).Pairwise (· < ·):=by
 simp only[aB]at h
 obtain⟨e,z⟩:=V2 h.1
 exact⟨aC7 z (QF h.2.1) (by rw[aB];unfold QM at h;rw[aB]at h;exact h.2.2),e⟩
def nOk (x:UInt8):Bool:=bOk x||(x.toNat==46)
def XA (s:ByteArray) (i:Nat):Bool:=match s[i]? with
 | some x=> !nOk x
 | none=>false
def nameB (s:ByteArray):Bool:= !(List.range s.size).any (XA s)&&(decide (1<=(s.size:Int))&&decide ((s.size:Int)<=16))
theorem aIR (x:UInt8):∃n:Int,cW (ByteArray.mk #[46]) (x.toNat:Int)=some n/\decide (0<=n)=(x.toNat==46):=by
 unfold cW
 rw[aE (by show(1:Nat)<=_;omega)]
 refine⟨_,rfl,?_⟩
 have e:UInt8.ofNat (x.toNat:Int).toNat=x:=by rw[f0];exact UInt8.ofNat_toNat
 rw[e]
 show decide (0<=Lib.indexByte [46] x)=_
 unfold Lib.indexByte
 by_cases h:x=46
 ·subst h;rfl
 ·have z:((46:UInt8)==x)=false:=by rw[lK];exact fun e=>h e.symm
  have D:(x.toNat==46)=false:=by rw[lK];exact fun e=>h (UInt8.toNat_inj.1 e)
  rw[z,D]
  rfl
theorem BM {fuel:Nat} {s:ByteArray} (hs:s.size<=1048576) (H:s.size<fuel):pP fuel s=some (nameB s):=by
 unfold pP wG nameB
 have key:aL (lD fuel) fuel (s,16,ByteArray.mk #[46],(s.size:Int),0)=some (if(List.range s.size).any (XA s)then Sum.inr false else Sum.inl (s,16)):=by
  refine fG (fun i=>(s,16,ByteArray.mk #[46],(s.size:Int),(i:Int))) s.size (XA s) (Sum.inr false) (Sum.inl (s,16)) rfl (fun i z=> ?_) (by unfold lD;simp) H
  have e:=N9 z
  unfold lD XA
  rw[e]
  generalize s[i]=x at e
  simp only
  rw[show decide ((i:Int)<(s.size:Int))=true by simpa using z,br_t,aE (by omega),show(i:Int).toNat=i by omega,e,bd_s]
  obtain⟨a,b,c,d,I,M,R,W,Y⟩:=CY x
  obtain⟨n,g1,D⟩:=aIR x
  unfold nOk
  obtain⟨g,hg⟩:∃g,(x.toNat==46)=g:=⟨_,rfl⟩
  simp only[I,M,R,W,Y,g1,hg]at D⊢
  have h5:(i:Int)+1=((i+1:Nat):Int):=by omega
  have hk:cN .i64 ((i:Int)+1):=cS (by omega) (by omega)
  cases a<;>cases b<;>cases c<;>cases d<;>cases g<;>simp only[br_t,br_f,bd_s,D]<;>first|rfl|(refine(uP hk _).trans ?_;rw[h5];rfl)
 rw[key]
 cases(List.range s.size).any (XA s)with
 | true=>rfl
 | false=>
  simp only[aJ,if_false,jn_l,pI_within_eq,bd_s,aZ,aK]
theorem CE {fuel:Nat} {s:ByteArray} (hs:s.size<=1048576) (Y:s.size<fuel):vM fuel s=some (nameB s):=by
 unfold vM nameB
 have key:aL (uY fuel) fuel (s,0)=some (if(List.range s.size).any (XA s)then Sum.inr false else Sum.inl s):=by
  refine fG (fun i=>(s,(i:Int))) s.size (XA s) (Sum.inr false) (Sum.inl s) rfl (fun i M=> ?_) (by unfold uY;simp) Y
  have e:=N9 M
  unfold uY XA
  rw[e]
  generalize s[i]=x at e
  simp only
  rw[show decide ((i:Int)<(s.size:Int))=true by simpa using M,br_t]
  simp only[aE (show(0:Int)<=(i:Int) by omega),show(i:Int).toNat=i by omega,e,bd_s]
  obtain⟨a,b,c,d,z,D,R,W,e5⟩:=CY x
  have f1:decide ((x.toNat:Int)<97)= !a:=by rw[<-z];by_cases h:97<=(x.toNat:Int)<;>simp[h]<;>omega
  have f2:decide (122<(x.toNat:Int))= !b:=by rw[<-D];by_cases h:(x.toNat:Int)<=122<;>simp[h]<;>omega
  have f3:decide ((x.toNat:Int)<48)= !c:=by rw[<-R];by_cases h:48<=(x.toNat:Int)<;>simp[h]<;>omega
  have f4:decide (57<(x.toNat:Int))= !d:=by rw[<-W];by_cases h:(x.toNat:Int)<=57<;>simp[h]<;>omega
  have H:((x.toNat:Int) !=46)= !(x.toNat==46):=by
   by_cases h:x.toNat=46
   ·rw[h];rfl
   ·rw[show(x.toNat==46)=false from beq_eq_false_iff_ne.2 h];simp;omega
  unfold nOk
  obtain⟨g,hg⟩:∃g,(x.toNat==46)=g:=⟨_,rfl⟩
  simp only[f1,f2,f3,f4,H,e5,hg]
  have h5:(i:Int)+1=((i+1:Nat):Int):=by omega
  have f5:a=true->b=false->c=true/\d=false:=by
   intro I hb
   subst I hb
   simp only[bN,aY]at z D
   constructor
   ·rw[<-R];simp;omega
   ·rw[<-W];simp;omega
  have f6:a=false->b=true:=by
   intro I
   subst I
   simp only[aY]at z
   rw[<-D];simp;omega
  have hk:cN .i64 ((i:Int)+1):=cS (by omega) (by omega)
  cases a<;>cases b<;>cases c<;>cases d<;>cases g<;>simp only[br_t,br_f,bd_s,aM,aZ]<;>first|rfl|(exact absurd (f6 rfl) (by decide))|(have H:=f5 rfl rfl;simp at H;done)|(refine(uP hk _).trans ?_;rw[h5];rfl)
 rw[key]
 cases(List.range s.size).any (XA s)with
 | true=>rfl
 | false=>
  simp only[aJ,if_false,jn_l,bd_s,aZ,aK]
  cases decide (1<=(s.size:Int))<;>rfl
structure TO (F:Nat) (d:cO):Prop where
 fu:20000000<F
 fl:d.Files.length<=1048576
 fb:∀f∈d.Files,f.Body.length<=1048576
 kl:d.Kept.length<=1048576
 kn:∀x∈d.Kept,x.Name.size<=1048576
 tl:d.Turns.length<=1048576
 tn:∀t∈d.Turns,t.Name.size<=1048576/\t.To.size<=1048576
def yB (fs:List gB):Nat:=(fs.map fun f=>f.Body.length).sum
theorem aDL {fs:List gB} {f:gB} (h:fs[i]?=some f):yB (fs.take (i+1))=yB (fs.take i)+f.Body.length:=by
 unfold yB;rw[cD h];simp
theorem aB3:∀{fs:List gB},(∀f∈fs,f.Body.length<=1048576)->yB fs<=1048576*fs.length
 | [],_=>by simp[yB]
 | f::fs,h=>by
  have z:=h f aN
  have D:=aB3 (fs:=fs) fun g e=>h g (aI _ e)
  unfold yB at *
  rw[bR,List.sum_cons,cL]
  omega
theorem SH (h:TO F d):uR F d=some (yB d.Files:Int):=by
 have I:=h.fu;have M:=h.fl
 unfold uR
 have key:aL (o9 F) F (0,d.Files,(d.Files.length:Int),0)=some (yB d.Files:Int):=by
  refine fS (fun i=>((yB (d.Files.take i):Int),d.Files,(d.Files.length:Int),(i:Int))) d.Files.length _ rfl (fun i z=> ?_) (by unfold o9;simp) (by omega)
  have e:d.Files[i]?=some d.Files[i]:=iD z
  obtain⟨R,W,D,Y,h5⟩:=aV e (by omega)
  have H:=aDL e
  have hb:=h.fb _ (bQ z)
  have hl:=aB3 (fs:=d.Files.take i) fun g hg=>h.fb g (iA hg)
  rw[aF]at hl
  generalize d.Files[i]=x at e D H hb
  unfold o9
  simp only[R,br_t,aE W,D,bd_s]
  rw[aE (cS (by omega) (by omega)),h5,aE Y,H]
  rfl
 rw[key]
 rfl
theorem aDy (h:TO F d):IG F d=some (yB d.Files:Int):=SH h
theorem uF (a b:Int):decide (a<=b)= !decide (b<a):=by by_cases h:b<a<;>simp[h]<;>omega
theorem aCR (h:TO F d) (hn:1<=d.Next/\d.Next<=1000000):aL (l5 F) F (d,d.Files,(d.Files.length:Int),0)=some (if(List.range d.Files.length).any (o6 d.Next d.Files)then Sum.inr false else Sum.inl d):=by
 have I:=h.fu;have M:=h.fl
 refine fG (fun i=>(d,d.Files,(d.Files.length:Int),(i:Int))) d.Files.length (o6 d.Next d.Files) (Sum.inr false) (Sum.inl d) rfl (fun i R=> ?_) (by unfold l5;simp) (by omega)
 rw[<-VN]
 have z:d.Files[i]?=some d.Files[i]:=iD R
 obtain⟨W,Y,H,h4,h5⟩:=aV z (by omega)
 have e:∀c:Bool,(br c (some (.inr (.inr false))) (gd (cN IntKind.i64 ((i:Int)+1)) (some (.inl (d,d.Files,(d.Files.length:Int),(i:Int)+1)))):Option ((cO×List gB×Int×Int)⊕(cO⊕Bool)))=br c (some (.inr (.inr false))) (some (.inl (d,d.Files,(d.Files.length:Int),((i+1:Nat):Int)))):=by
  intro c
  rw[h5,aE h4]
 unfold l5
 simp only[W,br_t,aE Y,H,bd_s,pI_within_eq]
 rw[(iS .i64 (d.Next-1)).2 ⟨by show -9223372036854775808<=_;omega,by show _<=9223372036854775807;omega⟩]
 unfold o6
 rw[z]
 generalize d.Files[i]=x at z H
 have n1:decide (x.Id<=d.Next-1)= !decide (d.Next<=x.Id):=by rw[uF,decide_eq_decide.2 (show d.Next-1<x.Id↔d.Next<=x.Id by omega)]
 simp only[n1,uF 1 x.Id,uF 0 x.Safe,uF x.Safe (x.Body.length:Int)]
 cases i with
 | zero=>
  simp only[show decide ((0:Int)<((0:Nat):Int))=false from rfl,br_f]
  cases decide (x.Id<1)<;>cases decide (d.Next<=x.Id)<;>cases decide (x.Safe<0)<;>cases decide ((x.Body.length:Int)<x.Safe)<;>first|exact e true|exact e false
 | succ i=>
  have D:i<d.Files.length:=by omega
  have hg:d.Files[i]?=some d.Files[i]:=iD D
  simp only[jA (show(0:Int)<((i+1:Nat):Int) by omega),br_t]
  rw[dH (by omega) (by omega),yX (by omega) (by omega),show(((i+1:Nat):Int)-1).toNat=i by omega,hg]
  generalize d.Files[i]=g
  simp only[bd_s]
  cases decide (x.Id<1)<;>cases decide (d.Next<=x.Id)<;>cases decide (x.Id<=g.Id)<;>cases decide (x.Safe<0)<;>cases decide ((x.Body.length:Int)<x.Safe)<;>first|exact e true|exact e false
theorem U0 (h:TO F d) (e:1<=d.Next/\d.Next<=1000000):o7 F d=some (wA d.Next d.Files&&(decide ((d.Files.length:Int)<=10)&&decide ((yB d.Files:Int)<=d.Room))):=by
 unfold o7 wA
 rw[aCR h e]
 cases(List.range d.Files.length).any (o6 d.Next d.Files)with
 | true=>rfl
 | false=>
  simp only[aJ,if_false,jn_l,SH h,bd_s,aZ,aK]
  cases decide ((d.Files.length:Int)<=10)<;>rfl
theorem D4 (g:α->J) {l:List α} {x:α} (h:l[i]?=some x):(l.take i).map g++ [g x]=(l.take (i+1)).map g:=by rw[cD h];simp
theorem aEZ (h:TO F d):aL (qY F) F (d,[],d.Files,(d.Files.length:Int),0)=some (if(List.range d.Files.length).any (o6 d.Next d.Files)then Sum.inr false else Sum.inl (d,d.Files.map (·.Id))):=by
 have M:=h.fu;have R:=h.fl
 refine fG (B:=qY F) (fuel:=F) (fun i=>(d,(d.Files.take i).map (·.Id),d.Files,(d.Files.length:Int),(i:Int))) d.Files.length (o6 d.Next d.Files) (Sum.inr false) (Sum.inl (d,d.Files.map (·.Id))) rfl (fun i W=> ?_) (by unfold qY;simp) (by omega)
 rw[<-VN]
 have z:d.Files[i]?=some d.Files[i]:=iD W
 obtain⟨Y,h2,H,h4,h5⟩:=aV z (by omega)
 have I:=D4 (fun f:gB=>f.Id) z
 have hr:cR K.int ((d.Files.take (i+1)).map (·.Id)).length:=eK (by rw[aP,aF];omega) (by decide)
 unfold qY
 simp only[Y,br_t,aE h2,H,bd_s]
 unfold o6
 rw[z]
 generalize d.Files[i]=x at z H I
 have e:∀c:Bool,(br c (some (.inr (.inr false))) (gd (cR K.int ((d.Files.take i).map (·.Id)++ [x.Id]).length) (gd (cN IntKind.i64 ((i:Int)+1)) (some (.inl (d,(d.Files.take i).map (·.Id)++ [x.Id],d.Files,(d.Files.length:Int),(i:Int)+1))))):Option ((cO×List Int×List gB×Int×Int)⊕(cO×List Int⊕Bool)))=br c (some (.inr (.inr false))) (some (.inl (d,(d.Files.take (i+1)).map (·.Id),d.Files,(d.Files.length:Int),((i+1:Nat):Int)))):=by
  intro c
  rw[I,aE hr,h5,aE h4]
 cases i with
 | zero=>
  simp only[show decide ((0:Int)<((0:Nat):Int))=false from rfl,br_f]
  cases decide (x.Id<1)<;>cases decide (d.Next<=x.Id)<;>cases decide (x.Safe<0)<;>cases decide ((x.Body.length:Int)<x.Safe)<;>first|exact e true|exact e false
 | succ i=>
  have D:i<d.Files.length:=by omega
  have hg:d.Files[i]?=some d.Files[i]:=iD D
  simp only[jA (show(0:Int)<((i+1:Nat):Int) by omega),br_t]
  rw[dH (by omega) (by omega),yX (by omega) (by omega),show(((i+1:Nat):Int)-1).toNat=i by omega,hg]
  generalize d.Files[i]=g
  simp only[bd_s]
  cases decide (x.Id<1)<;>cases decide (d.Next<=x.Id)<;>cases decide (x.Id<=g.Id)<;>cases decide (x.Safe<0)<;>cases decide ((x.Body.length:Int)<x.Safe)<;>first|exact e true|exact e false
theorem aE0 (h:TO F d) (A:List Int):aL (uV F) F (d,A,d.Kept,(d.Kept.length:Int),0)=some (if(List.range d.Kept.length).any (qF nameB d.Kept)then Sum.inr false else Sum.inl (d,A)):=by
 have R:=h.fu;have W:=h.kl
 refine fG (fun i=>(d,A,d.Kept,(d.Kept.length:Int),(i:Int))) d.Kept.length (qF nameB d.Kept) (Sum.inr false) (Sum.inl (d,A)) rfl (fun i z=> ?_) (by unfold uV;simp) (by omega)
 rw[<-VN]
 have D:d.Kept[i]?=some d.Kept[i]:=iD z
 obtain⟨Y,h2,I,h4,h5⟩:=aV D (by omega)
 have M:=CE (fuel:=F) (h.kn _ (bQ z)) (by have:=h.kn _ (bQ z);omega)
 have e:∀c:Bool,(br c (some (.inr (.inr false))) (gd (cN IntKind.i64 ((i:Int)+1)) (some (.inl (d,A,d.Kept,(d.Kept.length:Int),(i:Int)+1)))):Option ((cO×List Int×List aT×Int×Int)⊕(cO×List Int⊕Bool)))=br c (some (.inr (.inr false))) (some (.inl (d,A,d.Kept,(d.Kept.length:Int),((i+1:Nat):Int)))):=by
  intro c
  rw[h5,aE h4]
 unfold uV
 simp only[Y,br_t,aE h2,I,bd_s,M]
 unfold qF
 rw[D]
 generalize d.Kept[i]=x at D I M
 cases i with
 | zero=>
  simp only[show decide ((0:Int)<((0:Nat):Int))=false from rfl,br_f]
  cases nameB x.Name<;>first|exact e true|exact e false
 | succ i=>
  have H:i<d.Kept.length:=by omega
  have hg:d.Kept[i]?=some d.Kept[i]:=iD H
  simp only[jA (show(0:Int)<((i+1:Nat):Int) by omega),br_t]
  rw[dH (by omega) (by omega),yX (by omega) (by omega),show(((i+1:Nat):Int)-1).toNat=i by omega,hg]
  generalize d.Kept[i]=g
  simp only[bd_s]
  unfold xH
  cases nameB x.Name<;>cases Op.bytesLess g.Name.toList x.Name.toList<;>first|exact e true|exact e false
theorem ZQ (h:TO F d):FW F d=some (rY d.Kept d.Turns):=by
 have hfu:=h.fu;have hkl:=h.kl;have htl:=h.tl
 unfold FW rY
 have k1:aL (u7 F) F (d,[],d.Kept,(d.Kept.length:Int),0)=some (d,d.Kept.map (·.Id)):=by
  refine fS (fun i=>(d,(d.Kept.take i).map (·.Id),d.Kept,(d.Kept.length:Int),(i:Int))) d.Kept.length _ rfl (fun i R=> ?_) (by unfold u7;simp) (by omega)
  have e:d.Kept[i]?=some d.Kept[i]:=iD R
  obtain⟨W,Y,D,H,I⟩:=aV e (by omega)
  have z:=D4 (fun f:aT=>f.Id) e
  generalize d.Kept[i]=x at e D z
  unfold u7
  simp only[W,br_t,aE Y,D,bd_s]
  rw[z,aE (eK (by rw[aP,aF];omega) (by decide)),I,aE H]
 have k2:aL (u9 F) F (d.Kept.map (·.Id),d.Turns,(d.Turns.length:Int),0)=some (d.Kept.map (·.Id)++(d.Turns.filter fun t=>decide (t.Kind=1)).map (·.Id)):=by
  refine fS (fun i=>(d.Kept.map (·.Id)++((d.Turns.take i).filter fun t=>decide (t.Kind=1)).map (·.Id),d.Turns,(d.Turns.length:Int),(i:Int))) d.Turns.length _ (by simp) (fun i R=> ?_) (by unfold u9;simp) (by omega)
  have e:d.Turns[i]?=some d.Turns[i]:=iD R
  obtain⟨W,Y,D,H,I⟩:=aV e (by omega)
  have hlen:((d.Turns.take i).filter fun t=>decide (t.Kind=1)).length<=i:=aX (gX _ _) (by rw[aF];omega)
  have z:((d.Turns.take (i+1)).filter fun t=>decide (t.Kind=1))=((d.Turns.take i).filter fun t=>decide (t.Kind=1))++ [d.Turns[i]].filter fun t=>decide (t.Kind=1):=by rw[cD e,eP]
  generalize d.Turns[i]=x at e D z
  unfold u9
  simp only[W,br_t,aE Y,D,bd_s]
  by_cases M:x.Kind=1
  ·rw[show(x.Kind==1)=true by simp[M],br_t,aE (eK (by simp;omega) (by decide)),bd_s]
   simp only
   rw[I,aE H,z]
   simp[M]
  ·rw[show(x.Kind==1)=false by simp[M],br_f,bd_s]
   simp only
   rw[I,aE H,z]
   simp[M]
 rw[k1,bd_s]
 simp only
 rw[k2,bd_s]
theorem V5 {turns:List eA}:(rY kept turns).length<=kept.length+turns.length:=by
 unfold rY
 rw[aW,aP,aP]
 have:=gX (fun t:eA=>decide (t.Kind=1)) turns
 omega
def MT (a f:List Int) (i:Nat):Bool:=match a[i]? with
 | some n=>((a.take i).any fun y=>y==n)|| !(f.any fun y=>y==n)
 | none=>false
theorem aE1 (h:TO F d) {B:List Int} (hA:A.length<=4000000) (hB:B.length<=4000000):aL (uW F) F (d,A,B,(B.length:Int),0)=some (if(List.range B.length).any (MT B A)then Sum.inr false else Sum.inl d):=by
 have R:=h.fu
 refine fG (fun i=>(d,A,B,(B.length:Int),(i:Int))) B.length (MT B A) (Sum.inr false) (Sum.inl d) rfl (fun i W=> ?_) (by unfold uW;simp) (by omega)
 have D:B[i]?=some B[i]:=iD W
 obtain⟨Y,h2,M,h4,h5⟩:=aV D (by omega)
 have e:MT B A i=(((B.take i).any fun y=>y==B[i])|| !(A.any fun y=>y==B[i])):=by
  unfold MT;rw[D]
 generalize B[i]=x at D M e
 have H:=mN (fuel:=F) (l:=B.take i) (n:=x) (by rw[aF];omega) (by rw[aF];omega)
 have I:=mN (fuel:=F) (l:=A) (n:=x) (by omega) (by omega)
 unfold uW
 simp only[Y,br_t,aE h2,bP,M,bd_s,uP (show(0:Int)<=(i:Int)/\(i:Int)<=(B.length:Int)from⟨by omega,by omega⟩)]
 rw[show nQ false B 0 ((i:Int).toNat-0)=B.take i from IP,H,bd_s,I,bd_s]
 have z:∀a b:Bool,br a (some (d,A,B,(B.length:Int),(i:Int),true)) (some (d,A,B,(B.length:Int),(i:Int),!b))=some (d,A,B,(B.length:Int),(i:Int),a|| !b):=by
  intro a b;cases a<;>rfl
 rw[z,bd_s,<-e]
 cases MT B A i with
 | true=>simp
 | false=>simp only[br_f];rw[h5,aE h4];simp
theorem W7 (l:List Int) (n:Int):(l.any fun y=>y==n)=l.contains n:=by
 rw[List.contains_eq_any_beq]
 congr 1
 funext y
 rw[dG]
 simp only[fX]
 exact eq_comm
theorem aHq (a f:List Int):aAY a f=(decide (a.length=f.length)&& !(List.range a.length).any (MT a f)):=by
 unfold aAY
 rw[List.not_any_eq_all_not]
 congr 2
 funext i
 unfold MT
 cases a[i]? with
 | none=>rfl
 | some n=>simp only[W7,Bool.not_or,Bool.not_not]
theorem pV {n:Nat} (h:n<=2097152):cR K.iLink n:=eK h (by decide)
theorem yM {l:List aT} (W:l.length<=1000000000) (M:l.length<F):sP F l n=some (fnd l n):=by
 unfold sP fnd
 rcases kZ (B:=s0 F) (fun i=>(n,l,(l.length:Int),(i:Int))) l (fun x=>decide (x.Name=n)) (fun i=> .inr (match l[i]? with|some x=>x.Id|none=>0)) (.inl ()) (fuel:=F) (v:=(n,l,(l.length:Int),0)) rfl (fun i x D=>by
  obtain⟨e,z,H,I,R⟩:=aV D (by omega)
  unfold s0
  simp only[e,br_t,aE z,H,bd_s,R,aE I,D]
  cases decide (x.Name=n)<;>rfl) (by unfold s0;simp) M with⟨i,x,e,z,H,I⟩ |⟨e,z⟩
 ·rw[I,JB e z H,e];rfl
 ·rw[z,List.find?_eq_none.2 fun x D=>by rw[e x D];simp];rfl
theorem GU {l:List aT} (hl:l.length<=1048576) (W:l.length<F):wP F l n=some (less n l):=by
 unfold wP
 have key:aL (s7 F) F (n,[],l,(l.length:Int),0)=some (less n l):=by
  refine fS (fun i=>(n,less n (l.take i),l,(l.length:Int),(i:Int))) l.length _ rfl (fun i Y=> ?_) (by unfold s7;simp) W
  have z:l[i]?=some l[i]:=iD Y
  obtain⟨h1,h2,H,I,M⟩:=aV z (by omega)
  have D:less n (l.take (i+1))=less n (l.take i)++less n [l[i]]:=by unfold less QJ;rw[cD z,eP]
  have R:(less n (l.take i)).length<=i:=aX (gX _ _) (by rw[aF];omega)
  generalize l[i]=x at z H D
  unfold s7
  simp only[h1,br_t,aE h2,H,bd_s]
  by_cases e:x.Name=n
  ·rw[jA e]
   simp only[aM,br_f,bd_s]
   rw[M,aE I,D]
   simp[less,QJ,e,pM]
  ·rw[iM e]
   simp only[aZ,br_t]
   rw[aE (pV (by simp;omega)),bd_s]
   simp only
   rw[M,aE I,D]
   simp[less,QJ,e,pM]
 rw[key]
 rfl
theorem tP (n:ByteArray) (l:List aT):(less n l).length<=l.length:=gX _ _
theorem FD (x:aT):∀l:List aT,(ins x l).length=l.length+1
 | []=>rfl
 | y::l=>by
  show(sJ pM x (y::l)).length=_
  unfold sJ
  split
  ·rfl
  ·rw[cL,show(sJ pM x l).length=l.length+1 from FD x l];rfl
theorem aK3 (a b:ByteArray):(!(Op.bytesLess a.toList b.toList||decide (a=b)))=xH b a:=by
 cases z:xH b a with
 | true=>
  have D:Op.bytesLess a.toList b.toList=false:=LR z
  have H:a≠b:=fun e=>by subst e;rw[QU]at z;cases z
  rw[D,iM H];rfl
 | false=>
  cases D:Op.bytesLess a.toList b.toList with
  | true=>rfl
  | false=>rw[jA (YK D z)];rfl
def GC (x:aT):List aT->Bool
 | []=>false
 | y::l=>xH x.Name y.Name||GC x l
theorem aA1 (x y:aT):∀l:List aT,GC x l=true->ins x (l++ [y])=ins x l++ [y]/\GC x (l++ [y])=true
 | [],h=>by cases h
 | z::l,h=>by
  show sJ pM x (z::(l++ [y]))=sJ pM x (z::l)++ [y]/\(xH x.Name z.Name||GC x (l++ [y]))=true
  unfold GC at h
  unfold sJ
  by_cases e:xH (pM x) (pM z)=true
  ·rw[if_pos e,if_pos e];exact⟨rfl,by rw[show xH x.Name z.Name=true from e];rfl⟩
  ·have D:xH x.Name z.Name=false:=by simpa using e
   rw[D,b9]at h
   obtain⟨H,I⟩:=aA1 x y l h
   rw[if_neg e,if_neg e,D,I]
   exact⟨by rw[show sJ pM x (l++ [y])=ins x (l++ [y])from rfl,H];rfl,rfl⟩
theorem LJ (x y:aT):∀l:List aT,GC x l=false->ins x l=l++ [x]/\ins x (l++ [y])=(if xH x.Name y.Name then l++ [x]++ [y]else l++ [y]++ [x])/\GC x (l++ [y])=xH x.Name y.Name
 | [],_=>by
  refine⟨rfl,?_,?_⟩
  ·show sJ pM x [y]=_
   unfold sJ
   show(if xH x.Name y.Name=true then _ else _)=_
   by_cases h:xH x.Name y.Name=true
   ·rw[if_pos h,if_pos h];rfl
   ·rw[if_neg h,if_neg h];rfl
  ·show(xH x.Name y.Name||false)=_
   rw[Bool.or_false]
 | z::l,h=>by
  unfold GC at h
  rw[bL]at h
  obtain⟨e0,D,H⟩:=LJ x y l h.2
  have e:¬xH (pM x) (pM z)=true:=by rw[show xH (pM x) (pM z)=false from h.1];simp
  refine⟨?_,?_,?_⟩
  ·show sJ pM x (z::l)=_
   unfold sJ
   rw[if_neg e,show sJ pM x l=ins x l from rfl,e0];rfl
  ·show sJ pM x (z::(l++ [y]))=_
   unfold sJ
   rw[if_neg e,show sJ pM x (l++ [y])=ins x (l++ [y])from rfl,D]
   split<;>rfl
  ·show(xH x.Name z.Name||GC x (l++ [y]))=_
   rw[h.1,H];rfl
theorem GW {l:List aT} {k:Int} (hl:l.length<=1048576) (hf:l.length<F):wR F l n k=some (ins ⟨n,k⟩ l):=by
 unfold wR
 have hp:∀i,(if GC ⟨n,k⟩ (l.take i)=true then ins ⟨n,k⟩ (l.take i)else l.take i).length<=l.length+1:=fun i=>by
  split
  ·rw[FD,aF];omega
  ·rw[aF];omega
 have key:aL (s8 F) F (n,k,[],false,l,(l.length:Int),0)=some (n,k,(if GC ⟨n,k⟩ l=true then ins ⟨n,k⟩ l else l),GC ⟨n,k⟩ l):=by
  refine fS (fun i=>(n,k,(if GC ⟨n,k⟩ (l.take i)=true then ins ⟨n,k⟩ (l.take i)else l.take i),GC ⟨n,k⟩ (l.take i),l,(l.length:Int),(i:Int))) l.length _ rfl (fun i hi=> ?_) (by unfold s8;simp) hf
  have H:l[i]?=some l[i]:=iD hi
  obtain⟨h1,h2,Y,I,M⟩:=aV H (by omega)
  have e:=hp i
  have D:=cD H
  generalize l[i]=x at H Y D
  unfold s8
  simp only[h1,br_t,aE h2,Y,bd_s,aK3]
  rw[D]
  cases z:GC ⟨n,k⟩ (l.take i)with
  | true=>
   obtain⟨R,W⟩:=aA1 ⟨n,k⟩ x _ z
   rw[z]at e
   simp only[aM,br_f,bd_s,if_true,R,W]at e⊢
   rw[aE (pV (by rw[aW,fV];omega)),M,aE I]
  | false=>
   obtain⟨e0,R,W⟩:=LJ ⟨n,k⟩ x _ z
   rw[z]at e
   simp only[aZ,br_t,bd_s,aJ,if_false,R,W]at e⊢
   cases hb:xH n x.Name with
   | true=>
    simp only[br_t,if_true]
    rw[aE (pV (by rw[aW,fV];omega)),bd_s]
    simp only
    rw[aE (pV (by rw[aW,aW,fV,fV];omega)),M,aE I]
   | false=>
    simp only[br_f,bd_s,aJ,if_false]
    rw[aE (pV (by rw[aW,fV];omega)),M,aE I]
 rw[key,bd_s]
 simp only
 cases z:GC ⟨n,k⟩ l with
 | true=>simp only[aM,br_f,bd_s,if_true]
 | false=>
  simp only[aZ,br_t,aJ,if_false]
  rw[aE (pV (by rw[aW,fV];omega)),bd_s,(LJ ⟨n,k⟩ ⟨n,k⟩ _ z).1]
theorem GV {l:List aT} {t:eA} (D:l.length<=1048576) (H:1048576<F):wQ F l t=some (oY l t):=by
 have I:=tP t.Name l
 have M:=tP t.To (less t.Name l)
 unfold wQ oY
 by_cases e:t.Kind=1
 ·rw[show(t.Kind==1)=true by simp[e],br_t,GW D (by omega),if_pos e];rfl
 ·rw[show(t.Kind==1)=false by simp[e],br_f,yM (by omega) (by omega),bd_s,GU D (by omega),bd_s,if_neg e]
  by_cases z:t.Kind=4
  ·rw[show(t.Kind==4)=true by simp[z],br_t,GU (by omega) (by omega),bd_s,GW (by omega) (by omega),if_pos z];rfl
  ·rw[show(t.Kind==4)=false by simp[z],br_f,if_neg z];rfl
theorem N5 {l:List aT} {t:eA} (R:l.length<=1048576) (W:1048576<F) (I:t.Name.size<=1048576) (M:t.To.size<=1048576):vA F l t=some (rN nameB l t):=by
 unfold vA rN
 rw[yM (by omega) (by omega),bd_s,CE I (by omega),bd_s]
 cases nameB t.Name with
 | false=>rfl
 | true=>
  simp only[aM,br_f,aK]
  by_cases z:t.Kind=1
  ·rw[show(t.Kind==1)=true by simp[z],br_t,if_pos z]
   cases decide (t.To=e0)<;>cases decide (0<t.Id)<;>rfl
  ·rw[show(t.Kind==1)=false by simp[z],br_f,if_neg z]
   by_cases D:t.Kind=4
   ·rw[show(t.Kind==4)=true by simp[D],br_t,if_pos D,CE M (by omega),bd_s]
    have e:(t.Id==0)=decide (t.Id=0):=rfl
    rw[e,show decide (t.To≠t.Name)= !decide (t.To=t.Name) by by_cases h:t.To=t.Name<;>simp[h]]
    cases nameB t.To<;>cases decide (t.To=t.Name)<;>cases decide (t.Id=0)<;>rfl
   ·rw[show(t.Kind==4)=false by simp[D],br_f,if_neg D]
    have e:(t.Id==0)=decide (t.Id=0):=rfl
    rw[e]
    by_cases H:t.Kind=5
    ·rw[show(t.Kind==5)=true by simp[H],br_t,if_pos H]
     cases decide (t.To=e0)<;>cases decide (t.Id=0)<;>rfl
    ·rw[show(t.Kind==5)=false by simp[H],br_f,if_neg H]
theorem F5 (l:List aT) (t:eA):(oY l t).length<=l.length+1:=by
 have e:=tP t.Name l
 have z:=tP t.To (less t.Name l)
 unfold oY
 split
 ·rw[FD];omega
 ·split
  ·rw[FD];omega
  ·omega
theorem VU {F:Nat} {T:List eA} (hF:20000000<F) (hT:T.length<=500000) (D:∀t∈T,t.Name.size<=1048576/\t.To.size<=1048576):∀(m fl i:Nat) (l:List aT),T.length-i=m->i<=T.length->m<fl->l.length+m<=1048576->aL (qZ F) fl (l,T,(T.length:Int),(i:Int))=some (if oJ nameB l (T.drop i)then Sum.inl ()else Sum.inr false)
 | m,0,i,l,H,I,M,R=>by omega
 | 0,fl+1,i,l,H,I,M,R=>by
  obtain rfl:i=T.length:=by omega
  rw[lS]
  unfold aL qZ
  simp[oJ]
 | m+1,fl+1,i,l,H,I,M,R=>by
  have e:i<T.length:=by omega
  have z:T[i]?=some T[i]:=iD e
  obtain⟨h1,h2,W,h4,h5⟩:=aV z (by omega)
  obtain⟨Y,g2⟩:=D _ (bQ e)
  rw[tK z]
  generalize T[i]=x at z W Y g2
  have hln:=F5 l x
  have ih:=VU hF hT D m fl (i+1) (oY l x) (by omega) (by omega) (by omega) (by omega)
  have hB:qZ F (l,T,(T.length:Int),(i:Int))=br (rN nameB l x) (some (.inl (oY l x,T,(T.length:Int),((i+1:Nat):Int)))) (some (.inr (.inr false))):=by
   unfold qZ
   simp only[h1,br_t,aE h2,W,bd_s,N5 (F:=F) (l:=l) (t:=x) (by omega) (by omega) Y g2,GV (F:=F) (l:=l) (t:=x) (by omega) (by omega)]
   rw[h5,aE h4]
   cases rN nameB l x<;>rfl
  unfold aL oJ
  rw[hB]
  cases rN nameB l x with
  | false=>rfl
  | true=>exact ih
def DX (d:cO):Bool:=((decide (0<=d.Room)&&decide (d.Room<=400000))&&((decide (-1<=d.Fuse)&&decide (d.Fuse<=1000))&&(decide (1<=d.Next)&&decide (d.Next<=1000000))))&&((decide ((d.Files.length:Int)<=10)&&(decide ((d.Kept.length:Int)<=10)&&(decide ((d.Turns.length:Int)<=30)&&decide ((yB d.Files:Int)<=d.Room))))&&(wA d.Next d.Files&&(yZ nameB d.Kept&&QM nameB d.Files d.Kept d.Turns)))
theorem B9 (h:TO F d):vL F d=some (DX d):=by
 have z:=h.fu;have D:=h.fl;have H:=h.kl;have I:=h.tl
 unfold vL DX
 rw[aDy h]
 simp only[uF,Bool.not_and,bd_s]
 cases decide (d.Room<0)with
 | true=>rfl
 | false=>
 cases decide (400000<d.Room)with
 | true=>rfl
 | false=>
 cases decide (d.Fuse< -1)with
 | true=>rfl
 | false=>
 cases decide (1000<d.Fuse)with
 | true=>rfl
 | false=>
 cases decide (d.Next<1)with
 | true=>rfl
 | false=>
 cases decide (1000000<d.Next)with
 | true=>rfl
 | false=>
 cases M:decide (10<(d.Files.length:Int))with
 | true=>rfl
 | false=>
 cases R:decide (10<(d.Kept.length:Int))with
 | true=>rfl
 | false=>
 cases W:decide (30<(d.Turns.length:Int))with
 | true=>rfl
 | false=>
 cases decide (d.Room<(yB d.Files:Int))with
 | true=>rfl
 | false=>
  rw[aY]at M R W
  simp only[br_f,bd_s,aZ,aK]
  rw[aEZ h]
  unfold wA yZ QM
  cases(List.range d.Files.length).any (o6 d.Next d.Files)with
  | true=>rfl
  | false=>
   simp only[aJ,if_false,jn_l,aZ,aK]
   rw[aE0 h]
   cases(List.range d.Kept.length).any (qF nameB d.Kept)with
   | true=>rfl
   | false=>
    simp only[aJ,if_false,jn_l,aZ,aK]
    have Y:=V5 (kept:=d.Kept) (turns:=d.Turns)
    rw[ZQ h,bd_s,aHq]
    by_cases e:(rY d.Kept d.Turns).length=(d.Files.map (·.Id)).length
    ·rw[show(((rY d.Kept d.Turns).length:Int) !=((d.Files.map (·.Id)).length:Int))=false by rw[e];simp,br_f,jA e,aK,aE1 h (by rw[aP];omega) (by omega)]
     cases(List.range (rY d.Kept d.Turns).length).any (MT (rY d.Kept d.Turns) (d.Files.map (·.Id)))with
     | true=>rfl
     | false=>
      simp only[aJ,if_false,jn_l,aZ,aK]
      have:=VU (F:=F) (T:=d.Turns) z (by omega) h.tn d.Turns.length F 0 d.Kept rfl (by omega) (by omega) (by omega)
      rw[dK]at this
      rw[show((0:Nat):Int)=0 from rfl]at this
      rw[this]
      cases oJ nameB d.Kept d.Turns<;>rfl
    ·rw[show(((rY d.Kept d.Turns).length:Int) !=((d.Files.map (·.Id)).length:Int))=true by simp at e⊢;omega,br_t,iM e]
     rfl
theorem G9 {l:List aT} (h:l.length<=2097152):gV F l=some l:=by
 unfold gV
 refine XK (by rw[cV,aE (pV h)]) fun e=>by rw[e]
theorem JW {l:List aT} (W:l.length<=1000000000) (e:l.length<F):zD F l n=some (E1 (fun y=>decide (y.Name=n)) l):=by
 unfold zD gP E1
 have h:=j3 (B:=d6 F) (fun i=>(n,l,(l.length:Int),(i:Int))) l (fun y=>decide (y.Name=n)) (fun i=> .inr ((i:Int),n)) (.inl n) (v:=(n,l,(l.length:Int),0)) rfl (fun i x z=>by
  obtain⟨D,H,I,M,R⟩:=aV z (by omega)
  unfold d6 EF
  simp only[D,br_t,aE H,I,bd_s,R,aE M]
  cases decide (x.Name=n)<;>rfl) (by unfold d6;simp) e
 rw[h]
 cases l.findIdx? _<;>rfl
theorem qW {l:List aT} (hl:l.length<=1048600) (hf:l.length<F):nK F l n=some (less n l):=by
 unfold nK
 rw[G9 (by omega),bd_s]
 suffices h:dM F l n=some (less n l,n) by rw[h];rfl
 have D:∀m:List aT,less n m=m.filter fun r=> !decide (r.Name=n):=fun m=>by
  show m.filter (fun y=>decide (y.Name≠n))=_
  congr 1
  funext y
  by_cases h:y.Name=n<;>simp[h]
 rw[D]
 unfold dM fO
 rcases kZ (B:=dA F) (fun i=>(n,l,(l.length:Int),(i:Int))) l (fun x=>decide (x.Name=n)) (fun i=> .inr ((i:Int),n)) (.inl n) (fuel:=F) (v:=(n,l,(l.length:Int),0)) rfl (fun i x hx=>by
  obtain⟨H,I,h3,h4,h5⟩:=aV hx (by omega)
  unfold dA lR
  simp only[H,br_t,aE I,h3,bd_s,h5,aE h4]
  cases decide (x.Name=n)<;>rfl) (by
  unfold dA
  simp) hf with⟨i,x,H,I,h3,h4⟩ |⟨H,I⟩
 ·have hi:=(iR.1 H).1
  rw[h4]
  simp only[jn_r,bd_s]
  rw[show((i:Int)== -1)=false by simp,br_f,aE (cS (by omega) (by omega))]
  have z:l.take i=(l.take (i+1)).filter fun r=> !decide (r.Name=n):=by
   rw[cD H,eP]
   have M:(l.take i).filter (fun r=> !decide (r.Name=n))=l.take i:=List.filter_eq_self.2 fun y hy=>by
    obtain⟨j,hj⟩:=bD hy
    have R:j<i:=by have:=(iR.1 hj).1;simp at this;omega
    rw[aU,if_pos R]at hj
    rw[h3 j y R hj];rfl
   rw[M,List.filter_cons_of_neg (by rw[I];simp)]
   simp
  obtain⟨o,p1,p2,p3,p4,p5,p6⟩:=y2 (V:=ByteArray×List aT×Int×Int) (O:=ByteArray×List aT×Int) (B:=eX F)
   (fun v=>v.1=n/\v.2.1.length=l.length/\0<=v.2.2.1/\v.2.2.1<v.2.2.2/\v.2.2.2<=(l.length:Int)/\v.2.1.take v.2.2.1.toNat=(l.take v.2.2.2.toNat).filter (fun r=> !decide (r.Name=n))/\v.2.1.drop v.2.2.2.toNat=l.drop v.2.2.2.toNat)
   (fun v=>((l.length:Int)-v.2.2.2).toNat) (fun o=>o.1=n/\o.2.1.length=l.length/\0<=o.2.2/\o.2.2<=(l.length:Int)/\o.2.1.take o.2.2.toNat=l.filter (fun r=> !decide (r.Name=n))) (by
    rintro⟨nn,v,k,j⟩ ⟨a0,a1,a2,a3,a4,a5,a6⟩
    simp only at a0 a1 a2 a3 a4 a5 a6⊢
    subst a0
    unfold eX
    simp only
    by_cases hlt:j<(l.length:Int)
    ·left
     rw[show decide (j<(v.length:Int))=true by simp;omega,br_t,aE ⟨by omega,by omega⟩]
     have W:l[j.toNat]?=some (l[j.toNat]'(by omega)):=iD (by omega)
     have hjv:v[0+j.toNat]?=some (l[j.toNat]'(by omega)):=by
      rw[<-W,bP]
      have M:=bK (xs:=v) (i:=j.toNat) (j:=0)
      have e2:=bK (xs:=l) (i:=j.toNat) (j:=0)
      rw[a6]at M
      rw[eY]at M e2
      rw[<-M,<-e2]
     have hkv:v[0+k.toNat]?=some (v[k.toNat]'(by omega)):=by rw[bP,iD (by omega)]
     have hd:v.drop (j+1).toNat=l.drop (j+1).toNat:=by
      have e:(j+1).toNat=j.toNat+1:=by omega
      rw[e,<-kH,<-kH,a6]
     have ht:l.take (j+1).toNat=l.take j.toNat++ [l[j.toNat]'(by omega)]:=by
      rw[show(j+1).toNat=j.toNat+1 by omega,cD W]
     rw[hjv,bd_s]
     unfold lR
     rw[bd_s]
     generalize l[j.toNat]'(by omega)=x9 at *
     cases Y:decide (x9.Name=nn)with
     | true=>
      simp only[aM,br_f,bd_s]
      rw[aE (cS (by omega) (by omega))]
      refine⟨_,rfl,⟨rfl,a1,a2,by dsimp only;omega,by dsimp only;omega,?_,hd⟩,by dsimp only;omega⟩
      dsimp only
      rw[ht,eP,<-a5,List.filter_cons_of_neg (by rw[Y];simp)]
      simp
     | false=>
      simp only[aZ,br_t]
      rw[aE ⟨by omega,by omega⟩,hkv,bd_s,aE (cS (by omega) (by omega)),bd_s]
      simp only
      rw[aE (cS (by omega) (by omega))]
      refine⟨_,rfl,⟨rfl,by simp[a1],by dsimp only;omega,by dsimp only;omega,by dsimp only;omega,?_,?_⟩,by dsimp only;omega⟩
      ·dsimp only
       rw[ht,eP,<-a5,show(k+1).toNat=k.toNat+1 by omega,bP]
       have hset:(v.set k.toNat x9)[k.toNat]?=some x9:=by rw[jX (by omega)]
       rw[cD hset,List.take_set_of_le (bB _),List.filter_cons_of_pos (by rw[Y];rfl)]
       rfl
      ·dsimp only
       rw[bP,List.drop_set_of_lt (by omega)]
       exact hd
    ·right
     rw[show decide (j<(v.length:Int))=false by simp;omega,br_f]
     refine⟨_,rfl,rfl,a1,a2,by dsimp only;omega,?_⟩
     dsimp only
     rw[a5,List.take_of_length_le (by omega)]) F (n,l,(i:Int),(i:Int)+1) ⟨rfl,rfl,by dsimp only;omega,by dsimp only;omega,by dsimp only;omega,by
      dsimp only
      rw[show((i:Int)+1).toNat=i+1 by omega,show(i:Int).toNat=i by omega]
      exact z,rfl⟩ (by dsimp only;omega)
  rw[p1,bd_s]
  obtain⟨nn,v,k⟩:=o
  simp only at p2 p3 p4 p5 p6⊢
  rw[aE ⟨by omega,by omega⟩,aE ⟨by omega,by omega⟩,p2]
  congr 2
  rw[<-p6,Nat.sub_zero,dK,bP]
  unfold CO
  rw[aQ,List.take_append_of_le_length (by rw[aF];omega),nU,Nat.min_self]
 ·rw[I]
  simp only[jn_l,bd_s]
  rw[show((-1:Int)== -1)=true by rfl,br_t]
  congr 2
  exact(List.filter_eq_self.2 fun y hy=>by rw[H y hy];rfl).symm
theorem aGT:∀a b:List UInt8,decide (Lib.compareBytes a b<0)=Op.bytesLess a b
 | [],[]=>rfl
 | [],_::_=>rfl
 | _::_,[]=>rfl
 | a::l,b::m=>by
  unfold Lib.compareBytes Op.bytesLess
  by_cases z:a<b
  ·rw[if_pos z,jA z];rfl
  ·rw[if_neg z,iM z,b9]
   by_cases D:b<a
   ·rw[if_pos D,beq_eq_false_iff_ne.2 (fun e=>by subst e;exact z D)];rfl
   ·rw[if_neg D,show(a==b)=true from beq_iff_eq.2 (UInt8.le_antisymm (UInt8.not_lt.1 D) (UInt8.not_lt.1 z)),aK]
    exact aGT l m
theorem TK (F:Nat) (a b:aT):∃n:Int,sZ F a b=some n/\decide (n<0)=xH a.Name b.Name:=by
 refine⟨Lib.compareBytes a.Name.data.toList b.Name.data.toList,rfl,?_⟩
 unfold xH
 rw[aGT,Lib.toList_data,Lib.toList_data]
theorem aPm {i j:Int} (e:0<=i) (z:i<j) (D:j<=1048600):(IntKind.u64.wrap (i+j)).fdiv (2 ^ min (Int.toNat 1) IntKind.u64.bits)=(i+j) / 2:=by
 rw[show IntKind.u64.wrap (i+j)=i+j from(iS .u64 _).2 ⟨by show 0<=_;omega,by show _<=18446744073709551615;omega⟩]
 show(i+j).fdiv 2=_
 rw[Int.fdiv_eq_ediv_of_nonneg _ (by omega)]
theorem aFJ {l:List aT} {x:aT} (hl:l.length<=1048600) (hf:1048600<F) (hs:EW pM l):∃b,cX F l x=some ((yH pM x.Name l:Int),b):=by
 unfold cX
 have hc:yH pM x.Name l<=l.length:=List.countP_le_length
 obtain⟨o,p1,I,M,R,W⟩:=y2 (V:=aT×List aT×Int×Int×Int) (O:=aT×List aT×Int×Int) (B:=d9 F)
  (fun v=>v.1=x/\v.2.1=l/\v.2.2.1=(l.length:Int)/\0<=v.2.2.2.1/\v.2.2.2.1<=(yH pM x.Name l:Int)/\(yH pM x.Name l:Int)<=v.2.2.2.2/\v.2.2.2.2<=(l.length:Int))
  (fun v=>(v.2.2.2.2-v.2.2.2.1).toNat) (fun o=>o.1=x/\o.2.1=l/\o.2.2.1=(l.length:Int)/\o.2.2.2=(yH pM x.Name l:Int)) (by
   rintro⟨y,m,n,i,j⟩ ⟨Y,a2,a3,D,a5,a6,a7⟩
   simp only at Y a2 a3 D a5 a6 a7⊢
   subst Y a2 a3
   unfold d9
   simp only
   by_cases e:i<j
   ·left
    rw[jA e,br_t,aPm D e (by omega),aE (cS (by omega) (by omega)),aE (by decide),aE (cS (by omega) (by omega)),aE ⟨by omega,by omega⟩]
    have hk:((i+j) / 2).toNat<m.length:=by omega
    have hx:=iD hk
    have z:=aDX pM (n:=y.Name) hs hx
    rw[hx,bd_s]
    obtain⟨r,H,e2⟩:=TK F m[((i+j) / 2).toNat] y
    rw[H,bd_s,e2]
    cases hb:xH (m[((i+j) / 2).toNat]).Name y.Name with
    | true=>
     have:=z.1 hb
     rw[br_t,aE (cS (by omega) (by omega))]
     exact⟨_,rfl,⟨rfl,rfl,rfl,by dsimp only;omega,by dsimp only;omega,a6,a7⟩,by dsimp only;omega⟩
    | false=>
     have:¬((i+j) / 2).toNat<yH pM y.Name m:=fun h=>by
      have h2:=z.2 h
      rw[show xH (pM m[((i+j) / 2).toNat]) y.Name=false from hb]at h2
      cases h2
     rw[br_f]
     exact⟨_,rfl,⟨rfl,rfl,rfl,D,a5,by dsimp only;omega,by dsimp only;omega⟩,by dsimp only;omega⟩
   ·right
    rw[iM e,br_f]
    exact⟨_,rfl,rfl,rfl,rfl,by dsimp only;omega⟩) F (x,l,(l.length:Int),0,(l.length:Int)) ⟨rfl,rfl,rfl,by dsimp only;omega,by dsimp only;omega,by dsimp only;omega,by dsimp only;omega⟩ (by dsimp only;omega)
 rw[p1,bd_s]
 obtain⟨y,m,n,i⟩:=o
 simp only at I M R W⊢
 subst I M R W
 by_cases e:(yH pM y.Name m:Int)<(m.length:Int)
 ·rw[jA e,br_t,aE ⟨by omega,e⟩,f0,iD (by omega),bd_s]
  obtain⟨r,H,_⟩:=TK F (m[yH pM y.Name m]'(by omega)) y
  rw[H]
  exact⟨_,rfl⟩
 ·rw[iM e]
  exact⟨_,rfl⟩
theorem EG {l:List aT} {x:aT} (D:l.length<=1048600) (H:1048600<F) (z:EW pM l) (I:∀y∈l,y.Name≠x.Name):t6 F l x=some (ins x l):=by
 obtain⟨b,e⟩:=aFJ (x:=x) D H z
 have M:yH pM x.Name l<=l.length:=List.countP_le_length
 unfold t6
 rw[e,bd_s]
 simp only
 rw[G9 (by omega),bd_s]
 unfold iG
 rw[aE ⟨by omega,by omega,by simp,by simp;omega⟩,bd_s,f0]
 rw[show ins x l=sJ pM x l from rfl,aEe pM z I]
 simp
theorem aAk {l:List aT}:(match l.findIdx? fun y=>decide (y.Name=n)with|some i=>l[i]? | none=>none)=l.find? fun y=>decide (y.Name=n):=by
 cases h:l.findIdx? fun y=>decide (y.Name=n)with
 | none=>exact(List.find?_eq_none.2 fun x D=>by rw[List.findIdx?_eq_none_iff.1 h x D];simp).symm
 | some i=>
  obtain⟨z,H,I⟩:=List.findIdx?_eq_some_iff_getElem.1 h
  rw[JB (iD z) H fun j y M R=>by
   obtain⟨W,e⟩:=iR.1 R
   have:=I j M
   rw[e]at this
   simpa using this]
  exact iD z
theorem GR {l:List aT} {t:eA} (Y:l.length<=1048500) (hf:1048600<F) (M:EW pM l):wF F l t=some (match NN l t with|some d=>(d,true)|none=>([],false)):=by
 have e:=aAk (l:=l) (n:=t.Name)
 have h1:=tP t.Name l
 have h2:=tP t.To (less t.Name l)
 unfold wF NN
 rw[JW (by omega) (by omega),bd_s]
 cases H:l.findIdx? fun y=>decide (y.Name=t.Name)with
 | none=>
  rw[H]at e
  rw[DN H,<-e]
  by_cases z:t.Kind=1
  ·rw[show(t.Kind==1)=true by simp[z],br_t,EG (by omega) (by omega) M (LS e.symm),if_pos z];rfl
  ·rw[show(t.Kind==1)=false by simp[z],br_f,if_neg z];rfl
 | some i=>
  obtain⟨x,I,_⟩:=tN H
  rw[H]at e
  have e:l[i]?=_:=e
  have hi:=(iR.1 I).1
  rw[vV H,<-e,I]
  by_cases z:t.Kind=1
  ·rw[show(t.Kind==1)=true by simp[z],br_t,jA (show(0:Int)<=(i:Int) by omega),if_pos z];rfl
  ·rw[show(t.Kind==1)=false by simp[z],br_f,iM (show¬(i:Int)<0 by omega),if_neg z]
   by_cases D:t.Kind=4
   ·have k4b:(t.Kind==4)=true:=by simp[D]
    by_cases ke:t.To=t.Name
    ·simp only[k4b,jA ke,br_t,br_f,bd_s]
     rw[if_pos ⟨D,ke⟩]
    ·have R:=EG (F:=F) (l:=less t.To (less t.Name l)) (x:=⟨t.To,x.Id⟩) (by omega) (by omega) (sL pM (sL pM M)) fun y W=>((sM pM).1 W).2
     simp only[k4b,iM ke,br_t,br_f,bd_s]
     rw[aE ⟨by omega,by omega⟩,f0,I,bd_s,qW (by omega) (by omega),bd_s,qW (by omega) (by omega),bd_s,R,if_neg (fun h=>ke h.2),if_pos D]
     rfl
   ·have k4b:(t.Kind==4)=false:=by simp[D]
    simp only[k4b,br_f,bd_s]
    rw[aE ⟨by omega,by omega⟩,f0,I,bd_s,qW (by omega) (by omega),bd_s,if_neg (fun h=>D h.1),if_neg D]
theorem aEN {l d:List aT} {t:eA} (e:EW pM l) (h:NN l t=some d):EW pM d/\d.length<=l.length+1:=by
 have H:=tP t.Name l
 have I:=tP t.To (less t.Name l)
 unfold NN at h
 dsimp only at h
 cases z:l.find? fun l=>decide (l.Name=t.Name)with
 | none=>
  rw[z]at h
  split at h
  ·cases h
   exact⟨FC pM e (LS z),by rw[FD];omega⟩
  ·cases h
 | some x=>
  rw[z]at h
  split at h
  ·cases h
  ·dsimp only at h
   split at h
   ·cases h
   ·split at h
    ·cases h
     exact⟨FC pM (sL pM (sL pM e)) fun y D=>((sM pM).1 D).2,by rw[FD];omega⟩
    ·cases h
     exact⟨sL pM e,by omega⟩
theorem ZG {t:eA} (R:1048576<F) (I:t.Name.size<=1048576) (M:t.To.size<=1048576):FO F t=some (xF nameB t):=by
 unfold FO xF
 rw[BM I (by omega),BM M (by omega)]
 have e:(t.Id==0)=decide (t.Id=0):=rfl
 rw[e]
 by_cases z:t.Kind=1
 ·rw[show(t.Kind==1)=true by simp[z],br_t,if_pos z]
  cases nameB t.Name<;>rfl
 ·rw[show(t.Kind==1)=false by simp[z],br_f,if_neg z]
  by_cases D:t.Kind=4
  ·rw[show(t.Kind==4)=true by simp[D],br_t,if_pos D]
   cases nameB t.Name<;>cases nameB t.To<;>rfl
  ·rw[show(t.Kind==4)=false by simp[D],br_f,if_neg D]
   by_cases H:t.Kind=5
   ·rw[show(t.Kind==5)=true by simp[H],br_t,if_pos H]
    cases nameB t.Name<;>cases decide (t.To=e0)<;>rfl
   ·rw[show(t.Kind==5)=false by simp[H],br_f,if_neg H]
theorem aC6 (h:TO F d):aL (j9 F) F (d,[],d.Kept,(d.Kept.length:Int),0)=some (if(List.range d.Kept.length).any (qF nameB d.Kept)then Sum.inr false else Sum.inl (d,d.Kept.map (·.Id))):=by
 have W:=h.fu;have Y:=h.kl
 refine fG (B:=j9 F) (fuel:=F) (fun i=>(d,(d.Kept.take i).map (·.Id),d.Kept,(d.Kept.length:Int),(i:Int))) d.Kept.length (qF nameB d.Kept) (Sum.inr false) (Sum.inl (d,d.Kept.map (·.Id))) rfl (fun i D=> ?_) (by unfold j9;simp) (by omega)
 rw[<-VN]
 have z:d.Kept[i]?=some d.Kept[i]:=iD D
 obtain⟨h1,h2,I,h4,h5⟩:=aV z (by omega)
 have M:=BM (fuel:=F) (h.kn _ (bQ D)) (by have:=h.kn _ (bQ D);omega)
 have R:=D4 (fun f:aT=>f.Id) z
 have hr:cR K.int ((d.Kept.take (i+1)).map (·.Id)).length:=eK (by rw[aP,aF];omega) (by decide)
 unfold j9
 simp only[h1,br_t,aE h2,I,bd_s,M]
 unfold qF
 rw[z]
 generalize d.Kept[i]=x at z I M R
 have e:∀c:Bool,(br c (some (.inr (.inr false))) (gd (cR K.int ((d.Kept.take i).map (·.Id)++ [x.Id]).length) (gd (cN IntKind.i64 ((i:Int)+1)) (some (.inl (d,(d.Kept.take i).map (·.Id)++ [x.Id],d.Kept,(d.Kept.length:Int),(i:Int)+1))))):Option ((cO×List Int×List aT×Int×Int)⊕(cO×List Int⊕Bool)))=br c (some (.inr (.inr false))) (some (.inl (d,(d.Kept.take (i+1)).map (·.Id),d.Kept,(d.Kept.length:Int),((i+1:Nat):Int)))):=by
  intro c
  rw[R,aE hr,h5,aE h4]
 cases i with
 | zero=>
  simp only[show decide ((0:Int)<((0:Nat):Int))=false from rfl,br_f]
  cases nameB x.Name<;>first|exact e true|exact e false
 | succ i=>
  have H:i<d.Kept.length:=by omega
  have hg:d.Kept[i]?=some d.Kept[i]:=iD H
  simp only[jA (show(0:Int)<((i+1:Nat):Int) by omega),br_t]
  rw[dH (by omega) (by omega),yX (by omega) (by omega),show(((i+1:Nat):Int)-1).toNat=i by omega,hg]
  generalize d.Kept[i]=g
  simp only[bd_s]
  unfold xH
  cases nameB x.Name<;>cases Op.bytesLess g.Name.toList x.Name.toList<;>first|exact e true|exact e false
def NS (T:List eA):List Int:=(T.filter fun t=>decide (t.Kind=1)).map (·.Id)
theorem QK {F:Nat} {d:cO} {T:List eA} (hF:20000000<F) (hT:T.length<=500000) (R:∀t∈T,t.Name.size<=1048576/\t.To.size<=1048576):∀(m fl i:Nat) (A:List Int) (l:List aT),T.length-i=m->i<=T.length->m<fl->l.length+m<=1048500->A.length+m<=2000000->EW pM l->
  aL (kC F) fl (d,A,l,T,(T.length:Int),(i:Int))=some (if CW nameB l (T.drop i)then Sum.inl (d,A++NS (T.drop i))else Sum.inr false)
 | m,0,i,A,l,W,Y,hf,hl,hA,D=>by omega
 | 0,fl+1,i,A,l,W,Y,hf,hl,hA,D=>by
  obtain rfl:i=T.length:=by omega
  rw[lS]
  unfold aL kC
  simp[CW,NS]
 | m+1,fl+1,i,A,l,W,Y,hf,hl,hA,D=>by
  have e:i<T.length:=by omega
  have M:T[i]?=some T[i]:=iD e
  obtain⟨h1,h2,h3,h4,h5⟩:=aV M (by omega)
  obtain⟨g1,g2⟩:=R _ (bQ e)
  rw[tK M]
  generalize T[i]=x at M h3 g1 g2
  have hB:kC F (d,A,l,T,(T.length:Int),(i:Int))=br (xF nameB x) (match NN l x with|some H=>some (.inl (d,A++NS [x],H,T,(T.length:Int),((i+1:Nat):Int)))|none=>some (.inr (.inr false))) (some (.inr (.inr false))):=by
   unfold kC
   simp only[h1,br_t,aE h2,h3,bd_s,ZG (F:=F) (t:=x) (by omega) g1 g2,GR (F:=F) (l:=l) (t:=x) (by omega) (by omega) D]
   cases xF nameB x with
   | false=>rfl
   | true=>
    simp only[aM,br_f,br_t]
    cases NN l x with
    | none=>rfl
    | some H=>
     simp only[aM,br_f]
     unfold NS
     by_cases I:x.Kind=1
     ·rw[show(x.Kind==1)=true by simp[I],br_t,aE (eK (by simp;omega) (by decide)),jn_l]
      simp only
      rw[h5,aE h4]
      simp[I]
     ·rw[show(x.Kind==1)=false by simp[I],br_f,jn_l]
      simp only
      rw[h5,aE h4]
      simp[I]
  have z:NS (x::T.drop (i+1))=NS [x]++NS (T.drop (i+1)):=by
   unfold NS
   rw[<-e8,<-eP]
   rfl
  have hlx:(NS [x]).length<=1:=by
   unfold NS
   rw[aP]
   exact gX _ _
  unfold aL CW
  rw[hB]
  cases xF nameB x with
  | false=>rfl
  | true=>
   rw[aK]
   cases ha:NN l x with
   | none=>rfl
   | some H=>
    obtain⟨s1,s2⟩:=aEN D ha
    have ih:=QK (d:=d) hF hT R m fl (i+1) (A++NS [x]) H (by omega) (by omega) (by omega) (by omega) (by rw[aW];omega) s1
    rw[z,<-aQ]
    exact ih
theorem X2 {fs:List gB} (ha:a.length<=1000000000) (D:a.length<F):dN F a fs=some (decide (a=fs.map (·.Id))):=by
 unfold dN
 by_cases H:a.length=fs.length
 ·rw[show((a.length:Int) !=(fs.length:Int))=false by simp;omega,br_f]
  have key:aL (cY F) F (fs,a,(a.length:Int),0)=some (if(List.range a.length).any (fun i=>a[i]? !=(fs.map (·.Id))[i]?)then Sum.inr false else Sum.inl ()):=by
   refine fG (fun i=>(fs,a,(a.length:Int),(i:Int))) a.length (fun i=>a[i]? !=(fs.map (·.Id))[i]?) (Sum.inr false) (Sum.inl ()) rfl (fun i z=> ?_) (by unfold cY;simp) D
   obtain⟨I,M,R,W,Y⟩:=aV (iD z) (by omega)
   obtain⟨_,g2,g3,_,_⟩:=aV (iD (l:=fs) (i:=i) (by omega)) (by omega)
   unfold cY qP
   simp only[I,br_t,aE M,R,bd_s,aE g2,g3,Y,aE W]
   rw[iD z,bX,iD (show i<fs.length by omega),fR]
   have:(!(a[i]==(fs[i]'(by omega)).Id))=(some a[i] !=some (fs[i]'(by omega)).Id):=by
    rw[dG];simp
   rw[this]
   cases(some a[i] !=some (fs[i]'(by omega)).Id)<;>simp
  rw[key]
  cases h:(List.range a.length).any (fun i=>a[i]? !=(fs.map (·.Id))[i]?)with
  | true=>
   obtain⟨i,_,z⟩:=List.any_eq_true.1 h
   rw[iM fun e=>by rw[e]at z;simp at z]
   rfl
  | false=>
   rw[jA (kX fun i=> ?_)]
   ·rfl
   ·by_cases z:i<a.length
    ·have:=List.any_eq_false.1 h i (List.mem_range.2 z)
     simpa using this
    ·rw[dF (by omega),dF (by rw[aP];omega)]
 ·rw[show((a.length:Int) !=(fs.length:Int))=true by simp;omega,br_t,iM fun e=>H (by rw[e,aP])]
theorem U2 (h:TO F d):o8 F d=some ((decide ((d.Turns.length:Int)<=30)&&decide ((d.Kept.length:Int)<=10))&&(yZ nameB d.Kept&&YE nameB d.Files d.Kept d.Turns)):=by
 have D:=h.fu;have H:=h.kl;have I:=h.tl
 unfold o8
 simp only[uF]
 cases M:decide (30<(d.Turns.length:Int))with
 | true=>rfl
 | false=>
 cases R:decide (10<(d.Kept.length:Int))with
 | true=>rfl
 | false=>
  rw[aY]at R M
  simp only[br_f,bd_s,aZ,aK]
  rw[aC6 h]
  unfold YE
  cases z:yZ nameB d.Kept with
  | false=>
   have e:(List.range d.Kept.length).any (qF nameB d.Kept)=true:=by unfold yZ at z;simpa using z
   rw[e]
   rfl
  | true=>
   have e:(List.range d.Kept.length).any (qF nameB d.Kept)=false:=by unfold yZ at z;simpa using z
   rw[e]
   simp only[aJ,if_false,jn_l,aK]
   have:=QK (F:=F) (d:=d) (T:=d.Turns) D (by omega) h.tn d.Turns.length F 0 (d.Kept.map (·.Id)) d.Kept rfl (by omega) (by omega) (by omega) (by rw[aP];omega) (QF z)
   rw[dK]at this
   rw[show((0:Nat):Int)=0 from rfl]at this
   rw[this]
   have W:=V5 (kept:=d.Kept) (turns:=d.Turns)
   cases CW nameB d.Kept d.Turns with
   | false=>rfl
   | true=>
    simp only[if_true,jn_l,aK]
    rw[show d.Kept.map (·.Id)++NS d.Turns=rY d.Kept d.Turns from rfl,OS (by omega),bd_s,X2 (by rw[iU];omega) (by rw[iU];omega),bd_s]
theorem BK (h:TO F d):vG F d=some (DX d):=by
 unfold vG DX
 simp only[pI_within_eq,bd_s,U2 h]
 cases decide (0<=d.Room)&&decide (d.Room<=400000)with
 | false=>rfl
 | true=>
 cases decide (-1<=d.Fuse)&&decide (d.Fuse<=1000)with
 | false=>rfl
 | true=>
 cases e:decide (1<=d.Next)&&decide (d.Next<=1000000)with
 | false=>rfl
 | true=>
  rw[U0 h (by simpa using e)]
  simp only[br_t,bd_s,aK]
  rw[<-aE2]
  cases decide ((d.Files.length:Int)<=10)<;>cases decide ((d.Kept.length:Int)<=10)<;>cases decide ((d.Turns.length:Int)<=30)<;>cases decide ((yB d.Files:Int)<=d.Room)<;>cases wA d.Next d.Files<;>cases yZ nameB d.Kept<;>cases YE nameB d.Files d.Kept d.Turns<;>rfl
theorem aAD {F:Nat} {T:List eA} (hF:20000000<F) (hT:T.length<=500000):∀(m fl i:Nat) (l:List aT),T.length-i=m->i<=T.length->m<fl->l.length+m<=1048500->rW l->(∀t∈T.drop i,t.Kind=1->0<t.Id)->oJ nameB l (T.drop i)=true->
  aL (tY F) fl (l,T,(T.length:Int),(i:Int))=some (K8 l (T.drop i))
 | m,0,i,l,M,R,W,Y,D,z,e=>by omega
 | 0,fl+1,i,l,M,R,W,Y,D,z,e=>by
  obtain rfl:i=T.length:=by omega
  rw[lS]
  unfold aL tY
  simp[K8]
 | m+1,fl+1,i,l,M,R,W,Y,D,z,e=>by
  have H:i<T.length:=by omega
  have I:T[i]?=some T[i]:=iD H
  obtain⟨h1,h2,h3,h4,h5⟩:=aV I (by omega)
  rw[tK I]at z e⊢
  generalize T[i]=x at I h3 z e
  unfold oJ at e
  rw[aB]at e
  obtain⟨e1,e2⟩:=(MN (nameB:=nameB) D (z x aN)).2 e.1
  have hB:tY F (l,T,(T.length:Int),(i:Int))=some (.inl (oY l x,T,(T.length:Int),((i+1:Nat):Int))):=by
   unfold tY
   simp only[h1,br_t,aE h2,h3,bd_s,GR (F:=F) (l:=l) (t:=x) (by omega) (by omega) D.s,e1]
   rw[h5,aE h4]
  have hln:=F5 l x
  unfold aL
  rw[hB]
  exact aAD hF hT m fl (i+1) (oY l x) (by omega) (by omega) (by omega) (by omega) e2 (fun t h=>z t (aI _ h)) e.2
theorem V8 {F:Nat} {d:cO} (W:20000000<F) (Y:d.Turns.length<=500000):∀(m fl i:Nat) (l:List aT),d.Turns.length-i=m->i<=d.Turns.length->m<fl->l.length+m<=1048500->
  aL (rD F) fl (d,(d.Turns.length:Int),l,(i:Int))=some (K8 l (d.Turns.drop i))
 | m,0,i,l,D,H,I,M=>by omega
 | 0,fl+1,i,l,D,H,I,M=>by
  obtain rfl:i=d.Turns.length:=by omega
  rw[lS]
  unfold aL rD
  simp[K8]
 | m+1,fl+1,i,l,D,H,I,M=>by
  have e:i<d.Turns.length:=by omega
  have z:d.Turns[i]?=some d.Turns[i]:=iD e
  obtain⟨h1,h2,R,h4,h5⟩:=aV z (by omega)
  rw[tK z]
  generalize d.Turns[i]=x at z R
  have hB:rD F (d,(d.Turns.length:Int),l,(i:Int))=some (.inl (d,(d.Turns.length:Int),oY l x,((i+1:Nat):Int))):=by
   unfold rD
   simp only[h1,br_t,aE h2,R,bd_s,GV (F:=F) (l:=l) (t:=x) (by omega) (by omega)]
   rw[h5,aE h4]
  have hln:=F5 l x
  unfold aL
  rw[hB]
  exact V8 W Y m fl (i+1) (oY l x) (by omega) (by omega) (by omega) (by omega)
structure aCg (d:cO):Prop where
 l:IX nameB d.Kept d.Turns (d.Files.map (·.Id))
 f:(d.Files.map (·.Id)).Pairwise (· < ·)
 nf:d.Files.length<=10
 nk:d.Kept.length<=10
 nt:d.Turns.length<=30
 ok:DX d=true
theorem aD2 (h:DX d=true):aCg d:=by
 have e:=h
 unfold DX at e
 rw[aB]at e
 obtain⟨_,e⟩:=e
 rw[aB]at e
 obtain⟨z,D⟩:=e
 simp only[aB,bN]at z
 obtain⟨H,I⟩:=aCw D
 exact⟨H,I,by omega,by omega,by omega,h⟩
def yI (d:cO):List aT:=K8 d.Kept d.Turns
theorem PF:∀(l:List aT) (T:List eA),(K8 l T).length<=l.length+T.length
 | l,[]=>by simp[K8]
 | l,t::T=>by
  have e:=F5 l t
  have z:=PF (oY l t) T
  show(K8 (oY l t) T).length<=_
  rw[cL]
  omega
theorem aGX (z:20000000<F) (h:aCg d):JS F d.Kept d.Turns=some (yI d):=by
 have:=h.nk;have:=h.nt
 unfold JS
 rw[G9 (by omega),bd_s]
 have e:=aAD (F:=F) (T:=d.Turns) z (by omega) d.Turns.length F 0 d.Kept rfl (by omega) (by omega) (by omega) h.l.d (by rw[dK];exact h.l.t) (by rw[dK];exact h.l.s)
 rw[dK,show((0:Nat):Int)=0 from rfl]at e
 rw[e]
 rfl
theorem ZP (z:20000000<F) (h:aCg d):FV F d (d.Turns.length:Int)=some (yI d):=by
 have:=h.nk;have:=h.nt
 unfold FV
 rw[cV,aE (pV (by omega))]
 have e:=V8 (F:=F) (d:=d) z (by omega) d.Turns.length F 0 d.Kept rfl (by omega) (by omega) (by omega)
 rw[dK,show((0:Nat):Int)=0 from rfl]at e
 rw[e]
 rfl
def LE (d:cO) (n:ByteArray):Int:=match(yI d).find? fun l=>decide (l.Name=n)with
 | none=> -1
 | some x=>E1 (fun f=>f.Id==x.Id) d.Files
theorem aDu (M:20000000<F) (h:aCg d):uQ F d n=some (LE d n):=by
 have:=h.nk;have:=h.nt;have:=h.nf
 have hl:(yI d).length<=40:=by have:=PF d.Kept d.Turns;unfold yI;omega
 have e:=aAk (l:=yI d) (n:=n)
 unfold uQ D9 LE
 rw[aGX M h,bd_s,bd_s,JW (by omega) (by omega),bd_s]
 cases z:(yI d).findIdx? fun y=>decide (y.Name=n)with
 | none=>
  rw[z]at e
  rw[DN z,<-e]
  rfl
 | some i=>
  obtain⟨x,D,_⟩:=tN z
  rw[z]at e
  have e:(yI d)[i]?=_:=e
  have hi:=(iR.1 D).1
  rw[vV z,<-e,D,iM (show¬(i:Int)<0 by omega),br_f]
  unfold gA E1
  have H:=j3 (B:=dO F) (fun j=>(yI d,(i:Int),d.Files,(d.Files.length:Int),(j:Int))) d.Files (fun f=>f.Id==x.Id) (fun j=> .inr ((j:Int),yI d,(i:Int))) (.inl (yI d,(i:Int))) (fuel:=F) (v:=(yI d,(i:Int),d.Files,(d.Files.length:Int),0)) rfl (fun j y I=>by
   obtain⟨R,W,Y,h4,h5⟩:=aV I (by omega)
   unfold dO wB
   simp only[R,br_t,aE W,Y,bd_s,h5,aE h4,uP (show(0:Int)<=(i:Int)/\(i:Int)<((yI d).length:Int)from⟨by omega,by omega⟩),f0,D,I]
   cases y.Id==x.Id<;>rfl) (by unfold dO;simp) (by omega)
  rw[H]
  dsimp only
  cases d.Files.findIdx? fun f=>f.Id==x.Id<;>rfl
theorem P2 (h:aCg d) (n:ByteArray):(P3 d.Files (yI d) n=none/\LE d n= -1/\fnd (yI d) n=0)∨∃(i:Nat) (f:gB),P3 d.Files (yI d) n=some f/\LE d n=(i:Int)/\d.Files[i]?=some f/\0<f.Id/\fnd (yI d) n=f.Id/\E1 (fun g=>g.Id==f.Id) d.Files=(i:Int):=by
 obtain⟨R,W⟩:=h.l.dir
 cases z:(yI d).find? fun l=>decide (l.Name=n)with
 | none=>exact .inl ⟨by unfold P3;rw[z],by unfold LE;rw[z],aAU z⟩
 | some x=>
  obtain⟨f,H,Y,I⟩:=aCQ W n z
  have hp:0<x.Id:=R.p x (iN z)
  have e4:d.Files.find? (fun f=>decide (f.Id=x.Id))=some f:=by
   unfold P3 at H
   rw[show(K8 d.Kept d.Turns).find? (fun l=>decide (l.Name=n))=some x from z]at H
   exact H
  cases D:d.Files.findIdx? (fun g=>g.Id==x.Id)with
  | none=>
   have:=List.findIdx?_eq_none_iff.1 D f Y
   simp[I]at this
  | some i=>
   obtain⟨g,M,g2⟩:=tN D
   obtain⟨hil,_,g3⟩:=List.findIdx?_eq_some_iff_getElem.1 D
   have hg:d.Files.find? (fun f=>decide (f.Id=x.Id))=some g:=JB M (by simpa using g2) fun j y hj hy=>by
    obtain⟨hj',e⟩:=iR.1 hy
    have:=g3 j hj
    rw[e]at this
    simpa using this
   obtain rfl:f=g:=Option.some.inj (e4.symm.trans hg)
   exact .inr ⟨i,f,H,by unfold LE;rw[z];exact vV D,M,by omega,by rw[JE z,I],by rw[I];exact vV D⟩
def NF (d:cO) (n:ByteArray):List UInt8×Bool:=match P3 d.Files (yI d) n with
 | some f=>(f.Body,true)
 | none=>([],false)
theorem aCr {l:List UInt8} (h:l.length<=2097152):kS F l=some l:=by
 unfold kS
 refine XK (by rw[cV,aE (eK h (by decide))]) fun e=>by rw[e]
theorem R7 (e:TO F d) (h:aCg d):xI F d n=some (NF d n):=by
 have:=e.fu;have:=h.nf
 unfold xI NF
 rw[BK e,h.ok,bd_s,aDu (by omega) h]
 rcases P2 h n with⟨z,D,_⟩ |⟨i,f,z,D,H,_⟩
 ·rw[z,D];rfl
 ·have I:=(iR.1 H).1
  have M:=e.fb f (tF H)
  rw[z,D]
  simp only[aM,br_f,bd_s]
  rw[iM (show¬(i:Int)<0 by omega),br_f,aE ⟨by omega,by omega⟩,f0,H,bd_s,aCr (by omega),bd_s]
theorem aBx {n:Int} (W:d.Files.length<=1000000000) (e:d.Files.length<F):KG F d n=some (E1 (fun f=>f.Id==n) d.Files):=by
 unfold KG E1
 have h:=j3 (B:=xT F) (fun i=>(n,d.Files,(d.Files.length:Int),(i:Int))) d.Files (fun f=>f.Id==n) (fun i=> .inr (i:Int)) (.inl ()) (v:=(n,d.Files,(d.Files.length:Int),0)) rfl (fun i x z=>by
  obtain⟨D,H,I,M,R⟩:=aV z (by omega)
  unfold xT
  simp only[D,br_t,aE H,I,bd_s,R,aE M]
  cases x.Id==n<;>rfl) (by unfold xT;simp) e
 rw[h]
 cases d.Files.findIdx? _<;>rfl
theorem SI (e:TO F d) (h:aCg d):xO F d n=some (NF d n):=by
 have:=e.fu;have:=h.nf;have:=h.nk;have:=h.nt
 have R:(yI d).length<=40:=by have:=PF d.Kept d.Turns;unfold yI;omega
 unfold xO IF NF
 rw[B9 e,h.ok,bd_s,aM,br_f,ZP (by omega) h,bd_s,bd_s,yM (by omega) (by omega),bd_s]
 rcases P2 h n with⟨z,_,H⟩ |⟨i,f,z,_,D,W,I,M⟩
 ·rw[z,H];rfl
 ·have Y:=(iR.1 D).1
  have hb:=e.fb f (tF D)
  rw[z,I,show(f.Id==0)=false by simp;omega,br_f,aBx (by omega) (by omega),bd_s,M,aE ⟨by omega,by omega⟩,f0,D,bd_s,cV,aE (eK (by omega) (by decide))]
def aA6 (n:Int):ByteArray:=if 1<=n/\n<=1000000000 then ByteArray.mk #[108,111,103,46]++gC n else ByteArray.mk #[]
theorem UW (n:Int):BL F n=some (aA6 n):=by
 have e:=jD n
 unfold BL ED aA6
 rw[pI_within_eq,bd_s,bd_s]
 by_cases h:1<=n/\n<=1000000000
 ·rw[show(decide (1<=n)&&decide (n<=1000000000))=true by simp[h.1,h.2],if_pos h,aM,br_f,oP,bd_s,aE (by show 4+_<=_;omega)]
 ·rw[show(decide (1<=n)&&decide (n<=1000000000))=false by rw[gW];simp;omega,if_neg h];rfl
theorem U6 (z:20<F) (n:Int):CD F n=some (aA6 n):=by
 have D:=jD n
 unfold CD IH aA6
 by_cases h:1<=n/\n<=1000000000
 ·rw[iM (show¬n<1 by omega),iM (show¬1000000000<n by omega),if_pos h]
  simp only[br_f,bd_s]
  rw[mQ n z,bd_s,aE (by show 4+_<=_;omega),bd_s]
 ·rw[if_neg h]
  by_cases e:n<1
  ·rw[jA e];rfl
  ·rw[iM e,jA (show 1000000000<n by omega)];rfl
def PE (p:j6):Bool:=DX p.Disk&&((decide (1<=p.Gen)&&decide (p.Gen<=1000000000))&&((decide (1<=p.Seq)&&decide (p.Seq<=1000000001))&&(decide (0<=p.Size)&&((p.Disk.Fuse==0)||(p.Stuck||((NF p.Disk (aA6 p.Gen)).2&&((NF p.Disk (aA6 p.Gen)).1.length:Int)==p.Size))))))
theorem UV {p:j6} (e:TO F p.Disk):BJ F p=some (PE p):=by
 unfold BJ PE ED
 rw[BK e]
 simp only[pI_within_eq,bd_s,UW,uF 0 p.Size]
 cases z:DX p.Disk with
 | false=>rfl
 | true=>
  cases decide (1<=p.Gen)&&decide (p.Gen<=1000000000)with
  | false=>rfl
  | true=>
  cases decide (1<=p.Seq)&&decide (p.Seq<=1000000001)with
  | false=>rfl
  | true=>
  cases decide (p.Size<0)with
  | true=>rfl
  | false=>
   simp only[aM,aZ,br_f,bd_s,aK]
   cases D:p.Disk.Fuse==0 with
   | true=>simp only[br_t,bd_s,dQ]
   | false=>
    simp only[br_f,bd_s,b9]
    cases H:p.Stuck with
    | true=>simp only[br_t,dQ]
    | false=>
     simp only[br_f,b9]
     rw[R7 e (aD2 z),bd_s]
     cases NF p.Disk (aA6 p.Gen)with
     | mk a b=>cases b<;>rfl
theorem U4 {p:j6} (e:TO F p.Disk):B8 F p=some (PE p):=by
 have z:=e.fu
 unfold B8 PE
 rw[B9 e]
 simp only[bd_s,uF]
 cases D:DX p.Disk with
 | false=>rfl
 | true=>
  cases decide (p.Gen<1)with
  | true=>rfl
  | false=>
  cases decide (1000000000<p.Gen)with
  | true=>rfl
  | false=>
  cases decide (p.Seq<1)with
  | true=>rfl
  | false=>
  cases decide (1000000001<p.Seq)with
  | true=>rfl
  | false=>
  cases decide (p.Size<0)with
  | true=>rfl
  | false=>
   simp only[aM,aZ,br_f,bd_s,aK,tG]
   cases H:p.Disk.Fuse==0 with
   | true=>simp only[br_t,bd_s,dQ]
   | false=>
    simp only[br_f,bd_s,b9]
    cases I:p.Stuck with
    | true=>simp only[br_t,dQ]
    | false=>
     simp only[br_f,b9]
     rw[U6 (by omega),bd_s,SI e (aD2 D),bd_s]
     cases NF p.Disk (aA6 p.Gen)with
     | mk a b=>cases b<;>rfl
theorem aFA {fuel:Nat} {t:fL} {n:Int} (I:t.Live.length<=9223372036854775807) (M:t.Live.length<fuel) :
  (∃(i:Nat) (x:jL),t.Live[i]?=some x/\(x.Pane==n)=true/\(∀(j:Nat) y,j<i->t.Live[j]?=some y->(y.Pane==n)=false)/\jK fuel t n=some (i:Int))∨((∀x∈t.Live,(x.Pane==n)=false)/\jK fuel t n=some (-1)):=by
 unfold jK fI
 rcases kZ (B:=cZ fuel) (fun i=>(n,t.Live,(t.Live.length:Int),(i:Int))) t.Live (fun x=>x.Pane==n) (fun i=> .inr ((i:Int),n)) (.inl n) (fuel:=fuel) (v:=(n,t.Live,(t.Live.length:Int),0)) rfl (fun i x R=>by
  obtain⟨e,z,D,H,W⟩:=aV R I
  unfold cZ qR
  simp only[e,br_t,aE z,D,bd_s,W,aE H]
  cases x.Pane==n<;>rfl) (by
  unfold cZ
  simp) M with⟨i,x,e,z,H,D⟩ |⟨e,z⟩
 ·exact .inl ⟨i,x,e,z,H,by rw[D];rfl⟩
 ·exact .inr ⟨e,by rw[z];rfl⟩
def yY (n:Int):Bool:=decide (1<=n)&&decide (n<=1000000)
def NE (t:fL) (i:Nat) (x:jL):Bool:=match i with
 | 0=>false
 | i+1=>match t.Live[i]? with
  | some y=>decide (x.Pid<=y.Pid)
  | none=>false
def G1 (t:fL) (i:Nat) (x:jL):Bool:=(t.Live.take i).any fun y=>y.Pane==x.Pane
def aCn (t:fL) (i:Nat) (x:jL):Bool:= !(decide (1<=x.Pid)&&decide (x.Pid<=IntKind.i64.wrap (t.Next-1)))||(NE t i x||(!yY x.Pane||G1 t i x))
def aAo (t:fL) (i:Nat) (x:jL):Bool:= !(decide (1<=x.Pid)&&decide (x.Pid<t.Next))||(NE t i x||(!yY x.Pane||G1 t i x))
theorem aFz {fuel:Nat} {t:fL} {x:jL} (W:t.Live.length<=9223372036854775807) (Y:t.Live.length<fuel) (M:t.Live[i]?=some x):∃k,jK fuel t x.Pane=some k/\(k !=(i:Int))=G1 t i x:=by
 rcases aFA (n:=x.Pane) W Y with⟨j,y,H,h2,R,h4⟩ |⟨H,_⟩
 ·refine⟨j,h4,?_⟩
  have hij:j<=i:=by
   rcases rP i j with h|h
   ·have:=R i x h M
    simp at this
   ·exact h
  by_cases e:j=i
  ·subst e
   have:G1 t j x=false:=by
    unfold G1
    rw[gT]
    intro z hz
    obtain⟨m,D⟩:=bD hz
    rw[aU]at D
    split at D
    ·rename_i I
     have:=R m z I D
     simpa using this
    ·cases D
   rw[this]
   simp
  ·have:G1 t i x=true:=by
    unfold G1
    rw[List.any_eq_true]
    refine⟨y,?_,h2⟩
    exact tF (i:=j) (by rw[aU,if_pos (by omega)];exact H)
   rw[this]
   simp
   omega
 ·have:=H x (tF M)
  simp at this
theorem NX {fuel:Nat} {t:fL} (M:t.Live.length<=9223372036854775807) (R:t.Live.length<fuel) {x:jL} (I:t.Live[i]?=some x) :
  oQ fuel (t,t.Live,(t.Live.length:Int),(i:Int))=if aCn t i x then some (.inr (.inr false))else some (.inl (t,t.Live,(t.Live.length:Int),((i+1:Nat):Int))):=by
 obtain⟨W,Y,h3,h4,h5⟩:=aV I M
 obtain⟨k,hk,D⟩:=aFz M R I
 unfold oQ
 simp only[W,br_t,aE Y,h3,bd_s,pI_within_eq,pI_isId_eq,hk]
 unfold aCn
 have z:∀c:Bool,(br c (some (.inr (.inr false))) (gd (cN IntKind.i64 ((i:Int)+1)) (some (.inl (t,t.Live,(t.Live.length:Int),(i:Int)+1)))):Option ((fL×List jL×Int×Int)⊕(fL⊕Bool)))=if c then some (.inr (.inr false))else some (.inl (t,t.Live,(t.Live.length:Int),((i+1:Nat):Int))):=by
  intro c
  rw[h5,aE h4]
  cases c<;>rfl
 cases hp:(decide (1<=x.Pid)&&decide (x.Pid<=IntKind.i64.wrap (t.Next-1)))with
 | false=>simp only[aZ,br_t,bd_s,dQ,if_true]
 | true=>
  simp only[aM,br_f,b9]
  cases i with
  | zero=>
   simp only[show decide ((0:Int)<((0:Nat):Int))=false from rfl,br_f,NE,b9]
   have e:(yY x.Pane)=(decide (1<=x.Pane)&&decide (x.Pane<=1000000)):=rfl
   rw[<-e]
   cases yY x.Pane with
   | false=>simp only[aZ,br_t,bd_s,dQ,if_true]
   | true=>
    simp only[aM,br_f,bd_s,b9,D]
    exact z _
  | succ i=>
   have H:i<t.Live.length:=by have:=(iR.1 I).1;omega
   simp only[jA (show(0:Int)<((i+1:Nat):Int) by omega),br_t]
   rw[dH (by omega) (by omega),yX (by omega) (by omega),show(((i+1:Nat):Int)-1).toNat=i by omega,iD H]
   have e0:NE t (i+1) x=decide (x.Pid<=t.Live[i].Pid):=by simp[NE,H]
   simp only[bd_s,e0]
   cases decide (x.Pid<=t.Live[i].Pid)with
   | true=>simp only[br_t,bd_s,dQ,if_true]
   | false=>
    simp only[br_f,b9]
    have e:(yY x.Pane)=(decide (1<=x.Pane)&&decide (x.Pane<=1000000)):=rfl
    rw[<-e]
    cases yY x.Pane with
    | false=>simp only[aZ,br_t,bd_s,dQ,if_true]
    | true=>
     simp only[aM,br_f,bd_s,b9,D]
     exact z _
theorem R9 {fuel:Nat} {t:fL} (z:t.Live.length<=9223372036854775807) (e:t.Live.length<fuel):wD fuel t=some (!(t.Live.zipIdx.any fun p=>aCn t p.2 p.1)&&yY t.Next):=by
 unfold wD
 have:=BH (B:=oQ fuel) (fun i=>(t,t.Live,(t.Live.length:Int),(i:Int))) t.Live (aCn t) (.inr false) (.inl t) (fuel:=fuel) (v:=(t,t.Live,(t.Live.length:Int),0)) rfl (fun i x D=>NX z e D) (by
  unfold oQ
  simp) e
 rw[this]
 cases t.Live.zipIdx.any fun p=>aCn t p.2 p.1 with
 | true=>rfl
 | false=>simp only[jn_l,aJ,if_false,pI_isId_eq,bd_s,aZ,aK];rfl
end Go.Px
