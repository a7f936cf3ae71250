/- What a call may hold, as plain values and a store: a small machine over them, the functions of this program as its contracts, and the plain laws: texts GZ to QR1. -/
import Derived.Test.YtaeepiblggcjpaaGreatDoorQD
import Derived.Test.YtaeepiblggcjpaaGreatDoorQC
import Derived.ProofKit
import Derived.Deep.Slices
import Derived.OpenShut
import Derived.Below
set_option linter.unusedSimpArgs false
set_option linter.unusedVariables false
set_option linter.constructorNameAsVariable false
namespace Go.Px
variable {G:Nat} {n:Int} {lfs:List Leaf} {O α J:Type} {s:IScr} {b:Bool}
open Go.Proofs
abbrev eI (n:Nat):En:= .sl n (.I .i64)
abbrev eB (n:Nat):En:= .sl n .B
abbrev eS (n:Nat):En:= .sl n .S
abbrev eR (n:Nat) (k:K):En:= .sl n (.row k)
abbrev eO (n:Nat) (k:K) (x:Nat):En:= .sl n (.own k x)
abbrev jI:Sh:= .I .i64
abbrev jS (k:K):Sh:= .st k []
abbrev dB:Nat:=1000000000
abbrev oI:Ro:= .one jI
abbrev oB:Ro:= .one .B
abbrev mx (f:FuncId) (pat:List (Option PV)) (ins:List Sh) (nx:Nat) (out:Ro) (p:Nat->PL ins->Option out.V) (m:Nat):Orc:=⟨f,pat,ins,nx,out,p m⟩
abbrev mo (f:FuncId) (ins:List Sh) (out:Ro) (p:Nat->PL ins->Option out.V) (m:Nat):Orc:=⟨f,ins.map fun _=>none,ins,0,out,p m⟩
abbrev q2 {a b r:Type} (f:Nat->a->b->Option r) (m:Nat) (v:a×b):Option r:=f m v.1 v.2
abbrev q3 {a b c r:Type} (f:Nat->a->b->c->Option r) (m:Nat) (v:a×b×c):Option r:=f m v.1 v.2.1 v.2.2
abbrev q4 {a b c d r:Type} (f:Nat->a->b->c->d->Option r) (m:Nat) (v:a×b×c×d):Option r:=f m v.1 v.2.1 v.2.2.1 v.2.2.2
abbrev q5 {a b c d e r:Type} (f:Nat->a->b->c->d->e->Option r) (m:Nat) (v:a×b×c×d×e):Option r:=f m v.1 v.2.1 v.2.2.1 v.2.2.2.1 v.2.2.2.2
abbrev q6 {a b c d e g r:Type} (f:Nat->a->b->c->d->e->g->Option r) (m:Nat) (v:a×b×c×d×e×g):Option r:=f m v.1 v.2.1 v.2.2.1 v.2.2.2.1 v.2.2.2.2.1 v.2.2.2.2.2
abbrev Lp (V O:Type):=V->Option (V⊕O)
noncomputable section
def pS_l07Blank (m:Nat):Option ICell:=
 some (ICell.mk 32 (IAttr.mk 0 0 false false false))
theorem c150:CC (mx 150 [] [] 0 (.one (jS .iCell)) (fun m v=>pS_l07Blank m)):=mq cn tn Tryz.f150
def pS_GridNew_b1 (m:Nat):Lp (IGrid×IGrid×Int×Int×Int) (IGrid×IGrid):=fun(v10,v11,v12,v13,v14)=>
 gd (inK .i64 (v12*v13)) <|
 br (decide (v14<v12*v13)) (
 bd (pS_l07Blank m) fun x15=>
 gd (roomB .iCell (v11.Cells++ [x15]).length) <|
 gd (inK .i64 (v14+1)) <|
 some (.inl (v10,IGrid.mk v11.W v11.H (v11.Cells++ [x15]),v12,v13,v14+1))) <|
 some (.inr (v10,v11))
def pS_GridNew (m:Nat) (a1 a2:Int):Option (IGrid×Bool):=
 bd (α:=IGrid×Int×Int×Bool) (
 br (decide (a1<1)) (
 some (IGrid.mk 0 0 [],a1,a2,true)) <|
 br (decide (120<a1)) (
 some (IGrid.mk 0 0 [],a1,a2,true)) <|
 br (decide (a2<1)) (
 some (IGrid.mk 0 0 [],a1,a2,true)) <|
 br (decide (120<a2)) (
 some (IGrid.mk 0 0 [],a1,a2,true)) <|
 gd (inK .i64 (a1*a2)) <|
 some (IGrid.mk 0 0 [],a1,a2,decide (4000<a1*a2))) fun(x3,x4,x5,x6)=>
 br x6 (
 some (IGrid.mk 0 0 [],false)) <|
 bd (α:=IGrid×IGrid) (
 loopF (pS_GridNew_b1 m) m (x3,IGrid.mk x4 x5 [],x4,x5,0)) fun(x8,x9)=>
 some (x9,true)
theorem c73:CC (mo 73 [jI,jI] (.tup [.st .iGrid [(2,99)],.B]) (q2 pS_GridNew)):=mq (cs c150 cn) ⟨[(1,⟨[(4,.ptr 500 0)],[.sto 500 .iGrid [(2,50000001)],eI 0,eI 1,eB 27]⟩)],[],[(5,false,⟨[(4,.ptr 500 0),(6,.ptr 700 0)],[.sto 500 .iGrid [(2,50000001)],.sto 700 .iGrid [(2,50000002)],eI 0,eI 1,eI 7]⟩,0,⟨[(4,.ptr 500 0),(6,.ptr 700 0)],[.sto 500 .iGrid [(2,50000001)],.sto 700 .iGrid [(2,50000002)]]⟩)]⟩ Tryz.f73
def pS_l02HasInt_b1 (m:Nat):Lp (Int×List Int×Int×Int) (Unit⊕Bool):=fun(v4,v5,v6,v7)=>
 br (decide (v7<v6)) (
 gd (0<=v7/\v7<(↑v5.length:Int)) <|
 bd v5[v7.toNat]? fun x8=>
 br (x8==v4) (
 some (.inr (.inr true))) <|
 gd (inK .i64 (v7+1)) <|
 some (.inl (v4,v5,v6,v7+1))) <|
 some (.inr (.inl ()))
def pS_l02HasInt (m:Nat) (a1:List Int) (a2:Int):Option Bool:=
 jn (V:=Unit) (
 loopF (pS_l02HasInt_b1 m) m (a2,a1,(↑a1.length:Int),0)) fun _=>
 some false
theorem c77:CC (mo 77 [.row .int,jI] oB (q2 pS_l02HasInt)):=mq cn ⟨[],[],[(2,true,⟨[],[eI 1,eR 7 .int,eI 8,eI 9]⟩,0,⟨[],[]⟩)]⟩ Tryz.f77
def pS_WordOk_b1 (m:Nat):Lp (ByteArray×Int) (ByteArray⊕Bool):=fun(v5,v6)=>
 br (decide (v6<(↑v5.size:Int))) (
 bd (α:=ByteArray×Int×Bool) (
 gd (0<=v6) <|
 bd v5[v6.toNat]? fun x7=>
 br (decide ((↑x7.toNat:Int)<97)) (
 gd (0<=v6) <|
 bd v5[v6.toNat]? fun x8=>
 br (decide ((↑x8.toNat:Int)<48)) (
 some (v5,v6,true)) <|
 gd (0<=v6) <|
 bd v5[v6.toNat]? fun x9=>
 some (v5,v6,decide (57<(↑x9.toNat:Int)))) <|
 gd (0<=v6) <|
 bd v5[v6.toNat]? fun x10=>
 br (decide (122<(↑x10.toNat:Int))) (
 gd (0<=v6) <|
 bd v5[v6.toNat]? fun x11=>
 br (decide ((↑x11.toNat:Int)<48)) (
 some (v5,v6,true)) <|
 gd (0<=v6) <|
 bd v5[v6.toNat]? fun x12=>
 some (v5,v6,decide (57<(↑x12.toNat:Int)))) <|
 some (v5,v6,false)) fun(x13,x14,x15)=>
 br x15 (
 some (.inr (.inr false))) <|
 gd (inK .i64 (x14+1)) <|
 some (.inl (x13,x14+1))) <|
 some (.inr (.inl v5))
def pS_WordOk (m:Nat) (a1:ByteArray):Option Bool:=
 jn (V:=ByteArray) (
 loopF (pS_WordOk_b1 m) m (a1,0)) fun v3=>
 bd (α:=Bool) (
 br (decide (1<=(↑v3.size:Int))) (
 some (decide ((↑v3.size:Int)<=12))) <|
 some false) fun x4=>
 some x4
theorem c80:CC (mo 80 [.S] oB pS_WordOk):=mq cn ⟨[(4,⟨[],[eS 0,eI 3,eB 31]⟩),(6,⟨[],[eB 2]⟩)],[],[(2,true,⟨[],[eS 0,eI 3]⟩,0,⟨[],[eS 0]⟩)]⟩ Tryz.f80
def pS_l13End_b1 (m:Nat):Lp (List INode×Int×Int) (Unit⊕Int):=fun(v4,v5,v6)=>
 br (decide (v6<(↑v4.length:Int))) (
 bd (α:=List INode×Int×Int) (
 gd (0<=v6/\v6<(↑v4.length:Int)) <|
 bd v4[v6.toNat]? fun x7=>
 br (x7.Pane==0) (
 gd (inK .i64 (v5+1)) <|
 some (v4,v5+1,v6)) <|
 gd (inK .i64 (v5-1)) <|
 some (v4,v5-1,v6)) fun(x8,x9,x10)=>
 br (x9==0) (
 gd (inK .i64 (x10+1)) <|
 some (.inr (.inr (x10+1)))) <|
 gd (inK .i64 (x10+1)) <|
 some (.inl (x8,x9,x10+1))) <|
 some (.inr (.inl ()))
def pS_l13End (m:Nat) (a1:List INode) (a2:Int):Option Int:=
 jn (V:=Unit) (
 loopF (pS_l13End_b1 m) m (a1,1,a2)) fun _=>
 some (-1)
theorem c264:CC (mo 264 [.row .iNode,jI] oI (q2 pS_l13End)):=mq cn ⟨[],[(8,false,⟨[],[eR 0 .iNode,eI 5,eI 6]⟩)],[(3,true,⟨[],[eR 0 .iNode,eI 5,eI 6]⟩,0,⟨[],[]⟩)]⟩ Tryz.f264
def pS_TreeOk_b1 (m:Nat):Lp (List Int×List INode×Int×Int) (Unit⊕Bool):=fun(v6,v7,v8,v9)=>
 br (decide (v9<v8)) (
 jn (V:=List Int×List INode×Int×Int) (
 gd (0<=v9/\v9<(↑v7.length:Int)) <|
 bd v7[v9.toNat]? fun x10=>
 bd (α:=INode×List Int×Bool×List INode×Int×Int) (
 br (decide (1<=x10.Pane)) (
 br (decide (x10.Pane<=1000000)) (
 br (!x10.Down) (
 some (x10,v6,x10.First==0,v7,v8,v9)) <|
 some (x10,v6,false,v7,v8,v9)) <|
 some (x10,v6,false,v7,v8,v9)) <|
 some (x10,v6,false,v7,v8,v9)) fun(x11,x12,x13,x14,x15,x16)=>
 bd (α:=INode×List Int×Bool×Bool×List INode×Int×Int) (
 br (x11.Pane==0) (
 br (decide (1<=x11.First)) (
 some (x11,x12,x13,decide (x11.First<=120),x14,x15,x16)) <|
 some (x11,x12,x13,false,x14,x15,x16)) <|
 some (x11,x12,x13,false,x14,x15,x16)) fun(x17,x18,x19,x20,x21,x22,x23)=>
 bd (α:=INode×List Int×Bool×List INode×Int×Int×Bool) (
 br (!x19) (
 br (!x20) (
 some (x17,x18,x19,x21,x22,x23,true)) <|
 br x19 (
 bd (pS_l02HasInt m x18 x17.Pane) fun x24=>
 some (x17,x18,x19,x21,x22,x23,x24)) <|
 some (x17,x18,x19,x21,x22,x23,false)) <|
 br x19 (
 bd (pS_l02HasInt m x18 x17.Pane) fun x25=>
 some (x17,x18,x19,x21,x22,x23,x25)) <|
 some (x17,x18,x19,x21,x22,x23,false)) fun(x26,x27,x28,x29,x30,x31,x32)=>
 br x32 (
 some (.inr (.inr (.inr false)))) <|
 br x28 (
 gd (roomB .int (x27++ [x26.Pane]).length) <|
 some (.inl (x27++ [x26.Pane],x29,x30,x31))) <|
 some (.inl (x27,x29,x30,x31))) fun(v33,v34,v35,v36)=>
 gd (inK .i64 (v36+1)) <|
 some (.inl (v33,v34,v35,v36+1))) <|
 some (.inr (.inl ()))
def pS_TreeOk (m:Nat) (a1:List INode):Option Bool:=
 bd (α:=List INode×Bool) (
 br (decide (31<(↑a1.length:Int))) (
 some (a1,true)) <|
 bd (pS_l13End m a1 0) fun x2=>
 some (a1,x2 !=(↑a1.length:Int))) fun(x3,x4)=>
 br x4 (
 some false) <|
 jn (V:=Unit) (
 loopF (pS_TreeOk_b1 m) m ([],x3,(↑x3.length:Int),0)) fun _=>
 some true
theorem c220:CC (mo 220 [.row .iNode] oB pS_TreeOk):=mq (cs c264 (cs c77 cn)) ⟨[(1,⟨[],[eR 0 .iNode,eB 17]⟩),(7,⟨[(5,.ptr 600 0)],[.sto 600 .iNode [],eO 3 .int 1900,eB 6,eR 19 .iNode,eI 20,eI 21]⟩),(8,⟨[(5,.ptr 600 0)],[.sto 600 .iNode [],eO 3 .int 1900,eB 6,eB 7,eR 19 .iNode,eI 20,eI 21]⟩),(9,⟨[(5,.ptr 600 0)],[.sto 600 .iNode [],eO 3 .int 1900,eB 6,eR 19 .iNode,eI 20,eI 21,eB 70]⟩)],[(13,true,⟨[],[eO 3 .int 1900,eR 19 .iNode,eI 20,eI 21]⟩)],[(5,true,⟨[],[eO 3 .int 1900,eR 19 .iNode,eI 20,eI 21]⟩,0,⟨[],[]⟩)]⟩ Tryz.f220
def pS_l13First (m:Nat) (a1 a2:Int):Option Int:=
 gd (inK .i64 (a2-2)) <|
 br (decide (a2-2<a1)) (
 gd (inK .i64 (a2-2)) <|
 some (a2-2)) <|
 some a1
theorem c265:CC (mo 265 [jI,jI] oI (q2 pS_l13First)):=mq cn tn Tryz.f265
def pS_l13Place (m:Nat) (slf:List INode×Int×IRect->Option (List IRect×Bool)):List INode×Int×IRect->Option (List IRect×Bool):=fun(a1,a2,a3)=>
 gd (0<=a2/\a2<(↑a1.length:Int)) <|
 bd a1[a2.toNat]? fun x4=>
 br (decide (0<x4.Pane)) (
 some ([IRect.mk x4.Pane a3.X a3.Y a3.W a3.H],true)) <|
 jn (V:=IRect×IRect×List INode×Int) (
 br x4.Down (
 br (decide (a3.H<3)) (
 some (.inr ([],false))) <|
 bd (pS_l13First m x4.First a3.H) fun x5=>
 gd (inK .i64 (a3.Y+x5)) <|
 gd (inK .i64 (a3.Y+x5+1)) <|
 gd (inK .i64 (a3.H-x5)) <|
 gd (inK .i64 (a3.H-x5-1)) <|
 some (.inl (IRect.mk a3.Pane a3.X a3.Y a3.W x5,IRect.mk a3.Pane a3.X (a3.Y+x5+1) a3.W (a3.H-x5-1),a1,a2))) <|
 br (decide (a3.W<3)) (
 some (.inr ([],false))) <|
 bd (pS_l13First m x4.First a3.W) fun x6=>
 gd (inK .i64 (a3.X+x6)) <|
 gd (inK .i64 (a3.X+x6+1)) <|
 gd (inK .i64 (a3.W-x6)) <|
 gd (inK .i64 (a3.W-x6-1)) <|
 some (.inl (IRect.mk a3.Pane a3.X a3.Y x6 a3.H,IRect.mk a3.Pane (a3.X+x6+1) a3.Y (a3.W-x6-1) a3.H,a1,a2))) fun(v7,v8,v9,v10)=>
 gd (inK .i64 (v10+1)) <|
 bd (slf (v9,v10+1,v7)) fun(x11,x12)=>
 gd (inK .i64 (v10+1)) <|
 bd (pS_l13End m v9 (v10+1)) fun x13=>
 bd (slf (v9,x13,v8)) fun(x14,x15)=>
 bd (α:=List IRect×Bool) (
 gd (roomB .iRect (x11++x14).length) <|
 br x12 (
 some (x11++x14,x15)) <|
 some (x11++x14,false)) fun(x16,x17)=>
 some (x16,x17)
def o221 (m:Nat):Orc:=⟨221,[none,none,none],[.row .iNode,.I .i64,.st .iRect []],0,(.tup [.own .iRect 99,.B]),recF (pS_l13Place m) m⟩
theorem c221 {E:World->Prop} (hcl:Cl G E) (m:Nat):Ctr Tryz.prog G E (o221 m):=Ctr.rec (fun slf h=>Ctr.mk (o:=⟨221,[none,none,none],[.row .iNode,.I .i64,.st .iRect []],0,(.tup [.own .iRect 99,.B]),pS_l13Place m slf⟩) (csc h (csc (c265 hcl m) (csc (c264 hcl m) csn))) facts mixed hcl.cl ⟨[(20,⟨[],[eO 6 .iRect 83000000,eB 7]⟩)],[(18,true,⟨[(9,.ptr 1000 0),(10,.ptr 1100 0)],[.sto 1000 .iRect [],.sto 1100 .iRect [],eR 0 .iNode,eI 1]⟩)],[]⟩ m (fn:=Tryz.f221) (by kernel_rfl) rfl (by kernel_rfl) (fun _=>by kernel_rfl) (fun _ _=>by kernel_rfl) (fun _=>by kernel_rfl)) m
def pS_Places (m:Nat) (a1:List INode) (a2 a3:Int):Option (List IRect×Bool):=
 bd (α:=List INode×Int×Int×Bool) (
 bd (pS_TreeOk m a1) fun x4=>
 br (!x4) (
 some (a1,a2,a3,true)) <|
 br (decide (a2<1)) (
 some (a1,a2,a3,true)) <|
 br (decide (120<a2)) (
 some (a1,a2,a3,true)) <|
 br (decide (a3<1)) (
 some (a1,a2,a3,true)) <|
 some (a1,a2,a3,decide (120<a3))) fun(x5,x6,x7,x8)=>
 br x8 (
 some ([],false)) <|
 bd (recF (pS_l13Place m) m (x5,0,IRect.mk 0 0 0 x6 x7)) fun(x9,x10)=>
 br (!x10) (
 some ([],false)) <|
 some (x9,true)
theorem c151:CC (mo 151 [.row .iNode,jI,jI] (.tup [.own .iRect 99,.B]) (q3 pS_Places)):=mq (cs c220 (cs c221 cn)) ⟨[(1,⟨[],[eR 0 .iNode,eI 1,eI 2,eB 28]⟩)],[],[]⟩ Tryz.f151
def pS_PaneAt_b1 (m:Nat):Lp (Int×List IPane×Int×Int) (Unit⊕Int):=fun(v4,v5,v6,v7)=>
 br (decide (v7<v6)) (
 gd (0<=v7/\v7<(↑v5.length:Int)) <|
 bd v5[v7.toNat]? fun x8=>
 br (x8.Id==v4) (
 some (.inr (.inr v7))) <|
 gd (inK .i64 (v7+1)) <|
 some (.inl (v4,v5,v6,v7+1))) <|
 some (.inr (.inl ()))
def pS_PaneAt (m:Nat) (a1:IState) (a2:Int):Option Int:=
 jn (V:=Unit) (
 loopF (pS_PaneAt_b1 m) m (a2,a1.Panes,(↑a1.Panes.length:Int),0)) fun _=>
 some (-1)
theorem c152:CC (mo 152 [jS .iState,jI] oI (q2 pS_PaneAt)):=mq cn ⟨[],[],[(2,true,⟨[],[eI 1,eR 8 .iPane,eI 9,eI 10]⟩,0,⟨[],[]⟩)]⟩ Tryz.f152
def pS_Leaves_b1 (m:Nat):Lp (List Int×List INode×Int×Int) (List Int):=fun(v5,v6,v7,v8)=>
 br (decide (v8<v7)) (
 bd (α:=List Int×List INode×Int×Int) (
 gd (0<=v8/\v8<(↑v6.length:Int)) <|
 bd v6[v8.toNat]? fun x9=>
 br (decide (0<x9.Pane)) (
 gd (roomB .int (v5++ [x9.Pane]).length) <|
 some (v5++ [x9.Pane],v6,v7,v8)) <|
 some (v5,v6,v7,v8)) fun(x10,x11,x12,x13)=>
 gd (inK .i64 (x13+1)) <|
 some (.inl (x10,x11,x12,x13+1))) <|
 some (.inr v5)
def pS_Leaves (m:Nat) (a1:List INode):Option (List Int):=
 bd (pS_TreeOk m a1) fun x2=>
 br (!x2) (
 some []) <|
 bd (α:=List Int) (
 loopF (pS_Leaves_b1 m) m ([],a1,(↑a1.length:Int),0)) fun x4=>
 some x4
theorem c153:CC (mo 153 [.row .iNode] (.one (.own .int 99)) pS_Leaves):=mq (cs c220 cn) ⟨[],[(9,false,⟨[],[eO 3 .int 700,eR 11 .iNode,eI 12,eI 13]⟩)],[(5,false,⟨[],[eO 3 .int 700,eR 11 .iNode,eI 12,eI 13]⟩,0,⟨[],[eO 3 .int 700]⟩)]⟩ Tryz.f153
def pS_l14Wins_b2 (m:Nat):Lp (IState×List Int×Int×Int) (IState×List Int⊕Bool):=fun(v33,v34,v35,v36)=>
 br (decide (v36<v35)) (
 gd (0<=v36/\v36<(↑v34.length:Int)) <|
 bd (v34[0+v36.toNat]?) fun x37=>
 bd (α:=IState×List Int×Int×Int×Bool) (
 gd (0<=v36/\v36<=(↑v34.length:Int)) <|
 bd (pS_l02HasInt m (viewL false v34 (0+0) (v36.toNat-0)) x37) fun x38=>
 br x38 (
 some (v33,v34,v35,v36,true)) <|
 bd (pS_PaneAt m v33 x37) fun x39=>
 some (v33,v34,v35,v36,decide (x39<0))) fun(x40,x41,x42,x43,x44)=>
 br x44 (
 some (.inr (.inr false))) <|
 gd (inK .i64 (x43+1)) <|
 some (.inl (x40,x41,x42,x43+1))) <|
 some (.inr (.inl (v33,v34)))
def pS_l14Wins_b1 (m:Nat):Lp (IState×List Int×List IWin×Int×Int) (IState×List Int⊕Bool):=fun(v8,v9,v10,v11,v12)=>
 br (decide (v12<v11)) (
 gd (0<=v12/\v12<(↑v10.length:Int)) <|
 bd v10[v12.toNat]? fun x13=>
 bd (pS_Places m x13.Tree v8.W v8.H) fun(x14,x15)=>
 bd (α:=IState×IWin×List Int×List IWin×Int×Int×Bool) (
 br (!x15) (
 some (v8,x13,v9,v10,v11,v12,true)) <|
 br (decide (x13.Id<1)) (
 some (v8,x13,v9,v10,v11,v12,true)) <|
 br (decide (v8.Next<=x13.Id)) (
 some (v8,x13,v9,v10,v11,v12,true)) <|
 br (decide (0<v12)) (
 gd (inK .i64 (v12-1)) <|
 gd (0<=v12-1/\v12-1<(↑v8.Wins.length:Int)) <|
 bd (v8.Wins[(v12-1).toNat]?) fun x16=>
 br (decide (x13.Id<=x16.Id)) (
 some (v8,x13,v9,v10,v11,v12,true)) <|
 bd (pS_PaneAt m v8 x13.Id) fun x17=>
 br (decide (0<=x17)) (
 some (v8,x13,v9,v10,v11,v12,true)) <|
 bd (pS_WordOk m x13.Name) fun x18=>
 br (!x18) (
 some (v8,x13,v9,v10,v11,v12,true)) <|
 bd (pS_Leaves m x13.Tree) fun x19=>
 bd (pS_l02HasInt m x19 x13.Active) fun x20=>
 some (v8,x13,v9,v10,v11,v12,!x20)) <|
 bd (pS_PaneAt m v8 x13.Id) fun x21=>
 br (decide (0<=x21)) (
 some (v8,x13,v9,v10,v11,v12,true)) <|
 bd (pS_WordOk m x13.Name) fun x22=>
 br (!x22) (
 some (v8,x13,v9,v10,v11,v12,true)) <|
 bd (pS_Leaves m x13.Tree) fun x23=>
 bd (pS_l02HasInt m x23 x13.Active) fun x24=>
 some (v8,x13,v9,v10,v11,v12,!x24)) fun(x25,x26,x27,x28,x29,x30,x31)=>
 br x31 (
 some (.inr (.inr false))) <|
 bd (pS_Leaves m x26.Tree) fun x32=>
 gd (roomB .int (x27++x32).length) <|
 gd (inK .i64 (x30+1)) <|
 some (.inl (x25,x27++x32,x28,x29,x30+1))) <|
 some (.inr (.inl (v8,v9)))
def pS_l14Wins (m:Nat) (a1:IState):Option Bool:=
 jn (V:=IState×List Int) (
 loopF (pS_l14Wins_b1 m) m (a1,[],a1.Wins,(↑a1.Wins.length:Int),0)) fun(v3,v4)=>
 jn (V:=IState×List Int) (
 loopF (pS_l14Wins_b2 m) m (v3,v4,(↑v4.length:Int),0)) fun(v6,v7)=>
 some ((↑v7.length:Int)==(↑v6.Panes.length:Int))
theorem c74:CC (mo 74 [jS .iState] oB pS_l14Wins):=mq (cs c151 (cs c152 (cs c80 (cs c153 (cs c77 cn))))) ⟨[(6,⟨[(1,.ptr 200 0),(5,.ptr 600 0)],[.sto 200 .iState [],.sto 600 .iWin [],eO 3 .int 1100,eR 12 .iWin,eI 13,eI 14,eB 80]⟩),(13,⟨[(1,.ptr 200 0),(87,.ref 1100)],[.sto 200 .iState [],eO 3 .int 1100,eI 88,eI 89,eB 104]⟩)],[],[(3,true,⟨[(1,.ptr 200 0)],[.sto 200 .iState [],eO 3 .int 1100,eR 12 .iWin,eI 13,eI 14]⟩,0,⟨[(1,.ptr 200 0)],[.sto 200 .iState [],eO 3 .int 1100]⟩),(11,true,⟨[(1,.ptr 200 0),(87,.ref 1100)],[.sto 200 .iState [],eO 3 .int 1100,eI 88,eI 89]⟩,2,⟨[(1,.ptr 200 0)],[.sto 200 .iState [],eO 3 .int 1100]⟩)]⟩ Tryz.f74
def pS_SessAt_b1 (m:Nat):Lp (ByteArray×List ISess×Int×Int) (Unit⊕Int):=fun(v4,v5,v6,v7)=>
 br (decide (v7<v6)) (
 gd (0<=v7/\v7<(↑v5.length:Int)) <|
 bd v5[v7.toNat]? fun x8=>
 br (decide (x8.Name=v4)) (
 some (.inr (.inr v7))) <|
 gd (inK .i64 (v7+1)) <|
 some (.inl (v4,v5,v6,v7+1))) <|
 some (.inr (.inl ()))
def pS_SessAt (m:Nat) (a1:IState) (a2:ByteArray):Option Int:=
 jn (V:=Unit) (
 loopF (pS_SessAt_b1 m) m (a2,a1.Sess,(↑a1.Sess.length:Int),0)) fun _=>
 some (-1)
theorem c154:CC (mo 154 [jS .iState,.S] oI (q2 pS_SessAt)):=mq cn ⟨[],[],[(2,true,⟨[],[eS 1,eR 8 .iSess,eI 9,eI 10]⟩,0,⟨[],[]⟩)]⟩ Tryz.f154
def pS_WinAt_b1 (m:Nat):Lp (Int×List IWin×Int×Int) (Unit⊕Int):=fun(v4,v5,v6,v7)=>
 br (decide (v7<v6)) (
 gd (0<=v7/\v7<(↑v5.length:Int)) <|
 bd v5[v7.toNat]? fun x8=>
 br (x8.Id==v4) (
 some (.inr (.inr v7))) <|
 gd (inK .i64 (v7+1)) <|
 some (.inl (v4,v5,v6,v7+1))) <|
 some (.inr (.inl ()))
def pS_WinAt (m:Nat) (a1:IState) (a2:Int):Option Int:=
 jn (V:=Unit) (
 loopF (pS_WinAt_b1 m) m (a2,a1.Wins,(↑a1.Wins.length:Int),0)) fun _=>
 some (-1)
theorem c155:CC (mo 155 [jS .iState,jI] oI (q2 pS_WinAt)):=mq cn ⟨[],[],[(2,true,⟨[],[eI 1,eR 8 .iWin,eI 9,eI 10]⟩,0,⟨[],[]⟩)]⟩ Tryz.f155
def pS_l14Sess_b2 (m:Nat):Lp (IState×List Int×Int×Int) (IState×List Int⊕Bool):=fun(v24,v25,v26,v27)=>
 br (decide (v27<v26)) (
 gd (0<=v27/\v27<(↑v25.length:Int)) <|
 bd (v25[0+v27.toNat]?) fun x28=>
 bd (α:=IState×List Int×Int×Int×Bool) (
 gd (0<=v27/\v27<=(↑v25.length:Int)) <|
 bd (pS_l02HasInt m (viewL false v25 (0+0) (v27.toNat-0)) x28) fun x29=>
 br x29 (
 some (v24,v25,v26,v27,true)) <|
 bd (pS_WinAt m v24 x28) fun x30=>
 some (v24,v25,v26,v27,decide (x30<0))) fun(x31,x32,x33,x34,x35)=>
 br x35 (
 some (.inr (.inr false))) <|
 gd (inK .i64 (x34+1)) <|
 some (.inl (x31,x32,x33,x34+1))) <|
 some (.inr (.inl (v24,v25)))
def pS_l14Sess_b1 (m:Nat):Lp (IState×List Int×List ISess×Int×Int) (IState×List Int⊕Bool):=fun(v8,v9,v10,v11,v12)=>
 br (decide (v12<v11)) (
 gd (0<=v12/\v12<(↑v10.length:Int)) <|
 bd v10[v12.toNat]? fun x13=>
 bd (α:=IState×ISess×List Int×List ISess×Int×Int×Bool) (
 bd (pS_WordOk m x13.Name) fun x14=>
 br (!x14) (
 some (v8,x13,v9,v10,v11,v12,true)) <|
 bd (pS_SessAt m v8 x13.Name) fun x15=>
 br (x15 !=v12) (
 some (v8,x13,v9,v10,v11,v12,true)) <|
 bd (pS_l02HasInt m x13.Wins x13.Active) fun x16=>
 some (v8,x13,v9,v10,v11,v12,!x16)) fun(x17,x18,x19,x20,x21,x22,x23)=>
 br x23 (
 some (.inr (.inr false))) <|
 gd (roomB .int (x19++x18.Wins).length) <|
 gd (inK .i64 (x22+1)) <|
 some (.inl (x17,x19++x18.Wins,x20,x21,x22+1))) <|
 some (.inr (.inl (v8,v9)))
def pS_l14Sess (m:Nat) (a1:IState):Option Bool:=
 jn (V:=IState×List Int) (
 loopF (pS_l14Sess_b1 m) m (a1,[],a1.Sess,(↑a1.Sess.length:Int),0)) fun(v3,v4)=>
 jn (V:=IState×List Int) (
 loopF (pS_l14Sess_b2 m) m (v3,v4,(↑v4.length:Int),0)) fun(v6,v7)=>
 some ((↑v7.length:Int)==(↑v6.Wins.length:Int))
theorem c75:CC (mo 75 [jS .iState] oB pS_l14Sess):=mq (cs c80 (cs c154 (cs c77 (cs c155 cn)))) ⟨[(5,⟨[(1,.ptr 200 0),(5,.ptr 600 0)],[.sto 200 .iState [],.sto 600 .iSess [],eO 3 .int 900,eR 10 .iSess,eI 11,eI 12,eB 36]⟩),(12,⟨[(1,.ptr 200 0),(42,.ref 900)],[.sto 200 .iState [],eO 3 .int 900,eI 43,eI 44,eB 59]⟩)],[],[(3,true,⟨[(1,.ptr 200 0)],[.sto 200 .iState [],eO 3 .int 900,eR 10 .iSess,eI 11,eI 12]⟩,0,⟨[(1,.ptr 200 0)],[.sto 200 .iState [],eO 3 .int 900]⟩),(10,true,⟨[(1,.ptr 200 0),(42,.ref 900)],[.sto 200 .iState [],eO 3 .int 900,eI 43,eI 44]⟩,2,⟨[(1,.ptr 200 0)],[.sto 200 .iState [],eO 3 .int 900]⟩)]⟩ Tryz.f75
def pS_l08Keeps (m:Nat) (a1:Int):Option Bool:=
 bd (α:=Bool) (
 br (a1==2) (
 some true) <|
 some (a1==3)) fun x2=>
 some x2
theorem c304:CC (mo 304 [jI] oB pS_l08Keeps):=mq cn ⟨[(1,⟨[],[eB 2]⟩)],[],[]⟩ Tryz.f304
def pS_Shows (m:Nat) (a1:Int):Option Bool:=
 bd (α:=Bool) (
 br (decide (32<=a1)) (
 br (decide (a1<=126)) (
 some true) <|
 br (decide (160<=a1)) (
 br (decide (a1<=65535)) (
 br (decide (a1<55296)) (
 some true) <|
 some (decide (57343<a1))) <|
 some false) <|
 some false) <|
 br (decide (160<=a1)) (
 br (decide (a1<=65535)) (
 br (decide (a1<55296)) (
 some true) <|
 some (decide (57343<a1))) <|
 some false) <|
 some false) fun x2=>
 some x2
theorem c361:CC (mo 361 [jI] oB pS_Shows):=mq cn ⟨[(1,⟨[],[eB 2]⟩)],[],[]⟩ Tryz.f361
def pS_RuneBytes (m:Nat) (a1:Int):Option (List UInt8):=
 bd (pS_Shows m a1) fun x2=>
 br (!x2) (
 some []) <|
 br (decide (a1<128)) (
 some ([UInt8.ofNat (IntKind.u8.wrap a1).toNat])) <|
 br (decide (a1<2048)) (
 gd ((64:Int)≠(0:Int)) <|
 gd (inK .i64 (a1.tdiv 64)) <|
 gd (inK .i64 (192+a1.tdiv 64)) <|
 gd ((64:Int)≠(0:Int)) <|
 gd (inK .i64 (128+a1.tmod 64)) <|
 some ([UInt8.ofNat (IntKind.u8.wrap (192+a1.tdiv 64)).toNat,UInt8.ofNat (IntKind.u8.wrap (128+a1.tmod 64)).toNat])) <|
 gd ((4096:Int)≠(0:Int)) <|
 gd (inK .i64 (a1.tdiv 4096)) <|
 gd (inK .i64 (224+a1.tdiv 4096)) <|
 gd ((64:Int)≠(0:Int)) <|
 gd (inK .i64 (a1.tdiv 64)) <|
 gd ((64:Int)≠(0:Int)) <|
 gd (inK .i64 (128+(a1.tdiv 64).tmod 64)) <|
 gd ((64:Int)≠(0:Int)) <|
 gd (inK .i64 (128+a1.tmod 64)) <|
 some ([UInt8.ofNat (IntKind.u8.wrap (224+a1.tdiv 4096)).toNat,UInt8.ofNat (IntKind.u8.wrap (128+(a1.tdiv 64).tmod 64)).toNat,UInt8.ofNat (IntKind.u8.wrap (128+a1.tmod 64)).toNat])
theorem c360:CC (mo 360 [jI] (.one (.own .u8 99)) pS_RuneBytes):=mq (cs c361 cn) tn Tryz.f360
def pS_RuneRead_b2 (m:Nat):Lp (List UInt8×Int×Int×Int×Int) (List UInt8×Int×Int×Int):=fun(v27,v28,v29,v30,v31)=>
 br (decide (v31<v29)) (
 gd (inK .i64 (v30*64)) <|
 gd (inK .i64 (v28+v31)) <|
 gd (0<=v28+v31/\v28+v31<(↑v27.length:Int)) <|
 bd (v27[(v28+v31).toNat]?) fun x32=>
 gd (inK .i64 (v30*64+(↑x32.toNat:Int))) <|
 gd (inK .i64 (v30*64+(↑x32.toNat:Int)-128)) <|
 gd (inK .i64 (v31+1)) <|
 some (.inl (v27,v28,v29,v30*64+(↑x32.toNat:Int)-128,v31+1))) <|
 some (.inr (v27,v28,v29,v30))
def pS_RuneRead_b1 (m:Nat):Lp (List UInt8×Int×Int) (Unit⊕Int×Int):=fun(v7,v8,v9)=>
 bd (α:=List UInt8×Int×Int×Bool) (
 br (decide (v9<=3)) (
 gd (inK .i64 ((↑v7.length:Int)-v8)) <|
 some (v7,v8,v9,decide (v9<=(↑v7.length:Int)-v8))) <|
 some (v7,v8,v9,false)) fun(x10,x11,x12,x13)=>
 br x13 (
 gd (0<=x11/\x11<(↑x10.length:Int)) <|
 bd x10[x11.toNat]? fun x14=>
 gd (0<=x12/\x12<(↑4:Int)) <|
 bd ([0,0,192,224][0+x12.toNat]?) fun x15=>
 gd (inK .i64 ((↑x14.toNat:Int)-x15)) <|
 bd (α:=List UInt8×Int×Int×Int) (
 loopF (pS_RuneRead_b2 m) m (x10,x11,x12,(↑x14.toNat:Int)-x15,1)) fun(x17,x18,x19,x20)=>
 bd (pS_RuneBytes m x20) fun x21=>
 bd (α:=List UInt8×Int×Int×Int×Bool) (
 br ((↑x21.length:Int)==x19) (
 gd (inK .i64 (x18+x19)) <|
 gd (0<=x18+x19/\x18+x19<=(↑x17.length:Int)) <|
 gd (0<=x18/\x18<=(↑(x18+x19).toNat:Int)) <|
 some (x17,x18,x19,x20,decide (ByteArray.mk x21.toArray=ByteArray.mk (List.drop x18.toNat (List.take (x18+x19).toNat x17)).toArray))) <|
 some (x17,x18,x19,x20,false)) fun(x22,x23,x24,x25,x26)=>
 br x26 (
 some (.inr (.inr (x25,x24)))) <|
 gd (inK .i64 (x24+1)) <|
 some (.inl (x22,x23,x24+1))) <|
 some (.inr (.inl ()))
def pS_RuneRead (m:Nat) (a1:List UInt8) (a2:Int):Option (Int×Int):=
 bd (α:=List UInt8×Int×Bool) (
 br (decide (a2<0)) (
 some (a1,a2,true)) <|
 some (a1,a2,decide ((↑a1.length:Int)<=a2))) fun(x3,x4,x5)=>
 br x5 (
 some (0,0)) <|
 jn (V:=Unit) (
 loopF (pS_RuneRead_b1 m) m (x3,x4,1)) fun _=>
 some (0,0)
theorem c339:CC (mo 339 [.row .u8,jI] (.tup [jI,jI]) (q2 pS_RuneRead)):=mq (cs c360 cn) ⟨[(1,⟨[],[eR 0 .u8,eI 1,eB 17]⟩),(4,⟨[],[eR 0 .u8,eI 1,eI 6,eB 27]⟩),(12,⟨[],[eR 0 .u8,eI 1,eI 6,eI 7,eB 73]⟩)],[],[(8,false,⟨[],[eR 0 .u8,eI 1,eI 6,eI 7,eI 8]⟩,2,⟨[],[eR 0 .u8,eI 1,eI 6,eI 7]⟩),(4,true,⟨[],[eR 0 .u8,eI 1,eI 6]⟩,0,⟨[],[]⟩)]⟩ Tryz.f339
def pS_RuneBegin_b1 (m:Nat):Lp (List UInt8×Int) (Unit⊕Bool):=fun(v5,v6)=>
 br (decide (v6<192)) (
 jn (V:=List UInt8×Int) (
 gd (roomB .u8 ([]++v5).length) <|
 gd (roomB .u8 ([]++v5++ [UInt8.ofNat (IntKind.u8.wrap v6).toNat]).length) <|
 bd (pS_RuneRead m ([]++v5++ [UInt8.ofNat (IntKind.u8.wrap v6).toNat]) 0) fun(x7,x8)=>
 br (x8==(↑([]++v5++ [UInt8.ofNat (IntKind.u8.wrap v6).toNat]).length:Int)) (
 some (.inr (.inr (.inr true)))) <|
 br ((↑v5.length:Int)==1) (
 gd (roomB .u8 ([]++([]++v5++ [UInt8.ofNat (IntKind.u8.wrap v6).toNat])).length) <|
 gd (roomB .u8 ([]++([]++v5++ [UInt8.ofNat (IntKind.u8.wrap v6).toNat])++ [UInt8.ofNat (Int.toNat 129)]).length) <|
 bd (pS_RuneRead m ([]++([]++v5++ [UInt8.ofNat (IntKind.u8.wrap v6).toNat])++ [UInt8.ofNat (Int.toNat 129)]) 0) fun(x9,x10)=>
 br (x10==3) (
 some (.inr (.inr (.inr true)))) <|
 some (.inl (v5,v6))) <|
 some (.inl (v5,v6))) fun(v11,v12)=>
 gd (inK .i64 (v12+1)) <|
 some (.inl (v11,v12+1))) <|
 some (.inr (.inl ()))
def pS_RuneBegin (m:Nat) (a1:List UInt8):Option Bool:=
 bd (α:=List UInt8×Bool) (
 br (decide ((↑a1.length:Int)<1)) (
 some (a1,true)) <|
 some (a1,decide (2<(↑a1.length:Int)))) fun(x2,x3)=>
 br x3 (
 some false) <|
 jn (V:=Unit) (
 loopF (pS_RuneBegin_b1 m) m (x2,128)) fun _=>
 some false
theorem c305:CC (mo 305 [.row .u8] oB pS_RuneBegin):=mq (cs c339 cn) ⟨[(1,⟨[],[eR 0 .u8,eB 17]⟩)],[(5,true,⟨[],[eR 0 .u8,eI 3]⟩)],[(4,true,⟨[],[eR 0 .u8,eI 3]⟩,0,⟨[],[]⟩)]⟩ Tryz.f305
def pS_VpOk_b1 (m:Nat):Lp (IVp×List Int×Int×Int) (IVp⊕Bool):=fun(v9,v10,v11,v12)=>
 br (decide (v12<v11)) (
 gd (0<=v12/\v12<(↑v10.length:Int)) <|
 bd v10[v12.toNat]? fun x13=>
 bd (α:=IVp×List Int×Int×Int×Bool) (
 br (decide (x13<0)) (
 some (v9,v10,v11,v12,true)) <|
 some (v9,v10,v11,v12,decide (9999<x13))) fun(x14,x15,x16,x17,x18)=>
 br x18 (
 some (.inr (.inr false))) <|
 gd (inK .i64 (x17+1)) <|
 some (.inl (x14,x15,x16,x17+1))) <|
 some (.inr (.inl v9))
def pS_VpOk (m:Nat) (a1:IVp):Option Bool:=
 bd (α:=IVp×Bool) (
 br (decide (a1.State<0)) (
 some (a1,true)) <|
 br (decide (3<a1.State)) (
 some (a1,true)) <|
 br (decide (8<(↑a1.Args.length:Int))) (
 some (a1,true)) <|
 bd (pS_l08Keeps m a1.State) fun x2=>
 br (!x2) (
 br a1.Mark (
 some (a1,true)) <|
 some (a1,decide (0<(↑a1.Args.length:Int)))) <|
 some (a1,false)) fun(x3,x4)=>
 br x4 (
 some false) <|
 jn (V:=IVp) (
 loopF (pS_VpOk_b1 m) m (x3,x3.Args,(↑x3.Args.length:Int),0)) fun v6=>
 bd (α:=Bool) (
 br ((↑v6.Part.length:Int)==0) (
 some true) <|
 br (v6.State==0) (
 bd (pS_RuneBegin m v6.Part) fun x7=>
 some x7) <|
 some false) fun x8=>
 some x8
theorem c266:CC (mo 266 [jS .iVp] oB pS_VpOk):=mq (cs c304 (cs c305 cn)) ⟨[(1,⟨[(1,.ptr 200 0)],[.sto 200 .iVp [],eB 34]⟩),(6,⟨[(1,.ptr 200 0)],[.sto 200 .iVp [],eR 36 .int,eI 37,eI 38,eB 47]⟩),(9,⟨[],[eB 2]⟩)],[],[(4,true,⟨[(1,.ptr 200 0)],[.sto 200 .iVp [],eR 36 .int,eI 37,eI 38]⟩,0,⟨[(1,.ptr 200 0)],[.sto 200 .iVp []]⟩)]⟩ Tryz.f266
def pS_AttrOk (m:Nat) (a1:IAttr):Option Bool:=
 bd (α:=Bool) (
 br (decide (0<=a1.Fg)) (
 br (decide (a1.Fg<=8)) (
 br (decide (0<=a1.Bg)) (
 some (decide (a1.Bg<=8))) <|
 some false) <|
 some false) <|
 some false) fun x2=>
 some x2
theorem c307:CC (mo 307 [jS .iAttr] oB pS_AttrOk):=mq cn ⟨[(1,⟨[],[eB 2]⟩)],[],[]⟩ Tryz.f307
def pS_CellOk (m:Nat) (a1:ICell):Option Bool:=
 bd (α:=Bool) (
 bd (pS_Shows m a1.R) fun x2=>
 br x2 (
 bd (pS_AttrOk m a1.A) fun x3=>
 some x3) <|
 some false) fun x4=>
 some x4
theorem c340:CC (mo 340 [jS .iCell] oB pS_CellOk):=mq (cs c361 (cs c307 cn)) ⟨[(1,⟨[],[eB 2]⟩)],[],[]⟩ Tryz.f340
def pS_GridOk_b1 (m:Nat):Lp (List ICell×Int×Int) (Unit⊕Bool):=fun(v5,v6,v7)=>
 br (decide (v7<v6)) (
 gd (0<=v7/\v7<(↑v5.length:Int)) <|
 bd v5[v7.toNat]? fun x8=>
 bd (pS_CellOk m x8) fun x9=>
 br (!x9) (
 some (.inr (.inr false))) <|
 gd (inK .i64 (v7+1)) <|
 some (.inl (v5,v6,v7+1))) <|
 some (.inr (.inl ()))
def pS_GridOk (m:Nat) (a1:IGrid):Option Bool:=
 bd (α:=IGrid×Bool) (
 br (decide (a1.W<1)) (
 some (a1,true)) <|
 br (decide (120<a1.W)) (
 some (a1,true)) <|
 br (decide (a1.H<1)) (
 some (a1,true)) <|
 br (decide (120<a1.H)) (
 some (a1,true)) <|
 gd (inK .i64 (a1.W*a1.H)) <|
 br (decide (4000<a1.W*a1.H)) (
 some (a1,true)) <|
 gd (inK .i64 (a1.W*a1.H)) <|
 some (a1,(↑a1.Cells.length:Int) !=a1.W*a1.H)) fun(x2,x3)=>
 br x3 (
 some false) <|
 jn (V:=Unit) (
 loopF (pS_GridOk_b1 m) m (x2.Cells,(↑x2.Cells.length:Int),0)) fun _=>
 some true
theorem c306:CC (mo 306 [jS .iGrid] oB pS_GridOk):=mq (cs c340 cn) ⟨[(1,⟨[(1,.ptr 200 0)],[.sto 200 .iGrid [],eB 41]⟩)],[],[(4,true,⟨[],[eR 43 .iCell,eI 44,eI 45]⟩,0,⟨[],[]⟩)]⟩ Tryz.f306
def pS_l09Row_b1 (m:Nat):Lp (IRow×List ICell×Int×Int) (IRow⊕Bool):=fun(v5,v6,v7,v8)=>
 br (decide (v8<v7)) (
 gd (0<=v8/\v8<(↑v6.length:Int)) <|
 bd v6[v8.toNat]? fun x9=>
 bd (pS_CellOk m x9) fun x10=>
 br (!x10) (
 some (.inr (.inr false))) <|
 gd (inK .i64 (v8+1)) <|
 some (.inl (v5,v6,v7,v8+1))) <|
 some (.inr (.inl v5))
def pS_l09Row (m:Nat) (a1:IRow):Option Bool:=
 jn (V:=IRow) (
 loopF (pS_l09Row_b1 m) m (a1,a1.Cells,(↑a1.Cells.length:Int),0)) fun v3=>
 bd (α:=Bool) (
 br (decide (1<=(↑v3.Cells.length:Int))) (
 some (decide ((↑v3.Cells.length:Int)<=120))) <|
 some false) fun x4=>
 some x4
theorem c308:CC (mo 308 [jS .iRow] oB pS_l09Row):=mq (cs c340 cn) ⟨[(7,⟨[],[eB 2]⟩)],[],[(2,true,⟨[(1,.ptr 200 0)],[.sto 200 .iRow [],eR 6 .iCell,eI 7,eI 8]⟩,0,⟨[(1,.ptr 200 0)],[.sto 200 .iRow []]⟩)]⟩ Tryz.f308
def pS_ScrOk_b2 (m:Nat):Lp (List IRow×Int×Int) (Unit⊕Bool):=fun(v28,v29,v30)=>
 br (decide (v30<v29)) (
 gd (0<=v30/\v30<(↑v28.length:Int)) <|
 bd v28[v30.toNat]? fun x31=>
 bd (pS_l09Row m x31) fun x32=>
 br (!x32) (
 some (.inr (.inr false))) <|
 gd (inK .i64 (v30+1)) <|
 some (.inl (v28,v29,v30+1))) <|
 some (.inr (.inl ()))
def pS_ScrOk_b1 (m:Nat):Lp (IScr×List Int×Int×Int) (IScr⊕Bool):=fun(v17,v18,v19,v20)=>
 br (decide (v20<v19)) (
 gd (0<=v20/\v20<(↑v18.length:Int)) <|
 bd v18[v20.toNat]? fun x21=>
 bd (α:=IScr×List Int×Int×Int×Bool) (
 br (decide (x21<0)) (
 some (v17,v18,v19,v20,true)) <|
 br (decide (v17.W<=x21)) (
 some (v17,v18,v19,v20,true)) <|
 br (decide (0<v20)) (
 gd (inK .i64 (v20-1)) <|
 gd (0<=v20-1/\v20-1<(↑v17.Tabs.length:Int)) <|
 bd (v17.Tabs[(v20-1).toNat]?) fun x22=>
 some (v17,v18,v19,v20,decide (x21<=x22))) <|
 some (v17,v18,v19,v20,false)) fun(x23,x24,x25,x26,x27)=>
 br x27 (
 some (.inr (.inr false))) <|
 gd (inK .i64 (x26+1)) <|
 some (.inl (x23,x24,x25,x26+1))) <|
 some (.inr (.inl v17))
def pS_ScrOk (m:Nat) (a1:IScr):Option Bool:=
 bd (α:=IScr×Bool) (
 bd (pS_GridOk m a1.Main) fun x2=>
 br (!x2) (
 some (a1,true)) <|
 bd (pS_GridOk m a1.Alt) fun x3=>
 br (!x3) (
 some (a1,true)) <|
 br (a1.Main.W !=a1.W) (
 some (a1,true)) <|
 br (a1.Main.H !=a1.H) (
 some (a1,true)) <|
 br (a1.Alt.W !=a1.W) (
 some (a1,true)) <|
 some (a1,a1.Alt.H !=a1.H)) fun(x4,x5)=>
 br x5 (
 some false) <|
 bd (α:=IScr×Bool) (
 br (decide (x4.X<0)) (
 some (x4,true)) <|
 br (decide (x4.W<=x4.X)) (
 some (x4,true)) <|
 br (decide (x4.Y<0)) (
 some (x4,true)) <|
 br (decide (x4.H<=x4.Y)) (
 some (x4,true)) <|
 br x4.Wrap (
 gd (inK .i64 (x4.W-1)) <|
 br (x4.X !=x4.W-1) (
 some (x4,true)) <|
 br (decide (x4.SaveX<0)) (
 some (x4,true)) <|
 br (decide (x4.W<=x4.SaveX)) (
 some (x4,true)) <|
 br (decide (x4.SaveY<0)) (
 some (x4,true)) <|
 br (decide (x4.H<=x4.SaveY)) (
 some (x4,true)) <|
 bd (pS_AttrOk m x4.A) fun x6=>
 br (!x6) (
 some (x4,true)) <|
 bd (pS_AttrOk m x4.SaveA) fun x7=>
 some (x4,!x7)) <|
 br (decide (x4.SaveX<0)) (
 some (x4,true)) <|
 br (decide (x4.W<=x4.SaveX)) (
 some (x4,true)) <|
 br (decide (x4.SaveY<0)) (
 some (x4,true)) <|
 br (decide (x4.H<=x4.SaveY)) (
 some (x4,true)) <|
 bd (pS_AttrOk m x4.A) fun x8=>
 br (!x8) (
 some (x4,true)) <|
 bd (pS_AttrOk m x4.SaveA) fun x9=>
 some (x4,!x9)) fun(x10,x11)=>
 br x11 (
 some false) <|
 bd (α:=IScr×Bool) (
 br (decide (x10.Top<0)) (
 some (x10,true)) <|
 br (decide (x10.H<=x10.Bot)) (
 some (x10,true)) <|
 br (decide (x10.Bot<x10.Top)) (
 some (x10,true)) <|
 br (x10.Top==x10.Bot) (
 br (x10.H !=1) (
 some (x10,true)) <|
 br (decide (x10.Limit<0)) (
 some (x10,true)) <|
 br (decide (100<x10.Limit)) (
 some (x10,true)) <|
 some (x10,decide (x10.Limit<(↑x10.Back.length:Int)))) <|
 br (decide (x10.Limit<0)) (
 some (x10,true)) <|
 br (decide (100<x10.Limit)) (
 some (x10,true)) <|
 some (x10,decide (x10.Limit<(↑x10.Back.length:Int)))) fun(x12,x13)=>
 br x13 (
 some false) <|
 jn (V:=IScr) (
 loopF (pS_ScrOk_b1 m) m (x12,x12.Tabs,(↑x12.Tabs.length:Int),0)) fun v15=>
 jn (V:=Unit) (
 loopF (pS_ScrOk_b2 m) m (v15.Back,(↑v15.Back.length:Int),0)) fun _=>
 some true
theorem c267:CC (mo 267 [jS .iScr] oB pS_ScrOk):=mq (cs c306 (cs c307 (cs c308 cn))) ⟨[(1,⟨[(1,.ptr 200 0)],[.sto 200 .iScr [],eB 48]⟩),(3,⟨[(1,.ptr 200 0)],[.sto 200 .iScr [],eB 118]⟩),(5,⟨[(1,.ptr 200 0)],[.sto 200 .iScr [],eB 165]⟩),(10,⟨[(1,.ptr 200 0)],[.sto 200 .iScr [],eR 167 .int,eI 168,eI 169,eB 195]⟩)],[],[(8,true,⟨[(1,.ptr 200 0)],[.sto 200 .iScr [],eR 167 .int,eI 168,eI 169]⟩,0,⟨[(1,.ptr 200 0)],[.sto 200 .iScr []]⟩),(14,true,⟨[],[eR 198 .iRow,eI 199,eI 200]⟩,2,⟨[],[]⟩)]⟩ Tryz.f267
def pS_TermOk (m:Nat) (a1:ITerm):Option Bool:=
 bd (α:=Bool) (
 bd (pS_VpOk m a1.P) fun x2=>
 br x2 (
 bd (pS_ScrOk m a1.S) fun x3=>
 some x3) <|
 some false) fun x4=>
 some x4
theorem c222:CC (mo 222 [jS .iTerm] oB pS_TermOk):=mq (cs c266 (cs c267 cn)) ⟨[(1,⟨[],[eB 2]⟩)],[],[]⟩ Tryz.f222
def pS_PaneOk (m:Nat) (a1:IPane):Option Bool:=
 bd (α:=IPane×Bool) (
 br (decide (a1.Id<1)) (
 some (a1,true)) <|
 br (decide (1000000<a1.Id)) (
 some (a1,true)) <|
 br (decide (60<(↑a1.Cmd.size:Int))) (
 some (a1,true)) <|
 br (decide (60<(↑a1.Dir.size:Int))) (
 some (a1,true)) <|
 bd (pS_TermOk m a1.Term) fun x2=>
 some (a1,!x2)) fun(x3,x4)=>
 br x4 (
 some false) <|
 br (x3.Life==1) (
 bd (α:=Bool) (
 br (decide (1<=x3.Pid)) (
 br (decide (x3.Pid<=1000000)) (
 some (x3.Code==0)) <|
 some false) <|
 some false) fun x5=>
 some x5) <|
 br (x3.Life==2) (
 bd (α:=Bool) (
 br (x3.Pid==0) (
 br (decide (0<=x3.Code)) (
 some (decide (x3.Code<=255))) <|
 some false) <|
 some false) fun x6=>
 some x6) <|
 br (x3.Life==3) (
 bd (α:=Bool) (
 br (x3.Pid==0) (
 some (x3.Code==0)) <|
 some false) fun x7=>
 some x7) <|
 some false
theorem c156:CC (mo 156 [jS .iPane] oB pS_PaneOk):=mq (cs c222 cn) ⟨[(1,⟨[(1,.ptr 200 0)],[.sto 200 .iPane [],eB 28]⟩),(5,⟨[],[eB 2]⟩),(7,⟨[],[eB 2]⟩),(9,⟨[],[eB 2]⟩)],[],[]⟩ Tryz.f156
def pS_WinOf_b1 (m:Nat):Lp (Int×List IWin×Int×Int) (Unit⊕Int):=fun(v4,v5,v6,v7)=>
 br (decide (v7<v6)) (
 gd (0<=v7/\v7<(↑v5.length:Int)) <|
 bd v5[v7.toNat]? fun x8=>
 bd (pS_Leaves m x8.Tree) fun x9=>
 bd (pS_l02HasInt m x9 v4) fun x10=>
 br x10 (
 some (.inr (.inr v7))) <|
 gd (inK .i64 (v7+1)) <|
 some (.inl (v4,v5,v6,v7+1))) <|
 some (.inr (.inl ()))
def pS_WinOf (m:Nat) (a1:IState) (a2:Int):Option Int:=
 jn (V:=Unit) (
 loopF (pS_WinOf_b1 m) m (a2,a1.Wins,(↑a1.Wins.length:Int),0)) fun _=>
 some (-1)
theorem c223:CC (mo 223 [jS .iState,jI] oI (q2 pS_WinOf)):=mq (cs c153 (cs c77 cn)) ⟨[],[],[(2,true,⟨[],[eI 1,eR 8 .iWin,eI 9,eI 10]⟩,0,⟨[],[]⟩)]⟩ Tryz.f223
def pS_PlaceOf_b1 (m:Nat):Lp (IRect×Int×List IRect×Int×Int) (IRect⊕IRect×Bool):=fun(v9,v10,v11,v12,v13)=>
 br (decide (v13<v12)) (
 gd (0<=v13/\v13<(↑v11.length:Int)) <|
 bd (v11[0+v13.toNat]?) fun x14=>
 br (x14.Pane==v10) (
 some (.inr (.inr (x14,true)))) <|
 gd (inK .i64 (v13+1)) <|
 some (.inl (v9,v10,v11,v12,v13+1))) <|
 some (.inr (.inl v9))
def pS_PlaceOf (m:Nat) (a1:List INode) (a2 a3 a4:Int):Option (IRect×Bool):=
 bd (pS_Places m a1 a2 a3) fun(x5,x6)=>
 jn (V:=IRect) (
 loopF (pS_PlaceOf_b1 m) m (IRect.mk 0 0 0 0 0,a4,x5,(↑x5.length:Int),0)) fun v8=>
 some (IRect.mk 0 0 0 0 0,false)
theorem c224:CC (mo 224 [.row .iNode,jI,jI,jI] (.tup [jS .iRect,.B]) (q4 pS_PlaceOf)):=mq (cs c151 cn) ⟨[],[],[(3,true,⟨[(8,.ptr 900 0)],[.sto 900 .iRect [],eI 3,eO 21 .iRect 19000000,eI 22,eI 23]⟩,0,⟨[(8,.ptr 900 0)],[.sto 900 .iRect []]⟩)]⟩ Tryz.f224
def pS_Area (m:Nat) (a1:IState) (a2:Int):Option (Int×Int):=
 bd (pS_WinOf m a1 a2) fun x3=>
 br (decide (x3<0)) (
 some (0,0)) <|
 gd (0<=x3/\x3<(↑a1.Wins.length:Int)) <|
 bd a1.Wins[x3.toNat]? fun x4=>
 bd (α:=IState×IWin×Int×Bool) (
 br x4.Zoom (
 some (a1,x4,a2,x4.Active==a2)) <|
 some (a1,x4,a2,false)) fun(x5,x6,x7,x8)=>
 br x8 (
 some (x5.W,x5.H)) <|
 bd (pS_PlaceOf m x6.Tree x5.W x5.H x7) fun(x9,x10)=>
 some (x9.W,x9.H)
theorem c157:CC (mo 157 [jS .iState,jI] (.tup [jI,jI]) (q2 pS_Area)):=mq (cs c223 (cs c224 cn)) ⟨[(5,⟨[(2,.ptr 300 0),(7,.ptr 800 0)],[.sto 300 .iState [],.sto 800 .iWin [],eI 1,eB 27]⟩)],[],[]⟩ Tryz.f157
def pS_l14Panes_b1 (m:Nat):Lp (IState×List Int×List IPane×Int×Int) (Unit⊕Bool):=fun(v3,v4,v5,v6,v7)=>
 br (decide (v7<v6)) (
 jn (V:=IState×List Int×List IPane×Int×Int) (
 gd (0<=v7/\v7<(↑v5.length:Int)) <|
 bd v5[v7.toNat]? fun x8=>
 bd (α:=IState×IPane×List Int×List IPane×Int×Int×Bool) (
 bd (pS_PaneOk m x8) fun x9=>
 br (!x9) (
 some (v3,x8,v4,v5,v6,v7,true)) <|
 br (decide (v3.Next<=x8.Id)) (
 some (v3,x8,v4,v5,v6,v7,true)) <|
 br (decide (0<v7)) (
 gd (inK .i64 (v7-1)) <|
 gd (0<=v7-1/\v7-1<(↑v3.Panes.length:Int)) <|
 bd (v3.Panes[(v7-1).toNat]?) fun x10=>
 some (v3,x8,v4,v5,v6,v7,decide (x8.Id<=x10.Id))) <|
 some (v3,x8,v4,v5,v6,v7,false)) fun(x11,x12,x13,x14,x15,x16,x17)=>
 br x17 (
 some (.inr (.inr (.inr false)))) <|
 bd (pS_Area m x11 x12.Id) fun(x18,x19)=>
 bd (α:=IState×IPane×List Int×List IPane×Int×Int×Bool) (
 br (x12.Term.S.W !=x18) (
 some (x11,x12,x13,x14,x15,x16,true)) <|
 br (x12.Term.S.H !=x19) (
 some (x11,x12,x13,x14,x15,x16,true)) <|
 some (x11,x12,x13,x14,x15,x16,x12.Term.S.Limit !=x11.Limit)) fun(x20,x21,x22,x23,x24,x25,x26)=>
 br x26 (
 some (.inr (.inr (.inr false)))) <|
 bd (α:=IState×IPane×List Int×List IPane×Int×Int×Bool) (
 br (x21.Life==1) (
 bd (pS_l02HasInt m x22 x21.Pid) fun x27=>
 some (x20,x21,x22,x23,x24,x25,x27)) <|
 some (x20,x21,x22,x23,x24,x25,false)) fun(x28,x29,x30,x31,x32,x33,x34)=>
 br x34 (
 some (.inr (.inr (.inr false)))) <|
 br (x29.Life==1) (
 gd (roomB .int (x30++ [x29.Pid]).length) <|
 some (.inl (x28,x30++ [x29.Pid],x31,x32,x33))) <|
 some (.inl (x28,x30,x31,x32,x33))) fun(v35,v36,v37,v38,v39)=>
 gd (inK .i64 (v39+1)) <|
 some (.inl (v35,v36,v37,v38,v39+1))) <|
 some (.inr (.inl ()))
def pS_l14Panes (m:Nat) (a1:IState):Option Bool:=
 jn (V:=Unit) (
 loopF (pS_l14Panes_b1 m) m (a1,[],a1.Panes,(↑a1.Panes.length:Int),0)) fun _=>
 some true
theorem c76:CC (mo 76 [jS .iState] oB pS_l14Panes):=mq (cs c156 (cs c157 (cs c77 cn))) ⟨[(5,⟨[(1,.ptr 200 0),(5,.ptr 600 0)],[.sto 200 .iState [],.sto 600 .iPane [],eO 3 .int 900,eR 10 .iPane,eI 11,eI 12,eB 42]⟩),(8,⟨[(1,.ptr 200 0),(5,.ptr 600 0)],[.sto 200 .iState [],.sto 600 .iPane [],eO 3 .int 900,eR 10 .iPane,eI 11,eI 12,eB 72]⟩),(10,⟨[(1,.ptr 200 0),(5,.ptr 600 0)],[.sto 200 .iState [],.sto 600 .iPane [],eO 3 .int 900,eR 10 .iPane,eI 11,eI 12,eB 81]⟩)],[(14,true,⟨[(1,.ptr 200 0)],[.sto 200 .iState [],eO 3 .int 900,eR 10 .iPane,eI 11,eI 12]⟩)],[(3,true,⟨[(1,.ptr 200 0)],[.sto 200 .iState [],eO 3 .int 900,eR 10 .iPane,eI 11,eI 12]⟩,0,⟨[],[]⟩)]⟩ Tryz.f76
def pS_StateOk (m:Nat) (a1:IState):Option Bool:=
 bd (pS_GridNew m a1.W a1.H) fun(x2,x3)=>
 bd (α:=IState×Bool) (
 br (!x3) (
 some (a1,true)) <|
 br (decide (a1.Limit<0)) (
 some (a1,true)) <|
 br (decide (100<a1.Limit)) (
 some (a1,true)) <|
 br (decide (a1.Next<1)) (
 some (a1,true)) <|
 br (decide (1000000<a1.Next)) (
 some (a1,true)) <|
 br (decide (24<(↑a1.Panes.length:Int))) (
 some (a1,true)) <|
 br (decide (12<(↑a1.Wins.length:Int))) (
 some (a1,true)) <|
 some (a1,decide (8<(↑a1.Sess.length:Int)))) fun(x4,x5)=>
 br x5 (
 some false) <|
 bd (α:=Bool) (
 bd (pS_l14Wins m x4) fun x6=>
 br x6 (
 bd (pS_l14Sess m x4) fun x7=>
 br x7 (
 bd (pS_l14Panes m x4) fun x8=>
 some x8) <|
 some false) <|
 some false) fun x9=>
 some x9
theorem c19:CC (mo 19 [jS .iState] oB pS_StateOk):=mq (cs c73 (cs c74 (cs c75 (cs c76 cn)))) ⟨[(2,⟨[(1,.ptr 200 0)],[.sto 200 .iState [],eB 52]⟩),(4,⟨[],[eB 2]⟩)],[],[]⟩ Tryz.f19
def pS_TableOk_b1 (m:Nat):Lp (ITable×List Int×List IProc×Int×Int) (ITable⊕Bool):=fun(v5,v6,v7,v8,v9)=>
 br (decide (v9<v8)) (
 gd (0<=v9/\v9<(↑v7.length:Int)) <|
 bd v7[v9.toNat]? fun x10=>
 bd (α:=ITable×IProc×List Int×List IProc×Int×Int×Bool) (
 br (decide (x10.Pid<1)) (
 some (v5,x10,v6,v7,v8,v9,true)) <|
 br (decide (v5.Next<=x10.Pid)) (
 some (v5,x10,v6,v7,v8,v9,true)) <|
 br (decide (0<v9)) (
 gd (inK .i64 (v9-1)) <|
 gd (0<=v9-1/\v9-1<(↑v5.Live.length:Int)) <|
 bd (v5.Live[(v9-1).toNat]?) fun x11=>
 br (decide (x10.Pid<=x11.Pid)) (
 some (v5,x10,v6,v7,v8,v9,true)) <|
 br (decide (x10.Pane<1)) (
 some (v5,x10,v6,v7,v8,v9,true)) <|
 br (decide (1000000<x10.Pane)) (
 some (v5,x10,v6,v7,v8,v9,true)) <|
 bd (pS_l02HasInt m v6 x10.Pane) fun x12=>
 some (v5,x10,v6,v7,v8,v9,x12)) <|
 br (decide (x10.Pane<1)) (
 some (v5,x10,v6,v7,v8,v9,true)) <|
 br (decide (1000000<x10.Pane)) (
 some (v5,x10,v6,v7,v8,v9,true)) <|
 bd (pS_l02HasInt m v6 x10.Pane) fun x13=>
 some (v5,x10,v6,v7,v8,v9,x13)) fun(x14,x15,x16,x17,x18,x19,x20)=>
 br x20 (
 some (.inr (.inr false))) <|
 gd (roomB .int (x16++ [x15.Pane]).length) <|
 gd (inK .i64 (x19+1)) <|
 some (.inl (x14,x16++ [x15.Pane],x17,x18,x19+1))) <|
 some (.inr (.inl v5))
def pS_TableOk (m:Nat) (a1:ITable):Option Bool:=
 jn (V:=ITable) (
 loopF (pS_TableOk_b1 m) m (a1,[],a1.Live,(↑a1.Live.length:Int),0)) fun v3=>
 bd (α:=Bool) (
 br (decide (1<=v3.Next)) (
 some (decide (v3.Next<=1000000))) <|
 some false) fun x4=>
 some x4
theorem c20:CC (mo 20 [jS .iTable] oB pS_TableOk):=mq (cs c77 cn) ⟨[(5,⟨[(1,.ptr 200 0),(5,.ptr 600 0)],[.sto 200 .iTable [],.sto 600 .iProc [],eO 3 .int 700,eR 8 .iProc,eI 9,eI 10,eB 56]⟩),(9,⟨[],[eB 2]⟩)],[],[(3,true,⟨[(1,.ptr 200 0)],[.sto 200 .iTable [],eO 3 .int 700,eR 8 .iProc,eI 9,eI 10]⟩,0,⟨[(1,.ptr 200 0)],[.sto 200 .iTable []]⟩)]⟩ Tryz.f20
def pS_OpsOf_b1 (m:Nat):Lp (Int×List IHist×Int×Int) Int:=fun(v4,v5,v6,v7)=>
 br (decide (v7<v6)) (
 bd (α:=Int×List IHist×Int×Int) (
 gd (0<=v7/\v7<(↑v5.length:Int)) <|
 bd v5[v7.toNat]? fun x8=>
 br (!x8.Lost) (
 gd (inK .i64 (v4+1)) <|
 some (v4+1,v5,v6,v7)) <|
 some (v4,v5,v6,v7)) fun(x9,x10,x11,x12)=>
 gd (inK .i64 (x12+1)) <|
 some (.inl (x9,x10,x11,x12+1))) <|
 some (.inr v4)
def pS_OpsOf (m:Nat) (a1:List IHist):Option Int:=
 bd (α:=Int) (
 loopF (pS_OpsOf_b1 m) m (0,a1,(↑a1.length:Int),0)) fun x3=>
 some x3
theorem c21:CC (mo 21 [.row .iHist] oI pS_OpsOf):=mq cn ⟨[],[(7,false,⟨[],[eI 3,eR 6 .iHist,eI 7,eI 8]⟩)],[(3,false,⟨[],[eI 3,eR 6 .iHist,eI 7,eI 8]⟩,0,⟨[],[eI 3]⟩)]⟩ Tryz.f21
def pS_l22NoOp (m:Nat) (a1:IOp):Option Bool:=
 bd (α:=Bool) (
 br (a1.Kind==0) (
 br (a1.A==0) (
 br (a1.B==0) (
 br (a1.C==0) (
 br (decide (a1.Name=ByteArray.mk #[])) (
 br (decide (a1.Text=ByteArray.mk #[])) (
 br (decide (a1.Dir=ByteArray.mk #[])) (
 some ((↑a1.Data.length:Int)==0)) <|
 some false) <|
 some false) <|
 some false) <|
 some false) <|
 some false) <|
 some false) <|
 some false) fun x2=>
 some x2
theorem c22:CC (mo 22 [jS .iOp] oB pS_l22NoOp):=mq cn ⟨[(1,⟨[],[eB 2]⟩)],[],[]⟩ Tryz.f22
def pS_l16Has (m:Nat) (a1:Int):Option (List Bool):=
 bd (α:=Int×Bool) (
 br (a1==1) (
 some (a1,a1==1)) <|
 some (a1,a1==2)) fun(x2,x3)=>
 br x3 (
 some ([false,false,false,true,true,false])) <|
 br (x2==3) (
 some ([true,true,false,false,true,false])) <|
 br (x2==5) (
 some ([true,false,false,false,false,true])) <|
 bd (α:=Int×Bool) (
 br (x2==6) (
 some (x2,x2==6)) <|
 br (x2==9) (
 some (x2,x2==9)) <|
 br (x2==12) (
 some (x2,x2==12)) <|
 some (x2,x2==13)) fun(x4,x5)=>
 br x5 (
 some ([true,true,false,false,false,false])) <|
 br (x4==10) (
 some ([true,true,true,false,false,false])) <|
 br (x4==11) (
 some ([true,false,false,true,false,false])) <|
 some ([true,false,false,false,false,false])
theorem c78:CC (mo 78 [jI] (.one (.own .bool 99)) pS_l16Has):=mq cn ⟨[],[(4,false,⟨[],[eI 3,eB 4]⟩),(13,false,⟨[],[eI 3,eB 14]⟩)],[]⟩ Tryz.f78
def pS_l16In (m:Nat) (a1:Bool) (a2 a3 a4:Int):Option Bool:=
 br (!a1) (
 some (a2==0)) <|
 bd (α:=Bool) (
 br (decide (a3<=a2)) (
 some (decide (a2<=a4))) <|
 some false) fun x5=>
 some x5
theorem c79:CC (mo 79 [.B,jI,jI,jI] oB (q4 pS_l16In)):=mq cn ⟨[(3,⟨[],[eB 8]⟩)],[],[]⟩ Tryz.f79
def pS_OpOk (m:Nat) (a1:IOp):Option Bool:=
 bd (α:=IOp×Bool) (
 br (decide (a1.Kind<1)) (
 some (a1,true)) <|
 some (a1,decide (14<a1.Kind))) fun(x2,x3)=>
 br x3 (
 some false) <|
 bd (pS_l16Has m x2.Kind) fun x4=>
 bd (α:=IOp×List Bool×Int×Int×Int) (
 br (x2.Kind==12) (
 some (x2,x4,120,1,120)) <|
 br (x2.Kind==3) (
 some (x2,x4,1000000,0,1)) <|
 br (x2.Kind==6) (
 some (x2,x4,1000000,0,255)) <|
 br (x2.Kind==10) (
 some (x2,x4,1000000,68,85)) <|
 some (x2,x4,1000000,1,1000000)) fun(x5,x6,x7,x8,x9)=>
 bd (α:=IOp×List Bool×Bool) (
 gd ((0:Int)<=(0:Int)/\(0:Int)<(↑x6.length:Int)) <|
 bd (x6[0+Int.toNat 0]?) fun x10=>
 bd (pS_l16In m x10 x5.A 1 x7) fun x11=>
 br (!x11) (
 some (x5,x6,true)) <|
 gd ((0:Int)<=(1:Int)/\(1:Int)<(↑x6.length:Int)) <|
 bd (x6[0+Int.toNat 1]?) fun x12=>
 bd (pS_l16In m x12 x5.B x8 x9) fun x13=>
 br (!x13) (
 some (x5,x6,true)) <|
 gd ((0:Int)<=(2:Int)/\(2:Int)<(↑x6.length:Int)) <|
 bd (x6[0+Int.toNat 2]?) fun x14=>
 bd (pS_l16In m x14 x5.C 1 120) fun x15=>
 br (!x15) (
 some (x5,x6,true)) <|
 gd ((0:Int)<=(5:Int)/\(5:Int)<(↑x6.length:Int)) <|
 bd (x6[0+Int.toNat 5]?) fun x16=>
 bd (pS_l16In m x16 (↑x5.Data.length:Int) 1 2000) fun x17=>
 some (x5,x6,!x17)) fun(x18,x19,x20)=>
 br x20 (
 some false) <|
 bd (α:=IOp×List Bool×Bool) (
 br (x18.Kind==10) (
 br (x18.B !=76) (
 br (x18.B !=82) (
 br (x18.B !=85) (
 some (x18,x19,x18.B !=68)) <|
 some (x18,x19,false)) <|
 some (x18,x19,false)) <|
 some (x18,x19,false)) <|
 some (x18,x19,false)) fun(x21,x22,x23)=>
 br x23 (
 some false) <|
 bd (α:=IOp×Bool) (
 gd ((0:Int)<=(3:Int)/\(3:Int)<(↑x22.length:Int)) <|
 bd (x22[0+Int.toNat 3]?) fun x24=>
 br x24 (
 bd (pS_WordOk m x21.Name) fun x25=>
 br (!x25) (
 some (x21,true)) <|
 gd ((0:Int)<=(3:Int)/\(3:Int)<(↑x22.length:Int)) <|
 bd (x22[0+Int.toNat 3]?) fun x26=>
 br (!x26) (
 br (!decide (x21.Name=ByteArray.mk #[])) (
 some (x21,true)) <|
 gd ((0:Int)<=(4:Int)/\(4:Int)<(↑x22.length:Int)) <|
 bd (x22[0+Int.toNat 4]?) fun x27=>
 br (!x27) (
 br (!decide (x21.Text=ByteArray.mk #[])) (
 some (x21,true)) <|
 some (x21,!decide (x21.Dir=ByteArray.mk #[]))) <|
 some (x21,false)) <|
 gd ((0:Int)<=(4:Int)/\(4:Int)<(↑x22.length:Int)) <|
 bd (x22[0+Int.toNat 4]?) fun x28=>
 br (!x28) (
 br (!decide (x21.Text=ByteArray.mk #[])) (
 some (x21,true)) <|
 some (x21,!decide (x21.Dir=ByteArray.mk #[]))) <|
 some (x21,false)) <|
 gd ((0:Int)<=(3:Int)/\(3:Int)<(↑x22.length:Int)) <|
 bd (x22[0+Int.toNat 3]?) fun x29=>
 br (!x29) (
 br (!decide (x21.Name=ByteArray.mk #[])) (
 some (x21,true)) <|
 gd ((0:Int)<=(4:Int)/\(4:Int)<(↑x22.length:Int)) <|
 bd (x22[0+Int.toNat 4]?) fun x30=>
 br (!x30) (
 br (!decide (x21.Text=ByteArray.mk #[])) (
 some (x21,true)) <|
 some (x21,!decide (x21.Dir=ByteArray.mk #[]))) <|
 some (x21,false)) <|
 gd ((0:Int)<=(4:Int)/\(4:Int)<(↑x22.length:Int)) <|
 bd (x22[0+Int.toNat 4]?) fun x31=>
 br (!x31) (
 br (!decide (x21.Text=ByteArray.mk #[])) (
 some (x21,true)) <|
 some (x21,!decide (x21.Dir=ByteArray.mk #[]))) <|
 some (x21,false)) fun(x32,x33)=>
 br x33 (
 some false) <|
 bd (α:=Bool) (
 br (decide ((↑x32.Text.size:Int)<=60)) (
 some (decide ((↑x32.Dir.size:Int)<=60))) <|
 some false) fun x34=>
 some x34
theorem c23:CC (mo 23 [jS .iOp] oB pS_OpOk):=mq (cs c78 (cs c79 (cs c80 cn))) ⟨[(1,⟨[(1,.ptr 200 0)],[.sto 200 .iOp [],eB 14]⟩),(20,⟨[(1,.ptr 200 0)],[.sto 200 .iOp [],eO 3 .bool 18000000,eB 65]⟩),(22,⟨[(1,.ptr 200 0)],[.sto 200 .iOp [],eO 3 .bool 18000000,eB 88]⟩),(24,⟨[(1,.ptr 200 0)],[.sto 200 .iOp [],eB 124]⟩),(26,⟨[],[eB 2]⟩)],[(20,false,⟨[(1,.ptr 200 0)],[.sto 200 .iOp [],eO 3 .bool 18000000,eI 4,eI 5,eI 6]⟩)],[]⟩ Tryz.f23
def pS_l02Used_b1 (m:Nat):Lp (Int×List IFile×Int×Int) Int:=fun(v4,v5,v6,v7)=>
 br (decide (v7<v6)) (
 gd (0<=v7/\v7<(↑v5.length:Int)) <|
 bd v5[v7.toNat]? fun x8=>
 gd (inK .i64 (v4+(↑x8.Body.length:Int))) <|
 gd (inK .i64 (v7+1)) <|
 some (.inl (v4+(↑x8.Body.length:Int),v5,v6,v7+1))) <|
 some (.inr v4)
def pS_l02Used (m:Nat) (a1:IDisk):Option Int:=
 bd (α:=Int) (
 loopF (pS_l02Used_b1 m) m (0,a1.Files,(↑a1.Files.length:Int),0)) fun x3=>
 some x3
theorem c83:CC (mo 83 [jS .iDisk] oI pS_l02Used):=mq cn ⟨[],[],[(3,false,⟨[],[eI 3,eR 7 .iFile,eI 8,eI 9]⟩,0,⟨[],[eI 3]⟩)]⟩ Tryz.f83
def pS_NameOk_b1 (m:Nat):Lp (ByteArray×Int) (ByteArray⊕Bool):=fun(v5,v6)=>
 br (decide (v6<(↑v5.size:Int))) (
 bd (α:=ByteArray×Int×Bool) (
 gd (0<=v6) <|
 bd v5[v6.toNat]? fun x7=>
 br (decide ((↑x7.toNat:Int)<97)) (
 gd (0<=v6) <|
 bd v5[v6.toNat]? fun x8=>
 br (decide ((↑x8.toNat:Int)<48)) (
 gd (0<=v6) <|
 bd v5[v6.toNat]? fun x9=>
 some (v5,v6,(↑x9.toNat:Int) !=46)) <|
 gd (0<=v6) <|
 bd v5[v6.toNat]? fun x10=>
 br (decide (57<(↑x10.toNat:Int))) (
 gd (0<=v6) <|
 bd v5[v6.toNat]? fun x11=>
 some (v5,v6,(↑x11.toNat:Int) !=46)) <|
 some (v5,v6,false)) <|
 gd (0<=v6) <|
 bd v5[v6.toNat]? fun x12=>
 br (decide (122<(↑x12.toNat:Int))) (
 gd (0<=v6) <|
 bd v5[v6.toNat]? fun x13=>
 br (decide ((↑x13.toNat:Int)<48)) (
 gd (0<=v6) <|
 bd v5[v6.toNat]? fun x14=>
 some (v5,v6,(↑x14.toNat:Int) !=46)) <|
 gd (0<=v6) <|
 bd v5[v6.toNat]? fun x15=>
 br (decide (57<(↑x15.toNat:Int))) (
 gd (0<=v6) <|
 bd v5[v6.toNat]? fun x16=>
 some (v5,v6,(↑x16.toNat:Int) !=46)) <|
 some (v5,v6,false)) <|
 some (v5,v6,false)) fun(x17,x18,x19)=>
 br x19 (
 some (.inr (.inr false))) <|
 gd (inK .i64 (x18+1)) <|
 some (.inl (x17,x18+1))) <|
 some (.inr (.inl v5))
def pS_NameOk (m:Nat) (a1:ByteArray):Option Bool:=
 jn (V:=ByteArray) (
 loopF (pS_NameOk_b1 m) m (a1,0)) fun v3=>
 bd (α:=Bool) (
 br (decide (1<=(↑v3.size:Int))) (
 some (decide ((↑v3.size:Int)<=16))) <|
 some false) fun x4=>
 some x4
theorem c84:CC (mo 84 [.S] oB pS_NameOk):=mq cn ⟨[(4,⟨[],[eS 0,eI 3,eB 37]⟩),(6,⟨[],[eB 2]⟩)],[],[(2,true,⟨[],[eS 0,eI 3]⟩,0,⟨[],[eS 0]⟩)]⟩ Tryz.f84
def pS_l02Ids_b2 (m:Nat):Lp (List Int×List ITurn×Int×Int) (List Int):=fun(v13,v14,v15,v16)=>
 br (decide (v16<v15)) (
 bd (α:=List Int×List ITurn×Int×Int) (
 gd (0<=v16/\v16<(↑v14.length:Int)) <|
 bd v14[v16.toNat]? fun x17=>
 br (x17.Kind==1) (
 gd (roomB .int (v13++ [x17.Id]).length) <|
 some (v13++ [x17.Id],v14,v15,v16)) <|
 some (v13,v14,v15,v16)) fun(x18,x19,x20,x21)=>
 gd (inK .i64 (x21+1)) <|
 some (.inl (x18,x19,x20,x21+1))) <|
 some (.inr v13)
def pS_l02Ids_b1 (m:Nat):Lp (IDisk×List Int×List ILink×Int×Int) (IDisk×List Int):=fun(v7,v8,v9,v10,v11)=>
 br (decide (v11<v10)) (
 gd (0<=v11/\v11<(↑v9.length:Int)) <|
 bd v9[v11.toNat]? fun x12=>
 gd (roomB .int (v8++ [x12.Id]).length) <|
 gd (inK .i64 (v11+1)) <|
 some (.inl (v7,v8++ [x12.Id],v9,v10,v11+1))) <|
 some (.inr (v7,v8))
def pS_l02Ids (m:Nat) (a1:IDisk):Option (List Int):=
 bd (α:=IDisk×List Int) (
 loopF (pS_l02Ids_b1 m) m (a1,[],a1.Kept,(↑a1.Kept.length:Int),0)) fun(x3,x4)=>
 bd (α:=List Int) (
 loopF (pS_l02Ids_b2 m) m (x4,x3.Turns,(↑x3.Turns.length:Int),0)) fun x6=>
 some x6
theorem c85:CC (mo 85 [jS .iDisk] (.one (.own .int 99)) pS_l02Ids):=mq cn ⟨[],[(12,false,⟨[],[eO 3 .int 900,eR 23 .iTurn,eI 24,eI 25]⟩)],[(3,false,⟨[(1,.ptr 200 0)],[.sto 200 .iDisk [],eO 3 .int 900,eR 10 .iLink,eI 11,eI 12]⟩,0,⟨[(1,.ptr 200 0)],[.sto 200 .iDisk [],eO 3 .int 900]⟩),(8,false,⟨[],[eO 3 .int 900,eR 23 .iTurn,eI 24,eI 25]⟩,2,⟨[],[eO 3 .int 900]⟩)]⟩ Tryz.f85
def pS_l02Find_b1 (m:Nat):Lp (ByteArray×List ILink×Int×Int) (Unit⊕Int):=fun(v4,v5,v6,v7)=>
 br (decide (v7<v6)) (
 gd (0<=v7/\v7<(↑v5.length:Int)) <|
 bd v5[v7.toNat]? fun x8=>
 br (decide (x8.Name=v4)) (
 some (.inr (.inr x8.Id))) <|
 gd (inK .i64 (v7+1)) <|
 some (.inl (v4,v5,v6,v7+1))) <|
 some (.inr (.inl ()))
def pS_l02Find (m:Nat) (a1:List ILink) (a2:ByteArray):Option Int:=
 jn (V:=Unit) (
 loopF (pS_l02Find_b1 m) m (a2,a1,(↑a1.length:Int),0)) fun _=>
 some 0
theorem c158:CC (mo 158 [.row .iLink,.S] oI (q2 pS_l02Find)):=mq cn ⟨[],[],[(2,true,⟨[],[eS 1,eR 7 .iLink,eI 8,eI 9]⟩,0,⟨[],[]⟩)]⟩ Tryz.f158
def pS_l02TurnOk (m:Nat) (a1:List ILink) (a2:ITurn):Option Bool:=
 bd (pS_l02Find m a1 a2.Name) fun x3=>
 bd (pS_NameOk m a2.Name) fun x4=>
 br (!x4) (
 some false) <|
 br (a2.Kind==1) (
 bd (α:=Bool) (
 br (decide (a2.To=ByteArray.mk #[])) (
 br (decide (0<a2.Id)) (
 some (!decide (0<x3))) <|
 some false) <|
 some false) fun x5=>
 some x5) <|
 br (a2.Kind==4) (
 bd (α:=Bool) (
 bd (pS_NameOk m a2.To) fun x6=>
 br x6 (
 br (!decide (a2.To=a2.Name)) (
 br (a2.Id==0) (
 some (decide (0<x3))) <|
 some false) <|
 some false) <|
 some false) fun x7=>
 some x7) <|
 br (a2.Kind==5) (
 bd (α:=Bool) (
 br (decide (a2.To=ByteArray.mk #[])) (
 br (a2.Id==0) (
 some (decide (0<x3))) <|
 some false) <|
 some false) fun x8=>
 some x8) <|
 some false
theorem c86:CC (mo 86 [.row .iLink,jS .iTurn] oB (q2 pS_l02TurnOk)):=mq (cs c158 (cs c84 cn)) ⟨[(6,⟨[],[eB 4]⟩),(8,⟨[],[eB 4]⟩),(10,⟨[],[eB 4]⟩)],[],[]⟩ Tryz.f86
def pS_l02With_b1 (m:Nat):Lp (ByteArray×Int×List ILink×Bool×List ILink×Int×Int) (ByteArray×Int×List ILink×Bool):=fun(v10,v11,v12,v13,v14,v15,v16)=>
 br (decide (v16<v15)) (
 gd (0<=v16/\v16<(↑v14.length:Int)) <|
 bd v14[v16.toNat]? fun x17=>
 bd (α:=ILink×ByteArray×Int×List ILink×Bool×List ILink×Int×Int) (
 bd (α:=ILink×ByteArray×Int×List ILink×Bool×List ILink×Int×Int×Bool) (
 br (!v13) (
 some (x17,v10,v11,v12,v13,v14,v15,v16,!(Op.bytesLess x17.Name.toList v10.toList||decide (x17.Name=v10)))) <|
 some (x17,v10,v11,v12,v13,v14,v15,v16,false)) fun(x18,x19,x20,x21,x22,x23,x24,x25,x26)=>
 br x26 (
 gd (roomB .iLink (x21++ [ILink.mk x19 x20]).length) <|
 some (x18,x19,x20,x21++ [ILink.mk x19 x20],true,x23,x24,x25)) <|
 some (x18,x19,x20,x21,x22,x23,x24,x25)) fun(x27,x28,x29,x30,x31,x32,x33,x34)=>
 gd (roomB .iLink (x30++ [x27]).length) <|
 gd (inK .i64 (x34+1)) <|
 some (.inl (x28,x29,x30++ [x27],x31,x32,x33,x34+1))) <|
 some (.inr (v10,v11,v12,v13))
def pS_l02With (m:Nat) (a1:List ILink) (a2:ByteArray) (a3:Int):Option (List ILink):=
 bd (α:=ByteArray×Int×List ILink×Bool) (
 loopF (pS_l02With_b1 m) m (a2,a3,[],false,a1,(↑a1.length:Int),0)) fun(x5,x6,x7,x8)=>
 bd (α:=List ILink) (
 br (!x8) (
 gd (roomB .iLink (x7++ [ILink.mk x5 x6]).length) <|
 some (x7++ [ILink.mk x5 x6])) <|
 some x7) fun x9=>
 some x9
theorem c162:CC (mo 162 [.row .iLink,.S,jI] (.one (.own .iLink 99)) (q3 pS_l02With)):=mq cn ⟨[(6,⟨[(10,.ptr 1100 0)],[.sto 1100 .iLink [],eS 1,eI 2,eO 7 .iLink 1200,eB 8,eR 12 .iLink,eI 13,eI 14,eB 25]⟩)],[(9,false,⟨[(10,.ptr 1100 0)],[.sto 1100 .iLink [],eS 1,eI 2,eO 7 .iLink 1200,eB 8,eR 12 .iLink,eI 13,eI 14]⟩),(13,false,⟨[],[eO 7 .iLink 1200]⟩)],[(4,false,⟨[],[eS 1,eI 2,eO 7 .iLink 1200,eB 8,eR 12 .iLink,eI 13,eI 14]⟩,0,⟨[],[eS 1,eI 2,eO 7 .iLink 1200,eB 8]⟩)]⟩ Tryz.f162
def pS_l02Less_b1 (m:Nat):Lp (ByteArray×List ILink×List ILink×Int×Int) (List ILink):=fun(v5,v6,v7,v8,v9)=>
 br (decide (v9<v8)) (
 bd (α:=ByteArray×List ILink×List ILink×Int×Int) (
 gd (0<=v9/\v9<(↑v7.length:Int)) <|
 bd v7[v9.toNat]? fun x10=>
 br (!decide (x10.Name=v5)) (
 gd (roomB .iLink (v6++ [x10]).length) <|
 some (v5,v6++ [x10],v7,v8,v9)) <|
 some (v5,v6,v7,v8,v9)) fun(x11,x12,x13,x14,x15)=>
 gd (inK .i64 (x15+1)) <|
 some (.inl (x11,x12,x13,x14,x15+1))) <|
 some (.inr v6)
def pS_l02Less (m:Nat) (a1:List ILink) (a2:ByteArray):Option (List ILink):=
 bd (α:=List ILink) (
 loopF (pS_l02Less_b1 m) m (a2,[],a1,(↑a1.length:Int),0)) fun x4=>
 some x4
theorem c163:CC (mo 163 [.row .iLink,.S] (.one (.own .iLink 99)) (q2 pS_l02Less)):=mq cn ⟨[],[(7,false,⟨[],[eS 1,eO 5 .iLink 900,eR 9 .iLink,eI 10,eI 11]⟩)],[(3,false,⟨[],[eS 1,eO 5 .iLink 900,eR 9 .iLink,eI 10,eI 11]⟩,0,⟨[],[eO 5 .iLink 900]⟩)]⟩ Tryz.f163
def pS_l02Turn (m:Nat) (a1:List ILink) (a2:ITurn):Option (List ILink):=
 br (a2.Kind==1) (
 bd (pS_l02With m a1 a2.Name a2.Id) fun x3=>
 some x3) <|
 bd (pS_l02Find m a1 a2.Name) fun x4=>
 bd (pS_l02Less m a1 a2.Name) fun x5=>
 bd (α:=List ILink) (
 br (a2.Kind==4) (
 bd (pS_l02Less m x5 a2.To) fun x6=>
 bd (pS_l02With m x6 a2.To x4) fun x7=>
 some x7) <|
 some x5) fun x8=>
 some x8
theorem c87:CC (mo 87 [.row .iLink,jS .iTurn] (.one (.own .iLink 99)) (q2 pS_l02Turn)):=mq (cs c162 (cs c158 (cs c163 cn))) ⟨[],[(7,false,⟨[],[eO 0 .iLink 34000000]⟩)],[]⟩ Tryz.f87
def pS_DiskOk_b4 (m:Nat):Lp (List ILink×List ITurn×Int×Int) (Unit⊕Bool):=fun(v57,v58,v59,v60)=>
 br (decide (v60<v59)) (
 gd (0<=v60/\v60<(↑v58.length:Int)) <|
 bd v58[v60.toNat]? fun x61=>
 bd (pS_l02TurnOk m v57 x61) fun x62=>
 br (!x62) (
 some (.inr (.inr false))) <|
 bd (pS_l02Turn m v57 x61) fun x63=>
 gd (inK .i64 (v60+1)) <|
 some (.inl (x63,v58,v59,v60+1))) <|
 some (.inr (.inl ()))
def pS_DiskOk_b3 (m:Nat):Lp (IDisk×List Int×List Int×Int×Int) (IDisk⊕Bool):=fun(v43,v44,v45,v46,v47)=>
 br (decide (v47<v46)) (
 gd (0<=v47/\v47<(↑v45.length:Int)) <|
 bd (v45[0+v47.toNat]?) fun x48=>
 bd (α:=IDisk×List Int×List Int×Int×Int×Bool) (
 gd (0<=v47/\v47<=(↑v45.length:Int)) <|
 bd (pS_l02HasInt m (viewL false v45 (0+0) (v47.toNat-0)) x48) fun x49=>
 br x49 (
 some (v43,v44,v45,v46,v47,true)) <|
 bd (pS_l02HasInt m v44 x48) fun x50=>
 some (v43,v44,v45,v46,v47,!x50)) fun(x51,x52,x53,x54,x55,x56)=>
 br x56 (
 some (.inr (.inr false))) <|
 gd (inK .i64 (x55+1)) <|
 some (.inl (x51,x52,x53,x54,x55+1))) <|
 some (.inr (.inl v43))
def pS_DiskOk_b2 (m:Nat):Lp (IDisk×List Int×List ILink×Int×Int) (IDisk×List Int⊕Bool):=fun(v29,v30,v31,v32,v33)=>
 br (decide (v33<v32)) (
 gd (0<=v33/\v33<(↑v31.length:Int)) <|
 bd v31[v33.toNat]? fun x34=>
 bd (α:=IDisk×List Int×List ILink×Int×Int×Bool) (
 bd (pS_NameOk m x34.Name) fun x35=>
 br (!x35) (
 some (v29,v30,v31,v32,v33,true)) <|
 br (decide (0<v33)) (
 gd (inK .i64 (v33-1)) <|
 gd (0<=v33-1/\v33-1<(↑v29.Kept.length:Int)) <|
 bd (v29.Kept[(v33-1).toNat]?) fun x36=>
 some (v29,v30,v31,v32,v33,!Op.bytesLess x36.Name.toList x34.Name.toList)) <|
 some (v29,v30,v31,v32,v33,false)) fun(x37,x38,x39,x40,x41,x42)=>
 br x42 (
 some (.inr (.inr false))) <|
 gd (inK .i64 (x41+1)) <|
 some (.inl (x37,x38,x39,x40,x41+1))) <|
 some (.inr (.inl (v29,v30)))
def pS_DiskOk_b1 (m:Nat):Lp (IDisk×List Int×List IFile×Int×Int) (IDisk×List Int⊕Bool):=fun(v15,v16,v17,v18,v19)=>
 br (decide (v19<v18)) (
 gd (0<=v19/\v19<(↑v17.length:Int)) <|
 bd v17[v19.toNat]? fun x20=>
 bd (α:=IDisk×IFile×List Int×List IFile×Int×Int×Bool) (
 br (decide (x20.Id<1)) (
 some (v15,x20,v16,v17,v18,v19,true)) <|
 br (decide (v15.Next<=x20.Id)) (
 some (v15,x20,v16,v17,v18,v19,true)) <|
 br (decide (0<v19)) (
 gd (inK .i64 (v19-1)) <|
 gd (0<=v19-1/\v19-1<(↑v15.Files.length:Int)) <|
 bd (v15.Files[(v19-1).toNat]?) fun x21=>
 br (decide (x20.Id<=x21.Id)) (
 some (v15,x20,v16,v17,v18,v19,true)) <|
 br (decide (x20.Safe<0)) (
 some (v15,x20,v16,v17,v18,v19,true)) <|
 some (v15,x20,v16,v17,v18,v19,decide ((↑x20.Body.length:Int)<x20.Safe))) <|
 br (decide (x20.Safe<0)) (
 some (v15,x20,v16,v17,v18,v19,true)) <|
 some (v15,x20,v16,v17,v18,v19,decide ((↑x20.Body.length:Int)<x20.Safe))) fun(x22,x23,x24,x25,x26,x27,x28)=>
 br x28 (
 some (.inr (.inr false))) <|
 gd (roomB .int (x24++ [x23.Id]).length) <|
 gd (inK .i64 (x27+1)) <|
 some (.inl (x22,x24++ [x23.Id],x25,x26,x27+1))) <|
 some (.inr (.inl (v15,v16)))
def pS_DiskOk (m:Nat) (a1:IDisk):Option Bool:=
 bd (α:=IDisk×Bool) (
 br (decide (a1.Room<0)) (
 some (a1,true)) <|
 br (decide (400000<a1.Room)) (
 some (a1,true)) <|
 br (decide (a1.Fuse< -1)) (
 some (a1,true)) <|
 br (decide (1000<a1.Fuse)) (
 some (a1,true)) <|
 br (decide (a1.Next<1)) (
 some (a1,true)) <|
 br (decide (1000000<a1.Next)) (
 some (a1,true)) <|
 br (decide (10<(↑a1.Files.length:Int))) (
 some (a1,true)) <|
 br (decide (10<(↑a1.Kept.length:Int))) (
 some (a1,true)) <|
 br (decide (30<(↑a1.Turns.length:Int))) (
 some (a1,true)) <|
 bd (pS_l02Used m a1) fun x2=>
 some (a1,decide (a1.Room<x2))) fun(x3,x4)=>
 br x4 (
 some false) <|
 jn (V:=IDisk×List Int) (
 loopF (pS_DiskOk_b1 m) m (x3,[],x3.Files,(↑x3.Files.length:Int),0)) fun(v6,v7)=>
 jn (V:=IDisk×List Int) (
 loopF (pS_DiskOk_b2 m) m (v6,v7,v6.Kept,(↑v6.Kept.length:Int),0)) fun(v9,v10)=>
 bd (pS_l02Ids m v9) fun x11=>
 br ((↑x11.length:Int) !=(↑v10.length:Int)) (
 some false) <|
 jn (V:=IDisk) (
 loopF (pS_DiskOk_b3 m) m (v9,v10,x11,(↑x11.length:Int),0)) fun v13=>
 jn (V:=Unit) (
 loopF (pS_DiskOk_b4 m) m (v13.Kept,v13.Turns,(↑v13.Turns.length:Int),0)) fun _=>
 some true
theorem c27:CC (mo 27 [jS .iDisk] oB pS_DiskOk):=mq (cs c83 (cs c84 (cs c85 (cs c77 (cs c86 (cs c87 cn)))))) ⟨[(1,⟨[(1,.ptr 200 0)],[.sto 200 .iDisk [],eB 66]⟩),(7,⟨[(1,.ptr 200 0),(5,.ptr 600 0)],[.sto 200 .iDisk [],.sto 600 .iFile [],eO 3 .int 6800,eR 69 .iFile,eI 70,eI 71,eB 114]⟩),(14,⟨[(1,.ptr 200 0)],[.sto 200 .iDisk [],eO 3 .int 6800,eR 122 .iLink,eI 123,eI 124,eB 148]⟩),(23,⟨[(1,.ptr 200 0),(157,.ref 152000000)],[.sto 200 .iDisk [],eO 3 .int 6800,eO 8 .int 152000000,eI 158,eI 159,eB 174]⟩)],[],[(5,true,⟨[(1,.ptr 200 0)],[.sto 200 .iDisk [],eO 3 .int 6800,eR 69 .iFile,eI 70,eI 71]⟩,0,⟨[(1,.ptr 200 0)],[.sto 200 .iDisk [],eO 3 .int 6800]⟩),(12,true,⟨[(1,.ptr 200 0)],[.sto 200 .iDisk [],eO 3 .int 6800,eR 122 .iLink,eI 123,eI 124]⟩,2,⟨[(1,.ptr 200 0)],[.sto 200 .iDisk [],eO 3 .int 6800]⟩),(21,true,⟨[(1,.ptr 200 0),(157,.ref 152000000)],[.sto 200 .iDisk [],eO 3 .int 6800,eO 8 .int 152000000,eI 158,eI 159]⟩,4,⟨[(1,.ptr 200 0)],[.sto 200 .iDisk []]⟩),(28,true,⟨[],[eR 11 .iLink,eR 179 .iTurn,eI 180,eI 181]⟩,6,⟨[],[]⟩)]⟩ Tryz.f27
def pS_l02Dir_b1 (m:Nat):Lp (IDisk×Int×List ILink×Int) (List ILink):=fun(v5,v6,v7,v8)=>
 br (decide (v8<v6)) (
 gd (0<=v8/\v8<(↑v5.Turns.length:Int)) <|
 bd v5.Turns[v8.toNat]? fun x9=>
 bd (pS_l02Turn m v7 x9) fun x10=>
 gd (inK .i64 (v8+1)) <|
 some (.inl (v5,v6,x10,v8+1))) <|
 some (.inr v7)
def pS_l02Dir (m:Nat) (a1:IDisk) (a2:Int):Option (List ILink):=
 gd (roomB .iLink ([]++a1.Kept).length) <|
 bd (α:=List ILink) (
 loopF (pS_l02Dir_b1 m) m (a1,a2,[]++a1.Kept,0)) fun x4=>
 some x4
theorem c225:CC (mo 225 [jS .iDisk,jI] (.one (.own .iLink 99)) (q2 pS_l02Dir)):=mq (cs c87 cn) ⟨[],[],[(3,false,⟨[(2,.ptr 300 0)],[.sto 300 .iDisk [],eI 1,eO 5 .iLink 800,eI 6]⟩,0,⟨[],[eO 5 .iLink 800]⟩)]⟩ Tryz.f225
def pS_DiskDir (m:Nat) (a1:IDisk):Option (List ILink):=
 bd (pS_DiskOk m a1) fun x2=>
 br (!x2) (
 some []) <|
 bd (pS_l02Dir m a1 (↑a1.Turns.length:Int)) fun x3=>
 some x3
theorem c159:CC (mo 159 [jS .iDisk] (.one (.own .iLink 99)) pS_DiskDir):=mq (cs c27 (cs c225 cn)) tn Tryz.f159
def pS_l02At_b1 (m:Nat):Lp (Int×List IFile×Int×Int) (Unit⊕Int):=fun(v4,v5,v6,v7)=>
 br (decide (v7<v6)) (
 gd (0<=v7/\v7<(↑v5.length:Int)) <|
 bd v5[v7.toNat]? fun x8=>
 br (x8.Id==v4) (
 some (.inr (.inr v7))) <|
 gd (inK .i64 (v7+1)) <|
 some (.inl (v4,v5,v6,v7+1))) <|
 some (.inr (.inl ()))
def pS_l02At (m:Nat) (a1:IDisk) (a2:Int):Option Int:=
 jn (V:=Unit) (
 loopF (pS_l02At_b1 m) m (a2,a1.Files,(↑a1.Files.length:Int),0)) fun _=>
 some (-1)
theorem c160:CC (mo 160 [jS .iDisk,jI] oI (q2 pS_l02At)):=mq cn ⟨[],[],[(2,true,⟨[],[eI 1,eR 8 .iFile,eI 9,eI 10]⟩,0,⟨[],[]⟩)]⟩ Tryz.f160
def pS_DiskRead (m:Nat) (a1:IDisk) (a2:ByteArray):Option (List UInt8×Bool):=
 bd (pS_DiskDir m a1) fun x3=>
 bd (pS_l02Find m x3 a2) fun x4=>
 br (x4==0) (
 some ([],false)) <|
 bd (pS_l02At m a1 x4) fun x5=>
 gd (0<=x5/\x5<(↑a1.Files.length:Int)) <|
 bd a1.Files[x5.toNat]? fun x6=>
 gd (roomB .u8 ([]++x6.Body).length) <|
 some ([]++x6.Body,true)
theorem c81:CC (mo 81 [jS .iDisk,.S] (.tup [.own .u8 99,.B]) (q2 pS_DiskRead)):=mq (cs c159 (cs c158 (cs c160 cn))) tn Tryz.f81
def pS_l01Num (m:Nat) (a1:Int):Option Bool:=
 bd (α:=Bool) (
 br (decide (0<=a1)) (
 some (decide (a1<=4294967295))) <|
 some false) fun x2=>
 some x2
theorem c268:CC (mo 268 [jI] oB pS_l01Num):=mq cn ⟨[(1,⟨[],[eB 2]⟩)],[],[]⟩ Tryz.f268
def pS_NumText (m:Nat) (slf:Int->Option ByteArray):Int->Option ByteArray:=fun a1=>
 bd (pS_l01Num m a1) fun x2=>
 br (!x2) (
 some (ByteArray.mk #[])) <|
 br (decide (a1<10)) (
 gd (inK .i64 (48+a1)) <|
 some (ByteArray.mk #[UInt8.ofNat (IntKind.u8.wrap (48+a1)).toNat])) <|
 gd ((10:Int)≠(0:Int)) <|
 gd (inK .i64 (a1.tdiv 10)) <|
 bd (slf (a1.tdiv 10)) fun x3=>
 gd ((10:Int)≠(0:Int)) <|
 gd (inK .i64 (48+a1.tmod 10)) <|
 gd (x3.size+(ByteArray.mk #[UInt8.ofNat (IntKind.u8.wrap (48+a1.tmod 10)).toNat]).size<=9223372036854775807) <|
 some (x3++ByteArray.mk #[UInt8.ofNat (IntKind.u8.wrap (48+a1.tmod 10)).toNat])
def o226 (m:Nat):Orc:=⟨226,[none],[.I .i64],0,(.one .S),recF (pS_NumText m) m⟩
theorem c226 {E:World->Prop} (hcl:Cl G E) (m:Nat):Ctr Tryz.prog G E (o226 m):=Ctr.rec (fun slf h=>Ctr.mk (o:=⟨226,[none],[.I .i64],0,(.one .S),pS_NumText m slf⟩) (csc h (csc (c268 hcl m) csn)) facts mixed hcl.cl tn m (fn:=Tryz.f226) (by kernel_rfl) rfl (by kernel_rfl) (fun _=>by kernel_rfl) (fun _ _=>by kernel_rfl) (fun _=>by kernel_rfl)) m
def pS_l04Name (m:Nat) (a1:ByteArray) (a2:Int):Option ByteArray:=
 bd (α:=ByteArray×Int×Bool) (
 br (decide (a2<1)) (
 some (a1,a2,true)) <|
 some (a1,a2,decide (1000000000<a2))) fun(x3,x4,x5)=>
 br x5 (
 some (ByteArray.mk #[])) <|
 bd (recF (pS_NumText m) m x4) fun x6=>
 gd (x3.size+x6.size<=9223372036854775807) <|
 some (x3++x6)
theorem c161:CC (mo 161 [.S,jI] (.one .S) (q2 pS_l04Name)):=mq (cs c226 cn) ⟨[(1,⟨[],[eS 0,eI 1,eB 10]⟩)],[],[]⟩ Tryz.f161
def pS_LogName (m:Nat) (a1:Int):Option ByteArray:=
 bd (pS_l04Name m (ByteArray.mk #[108,111,103,46]) a1) fun x2=>
 some x2
theorem c82:CC (mo 82 [jI] (.one .S) pS_LogName):=mq (cs c161 cn) tn Tryz.f82
def pS_DepotOk (m:Nat) (a1:IDepot):Option Bool:=
 bd (α:=IDepot×Bool) (
 bd (pS_DiskOk m a1.Disk) fun x2=>
 br (!x2) (
 some (a1,true)) <|
 br (decide (a1.Gen<1)) (
 some (a1,true)) <|
 br (decide (1000000000<a1.Gen)) (
 some (a1,true)) <|
 br (decide (a1.Seq<1)) (
 some (a1,true)) <|
 br (decide (1000000001<a1.Seq)) (
 some (a1,true)) <|
 some (a1,decide (a1.Size<0))) fun(x3,x4)=>
 br x4 (
 some false) <|
 bd (α:=IDepot×Bool) (
 br (x3.Disk.Fuse==0) (
 some (x3,true)) <|
 some (x3,x3.Stuck)) fun(x5,x6)=>
 br x6 (
 some true) <|
 bd (pS_LogName m x5.Gen) fun x7=>
 bd (pS_DiskRead m x5.Disk x7) fun(x8,x9)=>
 bd (α:=Bool) (
 br x9 (
 some ((↑x8.length:Int)==x5.Size)) <|
 some false) fun x10=>
 some x10
theorem c24:CC (mo 24 [jS .iDepot] oB pS_DepotOk):=mq (cs c27 (cs c82 (cs c81 cn))) ⟨[(1,⟨[(1,.ptr 200 0)],[.sto 200 .iDepot [],eB 33]⟩),(3,⟨[(1,.ptr 200 0)],[.sto 200 .iDepot [],eB 41]⟩),(6,⟨[],[eB 2]⟩)],[],[]⟩ Tryz.f24
def pS_l22NoDisk (m:Nat) (a1:IDisk):Option Bool:=
 bd (α:=Bool) (
 br (a1.Room==0) (
 br (a1.Fuse==0) (
 br (a1.Next==0) (
 br ((↑a1.Files.length:Int)==0) (
 br ((↑a1.Kept.length:Int)==0) (
 some ((↑a1.Turns.length:Int)==0)) <|
 some false) <|
 some false) <|
 some false) <|
 some false) <|
 some false) fun x2=>
 some x2
theorem c25:CC (mo 25 [jS .iDisk] oB pS_l22NoDisk):=mq cn ⟨[(1,⟨[],[eB 2]⟩)],[],[]⟩ Tryz.f25
def pS_l22NoState (m:Nat) (a1:IState):Option Bool:=
 bd (α:=Bool) (
 br (a1.W==0) (
 br (a1.H==0) (
 br (a1.Limit==0) (
 br (a1.Next==0) (
 br ((↑a1.Panes.length:Int)==0) (
 br ((↑a1.Wins.length:Int)==0) (
 some ((↑a1.Sess.length:Int)==0)) <|
 some false) <|
 some false) <|
 some false) <|
 some false) <|
 some false) <|
 some false) fun x2=>
 some x2
theorem c26:CC (mo 26 [jS .iState] oB pS_l22NoState):=mq cn ⟨[(1,⟨[],[eB 2]⟩)],[],[]⟩ Tryz.f26
def pS_SrvOk_b1 (m:Nat):Lp (ISrv×List IHist×Int×Int) (ISrv⊕Bool):=fun(v18,v19,v20,v21)=>
 br (decide (v21<v20)) (
 gd (0<=v21/\v21<(↑v19.length:Int)) <|
 bd v19[v21.toNat]? fun x22=>
 bd (α:=ISrv×List IHist×Int×Int×Bool) (
 br x22.Lost (
 bd (pS_l22NoOp m x22.Op) fun x23=>
 br (!x23) (
 some (v18,v19,v20,v21,true)) <|
 br (!x22.Lost) (
 bd (pS_OpOk m x22.Op) fun x24=>
 some (v18,v19,v20,v21,!x24)) <|
 some (v18,v19,v20,v21,false)) <|
 br (!x22.Lost) (
 bd (pS_OpOk m x22.Op) fun x25=>
 some (v18,v19,v20,v21,!x25)) <|
 some (v18,v19,v20,v21,false)) fun(x26,x27,x28,x29,x30)=>
 br x30 (
 some (.inr (.inr false))) <|
 gd (inK .i64 (x29+1)) <|
 some (.inl (x26,x27,x28,x29+1))) <|
 some (.inr (.inl v18))
def pS_SrvOk (m:Nat) (a1:ISrv):Option Bool:=
 bd (α:=ISrv×Bool) (
 bd (pS_StateOk m a1.Base) fun x2=>
 br (!x2) (
 some (a1,true)) <|
 br (decide (0<(↑a1.Base.Panes.length:Int))) (
 some (a1,true)) <|
 br (decide (a1.Top<0)) (
 some (a1,true)) <|
 br (decide (400000<a1.Top)) (
 some (a1,true)) <|
 bd (pS_TableOk m a1.Tab) fun x3=>
 br (!x3) (
 some (a1,true)) <|
 br (decide (a1.Sure<0)) (
 some (a1,true)) <|
 bd (pS_OpsOf m a1.Done) fun x4=>
 some (a1,decide (x4<a1.Sure))) fun(x5,x6)=>
 br x6 (
 some false) <|
 jn (V:=ISrv) (
 loopF (pS_SrvOk_b1 m) m (x5,x5.Done,(↑x5.Done.length:Int),0)) fun v8=>
 br v8.Up (
 bd (α:=Bool) (
 bd (pS_StateOk m v8.St) fun x9=>
 br x9 (
 bd (pS_DepotOk m v8.Dep) fun x10=>
 br x10 (
 bd (pS_l22NoDisk m v8.Disk) fun x11=>
 br x11 (
 bd (pS_OpsOf m v8.Done) fun x12=>
 gd (inK .i64 (x12+1)) <|
 some (v8.Dep.Seq==x12+1)) <|
 some false) <|
 some false) <|
 some false) fun x13=>
 some x13) <|
 bd (α:=Bool) (
 bd (pS_l22NoState m v8.St) fun x14=>
 br x14 (
 bd (pS_l22NoDisk m v8.Dep.Disk) fun x15=>
 br x15 (
 br (v8.Dep.Gen==0) (
 br (v8.Dep.Seq==0) (
 br (v8.Dep.Size==0) (
 br (!v8.Dep.Stuck) (
 bd (pS_DiskOk m v8.Disk) fun x16=>
 br x16 (
 some ((↑v8.Tab.Live.length:Int)==0)) <|
 some false) <|
 some false) <|
 some false) <|
 some false) <|
 some false) <|
 some false) <|
 some false) fun x17=>
 some x17
theorem c6:CC (mo 6 [jS .iSrv] oB pS_SrvOk):=mq (cs c19 (cs c20 (cs c21 (cs c22 (cs c23 (cs c24 (cs c25 (cs c26 (cs c27 cn))))))))) ⟨[(1,⟨[(1,.ptr 200 0)],[.sto 200 .iSrv [],eB 44]⟩),(6,⟨[(1,.ptr 200 0)],[.sto 200 .iSrv [],eR 46 .iHist,eI 47,eI 48,eB 70]⟩),(10,⟨[],[eB 2]⟩),(11,⟨[],[eB 2]⟩)],[],[(4,true,⟨[(1,.ptr 200 0)],[.sto 200 .iSrv [],eR 46 .iHist,eI 47,eI 48]⟩,0,⟨[(1,.ptr 200 0)],[.sto 200 .iSrv []]⟩)]⟩ Tryz.f6
def pI_within (m:Nat) (a1 a2 a3:Int):Option Bool:=
 bd (α:=Bool) (
 br (decide (a2<=a1)) (
 some (decide (a1<=a3))) <|
 some false) fun x4=>
 some x4
theorem c34:CC (mo 34 [jI,jI,jI] oB (q3 pI_within)):=mq cn ⟨[(1,⟨[],[eB 6]⟩)],[],[]⟩ Tryz.f34
def pI_isSize (m:Nat) (a1 a2:Int):Option Bool:=
 bd (α:=Bool) (
 bd (pI_within m a1 1 120) fun x3=>
 br x3 (
 bd (pI_within m a2 1 120) fun x4=>
 br x4 (
 gd (inK .i64 (a1*a2)) <|
 some (decide (a1*a2<=4000))) <|
 some false) <|
 some false) fun x5=>
 some x5
theorem c97:CC (mo 97 [jI,jI] oB (q2 pI_isSize)):=mq (cs c34 cn) ⟨[(1,⟨[],[eB 4]⟩)],[],[]⟩ Tryz.f97
def pI_isId (m:Nat) (a1:Int):Option Bool:=
 bd (pI_within m a1 1 1000000) fun x2=>
 some x2
theorem c98:CC (mo 98 [jI] oB pI_isId):=mq (cs c34 cn) tn Tryz.f98
def pI_isCmd (m:Nat) (a1:ByteArray):Option Bool:=
 some (decide ((↑a1.size:Int)<=60))
theorem c186:CC (mo 186 [.S] oB pI_isCmd):=mq cn tn Tryz.f186
def pI_tails_b1 (m:Nat):Lp (Int×List UInt8×Int×Int) (Int⊕Int×Bool):=fun(v4,v5,v6,v7)=>
 br (decide (v7<v6)) (
 gd (0<=v7/\v7<(↑v5.length:Int)) <|
 bd v5[v7.toNat]? fun x8=>
 gd ((64:Int)≠(0:Int)) <|
 br (IntKind.u8.wrap ((↑x8.toNat:Int).tdiv 64) !=(2:Int)) (
 some (.inr (.inr (0,false)))) <|
 gd (inK .i64 (64*v4)) <|
 gd ((64:Int)≠(0:Int)) <|
 gd (inK .i64 (64*v4+(↑x8.toNat:Int).tmod 64)) <|
 gd (inK .i64 (v7+1)) <|
 some (.inl (64*v4+(↑x8.toNat:Int).tmod 64,v5,v6,v7+1))) <|
 some (.inr (.inl v4))
def pI_tails (m:Nat) (a1:List UInt8):Option (Int×Bool):=
 jn (V:=Int) (
 loopF (pI_tails_b1 m) m (0,a1,(↑a1.length:Int),0)) fun v3=>
 some (v3,true)
theorem c343:CC (mo 343 [.row .u8] (.tup [jI,.B]) pI_tails):=mq cn ⟨[],[],[(3,true,⟨[],[eI 4,eR 7 .u8,eI 8,eI 9]⟩,0,⟨[],[eI 4]⟩)]⟩ Tryz.f343
def pI_Shows (m:Nat) (a1:Int):Option Bool:=
 bd (α:=Bool) (
 bd (pI_within m a1 32 126) fun x2=>
 br x2 (
 some true) <|
 bd (pI_within m a1 160 65535) fun x3=>
 br x3 (
 bd (pI_within m a1 55296 57343) fun x4=>
 some (!x4)) <|
 some false) fun x5=>
 some x5
theorem c344:CC (mo 344 [jI] oB pI_Shows):=mq (cs c34 cn) ⟨[(1,⟨[],[eB 2]⟩)],[],[]⟩ Tryz.f344
def pI_RuneBegin (m:Nat) (a1:List UInt8):Option Bool:=
 br ((↑a1.length:Int)==1) (
 gd ((0:Int)<=(0:Int)/\(0:Int)<(↑a1.length:Int)) <|
 bd (a1[Int.toNat 0]?) fun x2=>
 bd (pI_within m (↑x2.toNat:Int) 194 239) fun x3=>
 some x3) <|
 br ((↑a1.length:Int)==2) (
 gd ((0:Int)<=(1:Int)/\(1:Int)<=(↑a1.length:Int)) <|
 bd (pI_tails m (List.drop (Int.toNat 1) a1)) fun(x4,x5)=>
 gd ((0:Int)<=(0:Int)/\(0:Int)<(↑a1.length:Int)) <|
 bd (a1[Int.toNat 0]?) fun x6=>
 gd (inK .i64 ((↑x6.toNat:Int)-224)) <|
 gd (inK .i64 (((↑x6.toNat:Int)-224)*4096)) <|
 gd (inK .i64 (x4*64)) <|
 gd (inK .i64 (((↑x6.toNat:Int)-224)*4096+x4*64)) <|
 bd (α:=Bool) (
 br x5 (
 gd ((0:Int)<=(0:Int)/\(0:Int)<(↑a1.length:Int)) <|
 bd (a1[Int.toNat 0]?) fun x7=>
 br (decide (224<=(↑x7.toNat:Int))) (
 br (decide (2048<=((↑x6.toNat:Int)-224)*4096+x4*64)) (
 bd (pI_Shows m (((↑x6.toNat:Int)-224)*4096+x4*64)) fun x8=>
 some x8) <|
 some false) <|
 some false) <|
 some false) fun x9=>
 some x9) <|
 some false
theorem c312:CC (mo 312 [.row .u8] oB pI_RuneBegin):=mq (cs c34 (cs c343 (cs c344 cn))) ⟨[(7,⟨[],[eB 2]⟩)],[],[]⟩ Tryz.f312
def pI_areArgs_1 (m:Nat) (a1:Int):Option Bool:=
 bd (pI_within m a1 0 9999) fun x2=>
 some (!x2)
theorem c346:CC (mo 346 [jI] oB pI_areArgs_1):=mq (cs c34 cn) tn Tryz.f346
def pG_slices_IndexFunc_int_I_areArgs_1_b1 (m:Nat):Lp (List Int×Int×Int) (Unit⊕Int):=fun(v3,v4,v5)=>
 br (decide (v5<v4)) (
 gd (0<=v5/\v5<(↑v3.length:Int)) <|
 bd v3[v5.toNat]? fun x6=>
 bd (pI_areArgs_1 m x6) fun x7=>
 br x7 (
 some (.inr (.inr v5))) <|
 gd (inK .i64 (v5+1)) <|
 some (.inl (v3,v4,v5+1))) <|
 some (.inr (.inl ()))
def pG_slices_IndexFunc_int_I_areArgs_1 (m:Nat) (a1:List Int):Option Int:=
 jn (V:=Unit) (
 loopF (pG_slices_IndexFunc_int_I_areArgs_1_b1 m) m (a1,(↑a1.length:Int),0)) fun _=>
 some (-1)
theorem c1036300:CC (mx 363 [none,some (.fn 346 [])] [.row .int] 0 oI pG_slices_IndexFunc_int_I_areArgs_1):=mq (cs c346 cn) ⟨[],[],[(2,true,⟨[(1,.fn 346 [])],[eR 0 .int,eI 7,eI 8]⟩,0,⟨[],[]⟩)]⟩ Tryz.f363
def pG_slices_ContainsFunc_int_I_areArgs_1 (m:Nat) (a1:List Int):Option Bool:=
 bd (pG_slices_IndexFunc_int_I_areArgs_1 m a1) fun x2=>
 some (decide (0<=x2))
theorem c1034500:CC (mx 345 [none,some (.fn 346 [])] [.row .int] 0 oB pG_slices_ContainsFunc_int_I_areArgs_1):=mq (cs c1036300 cn) tn Tryz.f345
def pI_areArgs (m:Nat) (a1:List Int):Option Bool:=
 bd (α:=Bool) (
 br (decide ((↑a1.length:Int)<=8)) (
 bd (pG_slices_ContainsFunc_int_I_areArgs_1 m a1) fun x2=>
 some (!x2)) <|
 some false) fun x3=>
 some x3
theorem c313:CC (mo 313 [.row .int] oB pI_areArgs):=mq (cs c1034500 cn) ⟨[(1,⟨[],[eB 2]⟩)],[],[]⟩ Tryz.f313
def pI_VpOk (m:Nat) (a1:IVp):Option Bool:=
 br (a1.State==0) (
 bd (α:=Bool) (
 br (!a1.Mark) (
 br ((↑a1.Args.length:Int)==0) (
 br ((↑a1.Part.length:Int)==0) (
 some true) <|
 bd (pI_RuneBegin m a1.Part) fun x2=>
 some x2) <|
 some false) <|
 some false) fun x3=>
 some x3) <|
 br (a1.State==1) (
 bd (α:=Bool) (
 br (!a1.Mark) (
 br ((↑a1.Args.length:Int)==0) (
 some ((↑a1.Part.length:Int)==0)) <|
 some false) <|
 some false) fun x4=>
 some x4) <|
 bd (α:=IVp×Bool) (
 br (a1.State==2) (
 some (a1,a1.State==2)) <|
 some (a1,a1.State==3)) fun(x5,x6)=>
 br x6 (
 bd (α:=Bool) (
 bd (pI_areArgs m x5.Args) fun x7=>
 br x7 (
 some ((↑x5.Part.length:Int)==0)) <|
 some false) fun x8=>
 some x8) <|
 some false
theorem c272:CC (mo 272 [jS .iVp] oB pI_VpOk):=mq (cs c312 (cs c313 cn)) ⟨[(3,⟨[],[eB 2]⟩),(5,⟨[],[eB 2]⟩),(8,⟨[],[eB 2]⟩)],[(8,false,⟨[(1,.ptr 200 0)],[.sto 200 .iVp [],eB 44]⟩)],[]⟩ Tryz.f272
def pI_AttrOk (m:Nat) (a1:IAttr):Option Bool:=
 bd (α:=Bool) (
 bd (pI_within m a1.Fg 0 8) fun x2=>
 br x2 (
 bd (pI_within m a1.Bg 0 8) fun x3=>
 some x3) <|
 some false) fun x4=>
 some x4
theorem c316:CC (mo 316 [jS .iAttr] oB pI_AttrOk):=mq (cs c34 cn) ⟨[(1,⟨[],[eB 2]⟩)],[],[]⟩ Tryz.f316
def pI_CellOk (m:Nat) (a1:ICell):Option Bool:=
 bd (α:=Bool) (
 bd (pI_Shows m a1.R) fun x2=>
 br x2 (
 bd (pI_AttrOk m a1.A) fun x3=>
 some x3) <|
 some false) fun x4=>
 some x4
theorem c366:CC (mo 366 [jS .iCell] oB pI_CellOk):=mq (cs c344 (cs c316 cn)) ⟨[(1,⟨[],[eB 2]⟩)],[],[]⟩ Tryz.f366
def pI_areCells_1 (m:Nat) (a1:ICell):Option Bool:=
 bd (pI_CellOk m a1) fun x2=>
 some (!x2)
theorem c365:CC (mo 365 [jS .iCell] oB pI_areCells_1):=mq (cs c366 cn) tn Tryz.f365
def pG_slices_IndexFunc_ICell_I_areCells_1_b1 (m:Nat):Lp (List ICell×Int×Int) (Unit⊕Int):=fun(v3,v4,v5)=>
 br (decide (v5<v4)) (
 gd (0<=v5/\v5<(↑v3.length:Int)) <|
 bd v3[v5.toNat]? fun x6=>
 bd (pI_areCells_1 m x6) fun x7=>
 br x7 (
 some (.inr (.inr v5))) <|
 gd (inK .i64 (v5+1)) <|
 some (.inl (v3,v4,v5+1))) <|
 some (.inr (.inl ()))
def pG_slices_IndexFunc_ICell_I_areCells_1 (m:Nat) (a1:List ICell):Option Int:=
 jn (V:=Unit) (
 loopF (pG_slices_IndexFunc_ICell_I_areCells_1_b1 m) m (a1,(↑a1.length:Int),0)) fun _=>
 some (-1)
theorem c1037400:CC (mx 374 [none,some (.fn 365 [])] [.row .iCell] 0 oI pG_slices_IndexFunc_ICell_I_areCells_1):=mq (cs c365 cn) ⟨[],[],[(2,true,⟨[(1,.fn 365 [])],[eR 0 .iCell,eI 7,eI 8]⟩,0,⟨[],[]⟩)]⟩ Tryz.f374
def pG_slices_ContainsFunc_ICell_I_areCells_1 (m:Nat) (a1:List ICell):Option Bool:=
 bd (pG_slices_IndexFunc_ICell_I_areCells_1 m a1) fun x2=>
 some (decide (0<=x2))
theorem c1036400:CC (mx 364 [none,some (.fn 365 [])] [.row .iCell] 0 oB pG_slices_ContainsFunc_ICell_I_areCells_1):=mq (cs c1037400 cn) tn Tryz.f364
def pI_areCells (m:Nat) (a1:List ICell):Option Bool:=
 bd (pG_slices_ContainsFunc_ICell_I_areCells_1 m a1) fun x2=>
 some (!x2)
theorem c347:CC (mo 347 [.row .iCell] oB pI_areCells):=mq (cs c1036400 cn) tn Tryz.f347
def pI_GridOk (m:Nat) (a1:IGrid):Option Bool:=
 bd (α:=Bool) (
 bd (pI_isSize m a1.W a1.H) fun x2=>
 br x2 (
 gd (inK .i64 (a1.W*a1.H)) <|
 br ((↑a1.Cells.length:Int)==a1.W*a1.H) (
 bd (pI_areCells m a1.Cells) fun x3=>
 some x3) <|
 some false) <|
 some false) fun x4=>
 some x4
theorem c314:CC (mo 314 [jS .iGrid] oB pI_GridOk):=mq (cs c97 (cs c347 cn)) ⟨[(1,⟨[],[eB 2]⟩)],[],[]⟩ Tryz.f314
def pI_Grid_has (m:Nat) (a1:IGrid) (a2 a3:Int):Option Bool:=
 bd (α:=Bool) (
 gd (inK .i64 (a1.W-1)) <|
 bd (pI_within m a2 0 (a1.W-1)) fun x4=>
 br x4 (
 gd (inK .i64 (a1.H-1)) <|
 bd (pI_within m a3 0 (a1.H-1)) fun x5=>
 some x5) <|
 some false) fun x6=>
 some x6
theorem c315:CC (mo 315 [jS .iGrid,jI,jI] oB (q3 pI_Grid_has)):=mq (cs c34 cn) ⟨[(1,⟨[],[eB 6]⟩)],[],[]⟩ Tryz.f315
def pI_isAscending_b1 (m:Nat):Lp (List Int×Int×Int×List Int×Int×Int) (Unit⊕Bool):=fun(v5,v6,v7,v8,v9,v10)=>
 br (decide (v10<v9)) (
 gd (0<=v10/\v10<(↑v8.length:Int)) <|
 bd v8[v10.toNat]? fun x11=>
 bd (α:=List Int×Int×Int×List Int×Int×Int×Bool) (
 bd (pI_within m x11 v6 v7) fun x12=>
 br (!x12) (
 some (v5,v6,v7,v8,v9,v10,true)) <|
 br (decide (0<v10)) (
 gd (inK .i64 (v10-1)) <|
 gd (0<=v10-1/\v10-1<(↑v5.length:Int)) <|
 bd (v5[(v10-1).toNat]?) fun x13=>
 some (v5,v6,v7,v8,v9,v10,decide (x11<=x13))) <|
 some (v5,v6,v7,v8,v9,v10,false)) fun(x14,x15,x16,x17,x18,x19,x20)=>
 br x20 (
 some (.inr (.inr false))) <|
 gd (inK .i64 (x19+1)) <|
 some (.inl (x14,x15,x16,x17,x18,x19+1))) <|
 some (.inr (.inl ()))
def pI_isAscending (m:Nat) (a1:List Int) (a2 a3:Int):Option Bool:=
 jn (V:=Unit) (
 loopF (pI_isAscending_b1 m) m (a1,a2,a3,a1,(↑a1.length:Int),0)) fun _=>
 some true
theorem c317:CC (mo 317 [.row .int,jI,jI] oB (q3 pI_isAscending)):=mq (cs c34 cn) ⟨[(4,⟨[],[eR 0 .int,eI 1,eI 2,eR 9 .int,eI 10,eI 11,eB 33]⟩)],[],[(2,true,⟨[],[eR 0 .int,eI 1,eI 2,eR 9 .int,eI 10,eI 11]⟩,0,⟨[],[]⟩)]⟩ Tryz.f317
def pI_backOk_1 (m:Nat) (a1:IRow):Option Bool:=
 bd (α:=Bool) (
 bd (pI_within m (↑a1.Cells.length:Int) 1 120) fun x2=>
 br (!x2) (
 some true) <|
 bd (pI_areCells m a1.Cells) fun x3=>
 some (!x3)) fun x4=>
 some x4
theorem c349:CC (mo 349 [jS .iRow] oB pI_backOk_1):=mq (cs c34 (cs c347 cn)) ⟨[(1,⟨[],[eB 2]⟩)],[],[]⟩ Tryz.f349
def pG_slices_IndexFunc_IRow_I_backOk_1_b1 (m:Nat):Lp (List IRow×Int×Int) (Unit⊕Int):=fun(v3,v4,v5)=>
 br (decide (v5<v4)) (
 gd (0<=v5/\v5<(↑v3.length:Int)) <|
 bd v3[v5.toNat]? fun x6=>
 bd (pI_backOk_1 m x6) fun x7=>
 br x7 (
 some (.inr (.inr v5))) <|
 gd (inK .i64 (v5+1)) <|
 some (.inl (v3,v4,v5+1))) <|
 some (.inr (.inl ()))
def pG_slices_IndexFunc_IRow_I_backOk_1 (m:Nat) (a1:List IRow):Option Int:=
 jn (V:=Unit) (
 loopF (pG_slices_IndexFunc_IRow_I_backOk_1_b1 m) m (a1,(↑a1.length:Int),0)) fun _=>
 some (-1)
theorem c1036700:CC (mx 367 [none,some (.fn 349 [])] [.row .iRow] 0 oI pG_slices_IndexFunc_IRow_I_backOk_1):=mq (cs c349 cn) ⟨[],[],[(2,true,⟨[(1,.fn 349 [])],[eR 0 .iRow,eI 7,eI 8]⟩,0,⟨[],[]⟩)]⟩ Tryz.f367
def pG_slices_ContainsFunc_IRow_I_backOk_1 (m:Nat) (a1:List IRow):Option Bool:=
 bd (pG_slices_IndexFunc_IRow_I_backOk_1 m a1) fun x2=>
 some (decide (0<=x2))
theorem c1034800:CC (mx 348 [none,some (.fn 349 [])] [.row .iRow] 0 oB pG_slices_ContainsFunc_IRow_I_backOk_1):=mq (cs c1036700 cn) tn Tryz.f348
def pI_backOk (m:Nat) (a1:List IRow) (a2:Int):Option Bool:=
 bd (α:=Bool) (
 br (decide ((↑a1.length:Int)<=a2)) (
 bd (pG_slices_ContainsFunc_IRow_I_backOk_1 m a1) fun x3=>
 some (!x3)) <|
 some false) fun x4=>
 some x4
theorem c318:CC (mo 318 [.row .iRow,jI] oB (q2 pI_backOk)):=mq (cs c1034800 cn) ⟨[(1,⟨[],[eB 4]⟩)],[],[]⟩ Tryz.f318
def pI_ScrOk_b1 (m:Nat):Lp (IScr×List IGrid×Int×Int) (IScr⊕Bool):=fun(v18,v19,v20,v21)=>
 br (decide (v21<v20)) (
 gd (0<=v21/\v21<(↑v19.length:Int)) <|
 bd (v19[0+v21.toNat]?) fun x22=>
 bd (α:=IScr×List IGrid×Int×Int×Bool) (
 bd (pI_GridOk m x22) fun x23=>
 br (!x23) (
 some (v18,v19,v20,v21,true)) <|
 br (x22.W !=v18.W) (
 some (v18,v19,v20,v21,true)) <|
 some (v18,v19,v20,v21,x22.H !=v18.H)) fun(x24,x25,x26,x27,x28)=>
 br x28 (
 some (.inr (.inr false))) <|
 gd (inK .i64 (x27+1)) <|
 some (.inl (x24,x25,x26,x27+1))) <|
 some (.inr (.inl v18))
def pI_ScrOk (m:Nat) (a1:IScr):Option Bool:=
 jn (V:=IScr) (
 loopF (pI_ScrOk_b1 m) m (a1,[a1.Main,a1.Alt],(↑2:Int),0)) fun v3=>
 bd (α:=IScr×Bool) (
 bd (pI_Grid_has m v3.Main v3.X v3.Y) fun x4=>
 br (!x4) (
 some (v3,true)) <|
 bd (pI_Grid_has m v3.Main v3.SaveX v3.SaveY) fun x5=>
 br (!x5) (
 some (v3,true)) <|
 br v3.Wrap (
 gd (inK .i64 (v3.W-1)) <|
 br (v3.X !=v3.W-1) (
 some (v3,true)) <|
 bd (pI_AttrOk m v3.A) fun x6=>
 br (!x6) (
 some (v3,true)) <|
 bd (pI_AttrOk m v3.SaveA) fun x7=>
 some (v3,!x7)) <|
 bd (pI_AttrOk m v3.A) fun x8=>
 br (!x8) (
 some (v3,true)) <|
 bd (pI_AttrOk m v3.SaveA) fun x9=>
 some (v3,!x9)) fun(x10,x11)=>
 br x11 (
 some false) <|
 bd (α:=IScr×Bool) (
 br (decide (x10.Top<0)) (
 some (x10,true)) <|
 br (decide (x10.Bot<x10.Top)) (
 some (x10,true)) <|
 br (decide (x10.H<=x10.Bot)) (
 some (x10,true)) <|
 br (x10.Top==x10.Bot) (
 some (x10,x10.H !=1)) <|
 some (x10,false)) fun(x12,x13)=>
 br x13 (
 some false) <|
 bd (α:=Bool) (
 gd (inK .i64 (x12.W-1)) <|
 bd (pI_isAscending m x12.Tabs 0 (x12.W-1)) fun x14=>
 br x14 (
 bd (pI_within m x12.Limit 0 100) fun x15=>
 br x15 (
 bd (pI_backOk m x12.Back x12.Limit) fun x16=>
 some x16) <|
 some false) <|
 some false) fun x17=>
 some x17
theorem c273:CC (mo 273 [jS .iScr] oB pI_ScrOk):=mq (cs c314 (cs c315 (cs c316 (cs c317 (cs c34 (cs c318 cn)))))) ⟨[(4,⟨[(1,.ptr 200 0)],[.sto 200 .iScr [],eO 9 .iGrid 1000,eI 10,eI 11,eB 31]⟩),(7,⟨[(1,.ptr 200 0)],[.sto 200 .iScr [],eB 74]⟩),(9,⟨[(1,.ptr 200 0)],[.sto 200 .iScr [],eB 103]⟩),(11,⟨[],[eB 2]⟩)],[],[(2,true,⟨[(1,.ptr 200 0)],[.sto 200 .iScr [],eO 9 .iGrid 1000,eI 10,eI 11]⟩,0,⟨[(1,.ptr 200 0)],[.sto 200 .iScr []]⟩)]⟩ Tryz.f273
def pI_TermOk (m:Nat) (a1:ITerm):Option Bool:=
 bd (α:=Bool) (
 bd (pI_VpOk m a1.P) fun x2=>
 br x2 (
 bd (pI_ScrOk m a1.S) fun x3=>
 some x3) <|
 some false) fun x4=>
 some x4
theorem c231:CC (mo 231 [jS .iTerm] oB pI_TermOk):=mq (cs c272 (cs c273 cn)) ⟨[(1,⟨[],[eB 2]⟩)],[],[]⟩ Tryz.f231
def pI_PaneOk (m:Nat) (a1:IPane):Option Bool:=
 bd (α:=IPane×Bool) (
 bd (pI_isId m a1.Id) fun x2=>
 br (!x2) (
 some (a1,true)) <|
 bd (pI_isCmd m a1.Cmd) fun x3=>
 br (!x3) (
 some (a1,true)) <|
 bd (pI_isCmd m a1.Dir) fun x4=>
 br (!x4) (
 some (a1,true)) <|
 bd (pI_TermOk m a1.Term) fun x5=>
 some (a1,!x5)) fun(x6,x7)=>
 br x7 (
 some false) <|
 br (x6.Life==1) (
 bd (α:=Bool) (
 bd (pI_isId m x6.Pid) fun x8=>
 br x8 (
 some (x6.Code==0)) <|
 some false) fun x9=>
 some x9) <|
 br (x6.Life==2) (
 bd (α:=Bool) (
 bd (pI_within m x6.Code 0 255) fun x10=>
 br x10 (
 some (x6.Pid==0)) <|
 some false) fun x11=>
 some x11) <|
 br (x6.Life==3) (
 bd (α:=Bool) (
 br (x6.Code==0) (
 some (x6.Pid==0)) <|
 some false) fun x12=>
 some x12) <|
 some false
theorem c173:CC (mo 173 [jS .iPane] oB pI_PaneOk):=mq (cs c98 (cs c186 (cs c231 (cs c34 cn)))) ⟨[(1,⟨[(1,.ptr 200 0)],[.sto 200 .iPane [],eB 24]⟩),(5,⟨[],[eB 2]⟩),(7,⟨[],[eB 2]⟩),(9,⟨[],[eB 2]⟩)],[],[]⟩ Tryz.f173
def pI_WinAt_1 (m:Nat) (a1:IWin) (a2:Int):Option (Bool×Int):=
 some (a1.Id==a2,a2)
theorem c1023300:CC (mx 233 [none,some (.ptr 0 0 0 0)] [jS .iWin,jI] 1 (.tup [.B,jI]) (q2 pI_WinAt_1)):=mq cn tn Tryz.f233
def pG_slices_IndexFunc_IWin_I_WinAt_1_b1 (m:Nat):Lp (Int×List IWin×Int×Int) (Int⊕Int×Int):=fun(v5,v6,v7,v8)=>
 br (decide (v8<v7)) (
 gd (0<=v8/\v8<(↑v6.length:Int)) <|
 bd v6[v8.toNat]? fun x9=>
 bd (pI_WinAt_1 m x9 v5) fun(x10,x11)=>
 br x10 (
 some (.inr (.inr (v8,x11)))) <|
 gd (inK .i64 (v8+1)) <|
 some (.inl (x11,v6,v7,v8+1))) <|
 some (.inr (.inl v5))
def pG_slices_IndexFunc_IWin_I_WinAt_1 (m:Nat) (a1:List IWin) (a2:Int):Option (Int×Int):=
 jn (V:=Int) (
 loopF (pG_slices_IndexFunc_IWin_I_WinAt_1_b1 m) m (a2,a1,(↑a1.length:Int),0)) fun v4=>
 some (-1,v4)
theorem c1023200:CC (mx 232 [none,some (.fn 233 [.ptr 0 0 0 0])] [.row .iWin,jI] 1 (.tup [jI,jI]) (q2 pG_slices_IndexFunc_IWin_I_WinAt_1)):=mq (cs c1023300 cn) ⟨[],[],[(2,true,⟨[(1,.fn 233 [(0,0)])],[.bxl 0 [jI],eR 0 .iWin,eI 7,eI 8]⟩,0,⟨[],[.bxl 0 [jI]]⟩)]⟩ Tryz.f232
def pI_WinAt (m:Nat) (a1:IState) (a2:Int):Option Int:=
 bd (pG_slices_IndexFunc_IWin_I_WinAt_1 m a1.Wins a2) fun(x3,x4)=>
 some x3
theorem c174:CC (mo 174 [jS .iState,jI] oI (q2 pI_WinAt)):=mq (cs c1023200 cn) tn Tryz.f174
def pI_State_panesOk_b1 (m:Nat):Lp (IState×Obj×List IPane×Int×Int) (IState⊕Bool):=fun(v4,v5,v6,v7,v8)=>
 br (decide (v8<v7)) (
 gd (0<=v8/\v8<(↑v6.length:Int)) <|
 bd v6[v8.toNat]? fun x9=>
 bd (α:=IState×IPane×Obj×List IPane×Int×Int×Bool) (
 bd (pI_PaneOk m x9) fun x10=>
 br (!x10) (
 some (v4,x9,v5,v6,v7,v8,true)) <|
 br (decide (v4.Next<=x9.Id)) (
 some (v4,x9,v5,v6,v7,v8,true)) <|
 br (decide (0<v8)) (
 gd (inK .i64 (v8-1)) <|
 gd (0<=v8-1/\v8-1<(↑v4.Panes.length:Int)) <|
 bd (v4.Panes[(v8-1).toNat]?) fun x11=>
 br (decide (x9.Id<=x11.Id)) (
 some (v4,x9,v5,v6,v7,v8,true)) <|
 bd (pI_WinAt m v4 x9.Id) fun x12=>
 br (decide (0<=x12)) (
 some (v4,x9,v5,v6,v7,v8,true)) <|
 some (v4,x9,v5,v6,v7,v8,x9.Term.S.Limit !=v4.Limit)) <|
 bd (pI_WinAt m v4 x9.Id) fun x13=>
 br (decide (0<=x13)) (
 some (v4,x9,v5,v6,v7,v8,true)) <|
 some (v4,x9,v5,v6,v7,v8,x9.Term.S.Limit !=v4.Limit)) fun(x14,x15,x16,x17,x18,x19,x20)=>
 br x20 (
 some (.inr (.inr false))) <|
 bd (α:=IState×IPane×Obj×List IPane×Int×Int×Bool) (
 br (x15.Life==1) (
 bd (mpB MK.i x16 (Value.int IntKind.i64 x15.Pid)) fun x21=>
 some (x14,x15,x16,x17,x18,x19,x21)) <|
 some (x14,x15,x16,x17,x18,x19,false)) fun(x22,x23,x24,x25,x26,x27,x28)=>
 br x28 (
 some (.inr (.inr false))) <|
 bd (α:=IState×Obj×List IPane×Int×Int) (
 bd (mpB MK.i x24 (Value.int IntKind.i64 x23.Pid)) fun x29=>
 br x29 (
 bd (mpPut MK.i x24 (Value.int IntKind.i64 x23.Pid) (Value.bool true)) fun x30=>
 some (x22,x30,x25,x26,x27)) <|
 bd (mpPut MK.i x24 (Value.int IntKind.i64 x23.Pid) (Value.bool (x23.Life==1))) fun x31=>
 some (x22,x31,x25,x26,x27)) fun(x32,x33,x34,x35,x36)=>
 gd (inK .i64 (x36+1)) <|
 some (.inl (x32,x33,x34,x35,x36+1))) <|
 some (.inr (.inl v4))
def pI_State_panesOk (m:Nat) (a1:IState):Option Bool:=
 jn (V:=IState) (
 loopF (pI_State_panesOk_b1 m) m (a1,emptyM,a1.Panes,(↑a1.Panes.length:Int),0)) fun v3=>
 some (decide ((↑v3.Panes.length:Int)<=24))
theorem c99:CC (mo 99 [jS .iState] oB pI_State_panesOk):=mq (cs c173 (cs c174 cn)) ⟨[(5,⟨[(1,.ptr 200 0),(3,.ptr 700 0),(5,.ptr 600 0)],[.sto 200 .iState [],.sto 600 .iPane [],.ob 700,eR 8 .iPane,eI 9,eI 10,eB 56]⟩),(7,⟨[(1,.ptr 200 0),(3,.ptr 700 0),(5,.ptr 600 0)],[.sto 200 .iState [],.sto 600 .iPane [],.ob 700,eR 8 .iPane,eI 9,eI 10,eB 65]⟩),(9,⟨[(1,.ptr 200 0),(3,.ptr 700 0)],[.sto 200 .iState [],.ob 700,eR 8 .iPane,eI 9,eI 10]⟩)],[],[(3,true,⟨[(1,.ptr 200 0),(3,.ptr 700 0)],[.sto 200 .iState [],.ob 700,eR 8 .iPane,eI 9,eI 10]⟩,0,⟨[(1,.ptr 200 0)],[.sto 200 .iState []]⟩)]⟩ Tryz.f99
def pI_Node_isLeaf (m:Nat) (a1:INode):Option Bool:=
 some (a1.Pane !=0)
theorem c239:CC (mo 239 [jS .iNode] oB pI_Node_isLeaf):=mq cn tn Tryz.f239
def pI_leaves_b1 (m:Nat):Lp (List Int×List INode×Int×Int) (List Int):=fun(v4,v5,v6,v7)=>
 br (decide (v7<v6)) (
 bd (α:=List Int×List INode×Int×Int) (
 gd (0<=v7/\v7<(↑v5.length:Int)) <|
 bd v5[v7.toNat]? fun x8=>
 bd (pI_Node_isLeaf m x8) fun x9=>
 br x9 (
 gd (roomB .int (v4++ [x8.Pane]).length) <|
 some (v4++ [x8.Pane],v5,v6,v7)) <|
 some (v4,v5,v6,v7)) fun(x10,x11,x12,x13)=>
 gd (inK .i64 (x13+1)) <|
 some (.inl (x10,x11,x12,x13+1))) <|
 some (.inr v4)
def pI_leaves (m:Nat) (a1:List INode):Option (List Int):=
 bd (α:=List Int) (
 loopF (pI_leaves_b1 m) m ([],a1,(↑a1.length:Int),0)) fun x3=>
 some x3
theorem c178:CC (mo 178 [.row .iNode] (.one (.own .int 99)) pI_leaves):=mq (cs c239 cn) ⟨[],[(7,false,⟨[],[eO 3 .int 700,eR 7 .iNode,eI 8,eI 9]⟩)],[(3,false,⟨[],[eO 3 .int 700,eR 7 .iNode,eI 8,eI 9]⟩,0,⟨[],[eO 3 .int 700]⟩)]⟩ Tryz.f178
def pG_slices_Clone_int (m:Nat) (a1:List Int):Option (List Int):=
 cmpN a1 (
 some []) <|
 gd (roomB .int ([]++a1).length) <|
 some ([]++a1)
theorem c240:CC (mo 240 [.row .int] (.one (.own .int 99)) pG_slices_Clone_int):=mq cn tn Tryz.f240
def pI_endOf (m:Nat) (slf:List INode×Int->Option Int):List INode×Int->Option Int:=fun(a1,a2)=>
 bd (α:=List INode×Int×Bool) (
 br (decide (a2<0)) (
 some (a1,a2,true)) <|
 some (a1,a2,decide ((↑a1.length:Int)<=a2))) fun(x3,x4,x5)=>
 br x5 (
 some (-1)) <|
 gd (0<=x4/\x4<(↑x3.length:Int)) <|
 bd x3[x4.toNat]? fun x6=>
 bd (pI_Node_isLeaf m x6) fun x7=>
 br x7 (
 bd (α:=Int×Bool) (
 bd (pI_isId m x6.Pane) fun x8=>
 br (!x8) (
 some (x4,true)) <|
 br x6.Down (
 some (x4,true)) <|
 some (x4,x6.First !=0)) fun(x9,x10)=>
 br x10 (
 some (-1)) <|
 gd (inK .i64 (x9+1)) <|
 some (x9+1)) <|
 bd (pI_within m x6.First 1 120) fun x11=>
 br (!x11) (
 some (-1)) <|
 gd (inK .i64 (x4+1)) <|
 bd (slf (x3,x4+1)) fun x12=>
 bd (slf (x3,x12)) fun x13=>
 some x13
def o319 (m:Nat):Orc:=⟨319,[none,none],[.row .iNode,.I .i64],0,(.one (.I .i64)),recF (pI_endOf m) m⟩
theorem c319 {E:World->Prop} (hcl:Cl G E) (m:Nat):Ctr Tryz.prog G E (o319 m):=Ctr.rec (fun slf h=>Ctr.mk (o:=⟨319,[none,none],[.row .iNode,.I .i64],0,(.one (.I .i64)),pI_endOf m slf⟩) (csc h (csc (c239 hcl m) (csc (c98 hcl m) (csc (c34 hcl m) csn)))) facts mixed hcl.cl ⟨[(1,⟨[],[eR 0 .iNode,eI 1,eB 13]⟩),(5,⟨[],[eI 1,eB 33]⟩)],[],[]⟩ m (fn:=Tryz.f319) (by kernel_rfl) rfl (by kernel_rfl) (fun _=>by kernel_rfl) (fun _ _=>by kernel_rfl) (fun _=>by kernel_rfl)) m
def pG_slices_Compact_int_b2 (m:Nat):Lp (List Int×Int×(Nat×Nat)×Int) (List Int×Int):=fun(v11,v12,v13,v14)=>
 br (decide (v14<(↑v13.snd:Int))) (
 bd (α:=List Int×Int×(Nat×Nat)×Int) (
 gd (0<=v14/\v14<(↑v13.snd:Int)) <|
 bd (v11[v13.fst+v14.toNat]?) fun x15=>
 gd (inK .i64 (v14-1)) <|
 gd (0<=v14-1/\v14-1<(↑v13.snd:Int)) <|
 bd (v11[v13.fst+(v14-1).toNat]?) fun x16=>
 br (x15 !=x16) (
 gd (0<=v14/\v14<(↑v13.snd:Int)) <|
 bd (v11[v13.fst+v14.toNat]?) fun x17=>
 gd (0<=v12/\v12<(↑v11.length:Int)) <|
 bd (v11[0+v12.toNat]?) fun x18=>
 gd (inK .i64 (v12+1)) <|
 some (v11.set (0+v12.toNat) x17,v12+1,v13,v14)) <|
 some (v11,v12,v13,v14)) fun(x19,x20,x21,x22)=>
 gd (inK .i64 (x22+1)) <|
 some (.inl (x19,x20,x21,x22+1))) <|
 some (.inr (v11,v12))
def pG_slices_Compact_int_b1 (m:Nat):Lp (List Int×Int) (List Int⊕List Int):=fun(v4,v5)=>
 br (decide (v5<(↑v4.length:Int))) (
 gd (0<=v5/\v5<(↑v4.length:Int)) <|
 bd (v4[0+v5.toNat]?) fun x6=>
 gd (inK .i64 (v5-1)) <|
 gd (0<=v5-1/\v5-1<(↑v4.length:Int)) <|
 bd (v4[0+(v5-1).toNat]?) fun x7=>
 br (x6==x7) (
 gd (0<=v5/\v5<=(↑v4.length:Int)) <|
 bd (α:=List Int×Int) (
 loopF (pG_slices_Compact_int_b2 m) m (v4,v5,(0+v5.toNat,v4.length-v5.toNat),1)) fun(x9,x10)=>
 gd (0<=x10/\x10<=(↑x9.length:Int)) <|
 gd (0<=x10/\x10<=(↑x9.length:Int)) <|
 some (.inr (.inr (List.take (x10.toNat-0) (List.drop (0+0) (putL x9 (0+x10.toNat) (List.replicate (x9.length-x10.toNat) (zK K.int)))))))) <|
 gd (inK .i64 (v5+1)) <|
 some (.inl (v4,v5+1))) <|
 some (.inr (.inl v4))
def pG_slices_Compact_int (m:Nat) (a1:List Int):Option (List Int):=
 br (decide ((↑a1.length:Int)<2)) (
 some a1) <|
 jn (V:=List Int) (
 loopF (pG_slices_Compact_int_b1 m) m (a1,1)) fun v3=>
 some v3
theorem c320:CC (mo 320 [.own .int 99] (.one (.row .int)) pG_slices_Compact_int):=mq cn ⟨[],[(10,false,⟨[],[eO 0 .int 90000000,eI 3,.sl 4 (.view 90000000),eI 5]⟩)],[(9,false,⟨[],[eO 0 .int 90000000,eI 3,.sl 4 (.view 90000000),eI 5]⟩,2,⟨[],[eO 0 .int 90000000,eI 3]⟩),(4,true,⟨[],[eO 0 .int 90000000,eI 3]⟩,0,⟨[],[eO 0 .int 90000000]⟩)]⟩ Tryz.f320
def pI_TreeOk (m:Nat) (a1:List INode):Option Bool:=
 bd (α:=List INode×Bool) (
 br (decide (31<(↑a1.length:Int))) (
 some (a1,true)) <|
 bd (recF (pI_endOf m) m (a1,0)) fun x2=>
 some (a1,x2 !=(↑a1.length:Int))) fun(x3,x4)=>
 br x4 (
 some false) <|
 bd (pI_leaves m x3) fun x5=>
 bd (pG_slices_Sort_int x5) fun x6=>
 bd (pG_slices_Clone_int m x6) fun x7=>
 bd (pG_slices_Compact_int m x7) fun x8=>
 some ((↑x8.length:Int)==(↑x5.length:Int))
theorem c274:CC (mo 274 [.row .iNode] oB pI_TreeOk):=mq (cs c319 (cs c178 (cs c196 (cs c240 (cs c320 cn))))) ⟨[(1,⟨[],[eR 0 .iNode,eB 13]⟩)],[],[]⟩ Tryz.f274
def pI_partsOf (m:Nat) (a1:INode) (a2:IRect):Option (IRect×IRect×Bool):=
 bd (α:=INode×IRect×IRect×IRect×IRect×IRect×Int) (
 br a1.Down (
 some (a1,a2,IRect.mk 0 0 0 0 0,IRect.mk 0 0 0 0 0,a2,a2,a2.H)) <|
 some (a1,a2,IRect.mk 0 0 0 0 0,IRect.mk 0 0 0 0 0,a2,a2,a2.W)) fun(x3,x4,x5,x6,x7,x8,x9)=>
 gd (inK .i64 (x9-2)) <|
 bd (α:=IRect×IRect×IRect×IRect×Int) (
 br x3.Down (
 gd (inK .i64 (x4.Y+if x9-2<x3.First then x9-2 else x3.First)) <|
 gd (inK .i64 ((x4.Y+if x9-2<x3.First then x9-2 else x3.First)+1)) <|
 gd (inK .i64 (x9-if x9-2<x3.First then x9-2 else x3.First)) <|
 gd (inK .i64 ((x9-if x9-2<x3.First then x9-2 else x3.First)-1)) <|
 some (x5,x6,IRect.mk x7.Pane x7.X x7.Y x7.W (if x9-2<x3.First then x9-2 else x3.First),IRect.mk x8.Pane x8.X ((x4.Y+if x9-2<x3.First then x9-2 else x3.First)+1) x8.W ((x9-if x9-2<x3.First then x9-2 else x3.First)-1),x9)) <|
 gd (inK .i64 (x4.X+if x9-2<x3.First then x9-2 else x3.First)) <|
 gd (inK .i64 ((x4.X+if x9-2<x3.First then x9-2 else x3.First)+1)) <|
 gd (inK .i64 (x9-if x9-2<x3.First then x9-2 else x3.First)) <|
 gd (inK .i64 ((x9-if x9-2<x3.First then x9-2 else x3.First)-1)) <|
 some (x5,x6,IRect.mk x7.Pane x7.X x7.Y (if x9-2<x3.First then x9-2 else x3.First) x7.H,IRect.mk x8.Pane ((x4.X+if x9-2<x3.First then x9-2 else x3.First)+1) x8.Y ((x9-if x9-2<x3.First then x9-2 else x3.First)-1) x8.H,x9)) fun(x10,x11,x12,x13,x14)=>
 some (x12,x13,decide (3<=x14))
theorem c322:CC (mo 322 [jS .iNode,jS .iRect] (.tup [jS .iRect,jS .iRect,.B]) (q2 pI_partsOf)):=mq cn ⟨[],[(5,false,⟨[(2,.ptr 300 0),(3,.ptr 400 0),(4,.ptr 500 0),(5,.ptr 600 0),(7,.ptr 800 0),(8,.ptr 900 0)],[.sto 300 .iNode [],.sto 400 .iRect [],.sto 500 .iRect [],.sto 600 .iRect [],.sto 800 .iRect [],.sto 900 .iRect [],eI 9]⟩),(9,false,⟨[(4,.ptr 500 0),(5,.ptr 600 0),(7,.ptr 800 0),(8,.ptr 900 0)],[.sto 500 .iRect [],.sto 600 .iRect [],.sto 800 .iRect [],.sto 900 .iRect [],eI 9]⟩)],[]⟩ Tryz.f322
def pI_areasOf_1 (m:Nat) (slf:Int×IRect×List INode×List IRect×Bool×Unit->Option (List INode×List IRect×Bool×Unit)):Int×IRect×List INode×List IRect×Bool×Unit->Option (List INode×List IRect×Bool×Unit):=fun(a1,a2,a3,a4,a5,a6)=>
 gd (0<=a1/\a1<(↑a3.length:Int)) <|
 bd a3[a1.toNat]? fun x7=>
 gd (roomB .iRect (a4++ [IRect.mk x7.Pane a2.X a2.Y a2.W a2.H]).length) <|
 bd (α:=List INode×Bool×Unit×IRect×List IRect×Int×Bool) (
 gd (0<=a1/\a1<(↑a3.length:Int)) <|
 bd a3[a1.toNat]? fun x8=>
 bd (pI_Node_isLeaf m x8) fun x9=>
 br x9 (
 some (a3,a5,(),IRect.mk x7.Pane a2.X a2.Y a2.W a2.H,a4++ [IRect.mk x7.Pane a2.X a2.Y a2.W a2.H],a1,true)) <|
 some (a3,a5,(),IRect.mk x7.Pane a2.X a2.Y a2.W a2.H,a4++ [IRect.mk x7.Pane a2.X a2.Y a2.W a2.H],a1,!a5)) fun(x10,x11,x12,x13,x14,x15,x16)=>
 br x16 (
 some (x10,x14,x11,())) <|
 gd (0<=x15/\x15<(↑x10.length:Int)) <|
 bd x10[x15.toNat]? fun x17=>
 bd (pI_partsOf m x17 x13) fun(x18,x19,x20)=>
 br (!x20) (
 some (x10,x14,x20,())) <|
 gd (inK .i64 (x15+1)) <|
 bd (slf (x15+1,x18,x10,x14,x20,())) fun(x21,x22,x23,x24)=>
 br x23 (
 gd (inK .i64 (x15+1)) <|
 bd (recF (pI_endOf m) m (x21,x15+1)) fun x25=>
 bd (slf (x25,x19,x21,x22,x23,())) fun(x26,x27,x28,x29)=>
 some (x26,x27,x28,())) <|
 some (x21,x22,x23,())
def o1032100 (m:Nat):Orc:=⟨321,[none,none,some (.ptr 0 0 0 0),some (.ptr 1 0 0 0),some (.ptr 2 0 0 0),some (.ptr 3 0 0 0)],[.I .i64,.st .iRect [],.row .iNode,.own .iRect 99,.B,.cfn 321 [(0,0),(1,0),(2,0),(3,0)]],4,(.tup [.row .iNode,.own .iRect 99,.B,.cfn 321 [(0,0),(1,0),(2,0),(3,0)]]),recF (pI_areasOf_1 m) m⟩
theorem c1032100 {E:World->Prop} (hcl:Cl G E) (m:Nat):Ctr Tryz.prog G E (o1032100 m):=Ctr.rec (fun slf h=>Ctr.mk (o:=⟨321,[none,none,some (.ptr 0 0 0 0),some (.ptr 1 0 0 0),some (.ptr 2 0 0 0),some (.ptr 3 0 0 0)],[.I .i64,.st .iRect [],.row .iNode,.own .iRect 99,.B,.cfn 321 [(0,0),(1,0),(2,0),(3,0)]],4,(.tup [.row .iNode,.own .iRect 99,.B,.cfn 321 [(0,0),(1,0),(2,0),(3,0)]]),pI_areasOf_1 m slf⟩) (csc h (csc (c239 hcl m) (csc (c322 hcl m) (csc (c319 hcl m) csn)))) facts mixed hcl.cl ⟨[(3,⟨[(2,.ptr 0 0),(4,.ptr 2 0),(5,.ptr 3 0),(7,.ptr 800 0)],[.bxl 0 [.row .iNode],.bxl 2 [.B],.bxl 3 [.cfn 321 [(0,0),(1,0),(2,0),(3,0)]],.sto 800 .iRect [],.bxl 1 [.own .iRect 80001000],eI 0,eB 29]⟩)],[],[]⟩ m (fn:=Tryz.f321) (by kernel_rfl) rfl (by kernel_rfl) (fun _=>by kernel_rfl) (fun _ _=>by kernel_rfl) (fun _=>by kernel_rfl)) m
def pI_areasOf (m:Nat) (a1:List INode) (a2 a3:Int):Option (List IRect×Bool):=
 bd (recF (pI_areasOf_1 m) m (0,IRect.mk 0 0 0 a2 a3,a1,[],true,())) fun(x4,x5,x6,x7)=>
 some (x5,x6)
theorem c275:CC (mo 275 [.row .iNode,jI,jI] (.tup [.own .iRect 99,.B]) (q3 pI_areasOf)):=mq (cs c1032100 cn) tn Tryz.f275
def pI_places (m:Nat) (a1:List INode) (a2 a3:Int):Option (List IRect×Bool):=
 bd (α:=List INode×Int×Int×Bool) (
 bd (pI_TreeOk m a1) fun x4=>
 br (!x4) (
 some (a1,a2,a3,true)) <|
 bd (pI_within m a2 1 120) fun x5=>
 br (!x5) (
 some (a1,a2,a3,true)) <|
 bd (pI_within m a3 1 120) fun x6=>
 some (a1,a2,a3,!x6)) fun(x7,x8,x9,x10)=>
 br x10 (
 some ([],false)) <|
 bd (pI_areasOf m x7 x8 x9) fun(x11,x12)=>
 some (x11,x12)
theorem c234:CC (mo 234 [.row .iNode,jI,jI] (.tup [.own .iRect 99,.B]) (q3 pI_places)):=mq (cs c274 (cs c34 (cs c275 cn))) ⟨[(1,⟨[],[eR 0 .iNode,eI 1,eI 2,eB 20]⟩)],[],[]⟩ Tryz.f234
def pI_Places_1 (m:Nat) (a1:IRect):Option Bool:=
 some (a1.Pane==0)
theorem c236:CC (mo 236 [jS .iRect] oB pI_Places_1):=mq cn tn Tryz.f236
def pG_slices_IndexFunc_IRect_I_Places_1_b1 (m:Nat):Lp (List IRect×Int×Int) (Unit⊕Int):=fun(v3,v4,v5)=>
 br (decide (v5<v4)) (
 gd (0<=v5/\v5<(↑v3.length:Int)) <|
 bd v3[v5.toNat]? fun x6=>
 bd (pI_Places_1 m x6) fun x7=>
 br x7 (
 some (.inr (.inr v5))) <|
 gd (inK .i64 (v5+1)) <|
 some (.inl (v3,v4,v5+1))) <|
 some (.inr (.inl ()))
def pG_slices_IndexFunc_IRect_I_Places_1 (m:Nat) (a1:List IRect):Option Int:=
 jn (V:=Unit) (
 loopF (pG_slices_IndexFunc_IRect_I_Places_1_b1 m) m (a1,(↑a1.length:Int),0)) fun _=>
 some (-1)
theorem c1024600:CC (mx 246 [none,some (.fn 236 [])] [.row .iRect] 0 oI pG_slices_IndexFunc_IRect_I_Places_1):=mq (cs c236 cn) ⟨[],[],[(2,true,⟨[(1,.fn 236 [])],[eR 0 .iRect,eI 7,eI 8]⟩,0,⟨[],[]⟩)]⟩ Tryz.f246
def pG_slices_DeleteFunc_IRect_I_Places_1_b1 (m:Nat):Lp (List IRect×Int×Int) (List IRect×Int):=fun(v6,v7,v8)=>
 br (decide (v8<(↑v6.length:Int))) (
 bd (α:=List IRect×Int×Int) (
 gd (0<=v8/\v8<(↑v6.length:Int)) <|
 bd (v6[0+v8.toNat]?) fun x9=>
 bd (pI_Places_1 m x9) fun x10=>
 br (!x10) (
 gd (0<=v7/\v7<(↑v6.length:Int)) <|
 bd (v6[0+v7.toNat]?) fun x11=>
 gd (inK .i64 (v7+1)) <|
 some (v6.set (0+v7.toNat) x9,v7+1,v8)) <|
 some (v6,v7,v8)) fun(x12,x13,x14)=>
 gd (inK .i64 (x14+1)) <|
 some (.inl (x12,x13,x14+1))) <|
 some (.inr (v6,v7))
def pG_slices_DeleteFunc_IRect_I_Places_1 (m:Nat) (a1:List IRect):Option (List IRect):=
 bd (pG_slices_IndexFunc_IRect_I_Places_1 m a1) fun x2=>
 br (x2== -1) (
 some a1) <|
 gd (inK .i64 (x2+1)) <|
 bd (α:=List IRect×Int) (
 loopF (pG_slices_DeleteFunc_IRect_I_Places_1_b1 m) m (a1,x2,x2+1)) fun(x4,x5)=>
 gd (0<=x5/\x5<=(↑x4.length:Int)) <|
 gd (0<=x5/\x5<=(↑x4.length:Int)) <|
 some (List.take (x5.toNat-0) (List.drop (0+0) (putL x4 (0+x5.toNat) (List.replicate (x4.length-x5.toNat) (zK K.iRect)))))
theorem c1023500:CC (mx 235 [none,some (.fn 236 [])] [.own .iRect 99] 0 (.one (.row .iRect)) pG_slices_DeleteFunc_IRect_I_Places_1):=mq (cs c1024600 (cs c236 cn)) ⟨[],[(6,false,⟨[(1,.fn 236 [])],[eO 0 .iRect 90000000,eI 5,eI 6]⟩)],[(5,false,⟨[(1,.fn 236 [])],[eO 0 .iRect 90000000,eI 5,eI 6]⟩,0,⟨[],[eO 0 .iRect 90000000,eI 5]⟩)]⟩ Tryz.f235
def pI_Places (m:Nat) (a1:List INode) (a2 a3:Int):Option (List IRect×Bool):=
 bd (pI_places m a1 a2 a3) fun(x4,x5)=>
 br (!x5) (
 some ([],false)) <|
 bd (pG_slices_DeleteFunc_IRect_I_Places_1 m x4) fun x6=>
 some (x6,true)
theorem c175:CC (mo 175 [.row .iNode,jI,jI] (.tup [.row .iRect,.B]) (q3 pI_Places)):=mq (cs c234 (cs c1023500 cn)) tn Tryz.f175
def pI_isPlain_b1 (m:Nat):Lp (ByteArray×Int×ByteArray×Int×Int) (ByteArray×Int⊕Bool):=fun(v8,v9,v10,v11,v12)=>
 br (decide (v12<v11)) (
 gd (0<=v12) <|
 bd v8[v12.toNat]? fun x13=>
 bd (α:=ByteArray×Int×ByteArray×Int×Int×Bool) (
 br (decide (97<=(↑x13.toNat:Int))) (
 br (decide ((↑x13.toNat:Int)<=122)) (
 some (v8,v9,v10,v11,v12,!true)) <|
 br (decide (48<=(↑x13.toNat:Int))) (
 br (decide ((↑x13.toNat:Int)<=57)) (
 some (v8,v9,v10,v11,v12,!true)) <|
 bd (pG_strings_IndexByte v10 (↑x13.toNat:Int)) fun x14=>
 some (v8,v9,v10,v11,v12,!decide (0<=x14))) <|
 bd (pG_strings_IndexByte v10 (↑x13.toNat:Int)) fun x15=>
 some (v8,v9,v10,v11,v12,!decide (0<=x15))) <|
 br (decide (48<=(↑x13.toNat:Int))) (
 br (decide ((↑x13.toNat:Int)<=57)) (
 some (v8,v9,v10,v11,v12,!true)) <|
 bd (pG_strings_IndexByte v10 (↑x13.toNat:Int)) fun x16=>
 some (v8,v9,v10,v11,v12,!decide (0<=x16))) <|
 bd (pG_strings_IndexByte v10 (↑x13.toNat:Int)) fun x17=>
 some (v8,v9,v10,v11,v12,!decide (0<=x17))) fun(x18,x19,x20,x21,x22,x23)=>
 br x23 (
 some (.inr (.inr false))) <|
 gd (inK .i64 (x22+1)) <|
 some (.inl (x18,x19,x20,x21,x22+1))) <|
 some (.inr (.inl (v8,v9)))
def pI_isPlain (m:Nat) (a1:ByteArray) (a2:Int) (a3:ByteArray):Option Bool:=
 jn (V:=ByteArray×Int) (
 loopF (pI_isPlain_b1 m) m (a1,a2,a3,(↑a1.size:Int),0)) fun(v5,v6)=>
 bd (pI_within m (↑v5.size:Int) 1 v6) fun x7=>
 some x7
theorem c237:CC (mo 237 [.S,jI,.S] oB (q3 pI_isPlain)):=mq (cs c276 (cs c34 cn)) ⟨[(5,⟨[],[eS 0,eI 1,eS 2,eI 10,eI 11,eB 37]⟩)],[],[(2,true,⟨[],[eS 0,eI 1,eS 2,eI 10,eI 11]⟩,0,⟨[],[eS 0,eI 1]⟩)]⟩ Tryz.f237
def pI_WordOk (m:Nat) (a1:ByteArray):Option Bool:=
 bd (pI_isPlain m a1 12 (ByteArray.mk #[])) fun x2=>
 some x2
theorem c176:CC (mo 176 [.S] oB pI_WordOk):=mq (cs c237 cn) tn Tryz.f176
def pG_slices_Index_int_b1 (m:Nat):Lp (List Int×Int×Int×Int) (Unit⊕Int):=fun(v4,v5,v6,v7)=>
 br (decide (v7<v6)) (
 gd (0<=v7/\v7<(↑v4.length:Int)) <|
 bd v4[v7.toNat]? fun x8=>
 br (v5==x8) (
 some (.inr (.inr v7))) <|
 gd (inK .i64 (v7+1)) <|
 some (.inl (v4,v5,v6,v7+1))) <|
 some (.inr (.inl ()))
def pG_slices_Index_int (m:Nat) (a1:List Int) (a2:Int):Option Int:=
 jn (V:=Unit) (
 loopF (pG_slices_Index_int_b1 m) m (a1,a2,(↑a1.length:Int),0)) fun _=>
 some (-1)
theorem c238:CC (mo 238 [.row .int,jI] oI (q2 pG_slices_Index_int)):=mq cn ⟨[],[],[(2,true,⟨[],[eR 0 .int,eI 1,eI 7,eI 8]⟩,0,⟨[],[]⟩)]⟩ Tryz.f238
def pG_slices_Contains_int (m:Nat) (a1:List Int) (a2:Int):Option Bool:=
 bd (pG_slices_Index_int m a1 a2) fun x3=>
 some (decide (0<=x3))
theorem c177:CC (mo 177 [.row .int,jI] oB (q2 pG_slices_Contains_int)):=mq (cs c238 cn) tn Tryz.f177
def pG_slices_Equal_int_b1 (m:Nat):Lp (List Int×List Int×Int×Int) (Unit⊕Bool):=fun(v4,v5,v6,v7)=>
 br (decide (v7<v6)) (
 gd (0<=v7/\v7<(↑v4.length:Int)) <|
 bd v4[v7.toNat]? fun x8=>
 gd (0<=v7/\v7<(↑v5.length:Int)) <|
 bd v5[v7.toNat]? fun x9=>
 br (x8 !=x9) (
 some (.inr (.inr false))) <|
 gd (inK .i64 (v7+1)) <|
 some (.inl (v4,v5,v6,v7+1))) <|
 some (.inr (.inl ()))
def pG_slices_Equal_int (m:Nat) (a1 a2:List Int):Option Bool:=
 br ((↑a1.length:Int) !=(↑a2.length:Int)) (
 some false) <|
 jn (V:=Unit) (
 loopF (pG_slices_Equal_int_b1 m) m (a1,a2,(↑a1.length:Int),0)) fun _=>
 some true
theorem c241:CC (mo 241 [.row .int,.row .int] oB (q2 pG_slices_Equal_int)):=mq cn ⟨[],[],[(4,true,⟨[],[eR 0 .int,eR 1 .int,eI 12,eI 13]⟩,0,⟨[],[]⟩)]⟩ Tryz.f241
def pI_once (m:Nat) (a1 a2:List Int):Option Bool:=
 bd (pG_slices_Clone_int m a1) fun x3=>
 bd (pG_slices_Clone_int m a2) fun x4=>
 bd (pG_slices_Sort_int x3) fun x5=>
 bd (pG_slices_Sort_int x4) fun x6=>
 bd (pG_slices_Equal_int m x5 x6) fun x7=>
 some x7
theorem c179:CC (mo 179 [.row .int,.row .int] oB (q2 pI_once)):=mq (cs c240 (cs c196 (cs c241 cn))) tn Tryz.f179
def pI_State_winsOk_b2 (m:Nat):Lp (IState×List Int×List Int×List IPane×Int×Int) (IState×List Int×List Int):=fun(v37,v38,v39,v40,v41,v42)=>
 br (decide (v42<v41)) (
 gd (0<=v42/\v42<(↑v40.length:Int)) <|
 bd v40[v42.toNat]? fun x43=>
 gd (roomB .int (v39++ [x43.Id]).length) <|
 gd (inK .i64 (v42+1)) <|
 some (.inl (v37,v38,v39++ [x43.Id],v40,v41,v42+1))) <|
 some (.inr (v37,v38,v39))
def pI_State_winsOk_b1 (m:Nat):Lp (IState×List Int×List Int×List IWin×Int×Int) (IState×List Int×List Int⊕Bool):=fun(v12,v13,v14,v15,v16,v17)=>
 br (decide (v17<v16)) (
 gd (0<=v17/\v17<(↑v15.length:Int)) <|
 bd v15[v17.toNat]? fun x18=>
 bd (pI_Places m x18.Tree v12.W v12.H) fun(x19,x20)=>
 bd (α:=IState×IWin×List Int×List Int×List IWin×Int×Int×Bool) (
 br (decide (x18.Id<1)) (
 some (v12,x18,v13,v14,v15,v16,v17,true)) <|
 br (decide (v12.Next<=x18.Id)) (
 some (v12,x18,v13,v14,v15,v16,v17,true)) <|
 br (decide (0<v17)) (
 gd (inK .i64 (v17-1)) <|
 gd (0<=v17-1/\v17-1<(↑v12.Wins.length:Int)) <|
 bd (v12.Wins[(v17-1).toNat]?) fun x21=>
 br (decide (x18.Id<=x21.Id)) (
 some (v12,x18,v13,v14,v15,v16,v17,true)) <|
 bd (pI_WordOk m x18.Name) fun x22=>
 br (!x22) (
 some (v12,x18,v13,v14,v15,v16,v17,true)) <|
 br (!x20) (
 some (v12,x18,v13,v14,v15,v16,v17,true)) <|
 bd (pI_leaves m x18.Tree) fun x23=>
 bd (pG_slices_Contains_int m x23 x18.Active) fun x24=>
 some (v12,x18,v13,v14,v15,v16,v17,!x24)) <|
 bd (pI_WordOk m x18.Name) fun x25=>
 br (!x25) (
 some (v12,x18,v13,v14,v15,v16,v17,true)) <|
 br (!x20) (
 some (v12,x18,v13,v14,v15,v16,v17,true)) <|
 bd (pI_leaves m x18.Tree) fun x26=>
 bd (pG_slices_Contains_int m x26 x18.Active) fun x27=>
 some (v12,x18,v13,v14,v15,v16,v17,!x27)) fun(x28,x29,x30,x31,x32,x33,x34,x35)=>
 br x35 (
 some (.inr (.inr false))) <|
 bd (pI_leaves m x29.Tree) fun x36=>
 gd (roomB .int (x30++x36).length) <|
 gd (inK .i64 (x34+1)) <|
 some (.inl (x28,x30++x36,x31,x32,x33,x34+1))) <|
 some (.inr (.inl (v12,v13,v14)))
def pI_State_winsOk (m:Nat) (a1:IState):Option Bool:=
 jn (V:=IState×List Int×List Int) (
 loopF (pI_State_winsOk_b1 m) m (a1,[],[],a1.Wins,(↑a1.Wins.length:Int),0)) fun(v3,v4,v5)=>
 bd (α:=IState×List Int×List Int) (
 loopF (pI_State_winsOk_b2 m) m (v3,v4,v5,v3.Panes,(↑v3.Panes.length:Int),0)) fun(x7,x8,x9)=>
 bd (α:=Bool) (
 br (decide ((↑x7.Wins.length:Int)<=12)) (
 bd (pI_once m x8 x9) fun x10=>
 some x10) <|
 some false) fun x11=>
 some x11
theorem c100:CC (mo 100 [jS .iState] oB pI_State_winsOk):=mq (cs c175 (cs c176 (cs c178 (cs c177 (cs c179 cn))))) ⟨[(6,⟨[(1,.ptr 200 0),(6,.ptr 700 0)],[.sto 200 .iState [],.sto 700 .iWin [],eO 3 .int 1200,eO 4 .int 1300,eR 14 .iWin,eI 15,eI 16,eB 75]⟩),(15,⟨[],[eB 2]⟩)],[],[(3,true,⟨[(1,.ptr 200 0)],[.sto 200 .iState [],eO 3 .int 1200,eO 4 .int 1300,eR 14 .iWin,eI 15,eI 16]⟩,0,⟨[(1,.ptr 200 0)],[.sto 200 .iState [],eO 3 .int 1200,eO 4 .int 1300]⟩),(11,false,⟨[(1,.ptr 200 0)],[.sto 200 .iState [],eO 3 .int 1200,eO 4 .int 1300,eR 83 .iPane,eI 84,eI 85]⟩,2,⟨[(1,.ptr 200 0)],[.sto 200 .iState [],eO 3 .int 1200,eO 4 .int 1300]⟩)]⟩ Tryz.f100
def pI_SessAt_1 (m:Nat) (a1:ISess) (a2:ByteArray):Option (Bool×ByteArray):=
 some (decide (a1.Name=a2),a2)
theorem c1024300:CC (mx 243 [none,some (.ptr 0 0 0 0)] [jS .iSess,.S] 1 (.tup [.B,.S]) (q2 pI_SessAt_1)):=mq cn tn Tryz.f243
def pG_slices_IndexFunc_ISess_I_SessAt_1_b1 (m:Nat):Lp (ByteArray×List ISess×Int×Int) (ByteArray⊕Int×ByteArray):=fun(v5,v6,v7,v8)=>
 br (decide (v8<v7)) (
 gd (0<=v8/\v8<(↑v6.length:Int)) <|
 bd v6[v8.toNat]? fun x9=>
 bd (pI_SessAt_1 m x9 v5) fun(x10,x11)=>
 br x10 (
 some (.inr (.inr (v8,x11)))) <|
 gd (inK .i64 (v8+1)) <|
 some (.inl (x11,v6,v7,v8+1))) <|
 some (.inr (.inl v5))
def pG_slices_IndexFunc_ISess_I_SessAt_1 (m:Nat) (a1:List ISess) (a2:ByteArray):Option (Int×ByteArray):=
 jn (V:=ByteArray) (
 loopF (pG_slices_IndexFunc_ISess_I_SessAt_1_b1 m) m (a2,a1,(↑a1.length:Int),0)) fun v4=>
 some (-1,v4)
theorem c1024200:CC (mx 242 [none,some (.fn 243 [.ptr 0 0 0 0])] [.row .iSess,.S] 1 (.tup [jI,.S]) (q2 pG_slices_IndexFunc_ISess_I_SessAt_1)):=mq (cs c1024300 cn) ⟨[],[],[(2,true,⟨[(1,.fn 243 [(0,0)])],[.bxl 0 [.S],eR 0 .iSess,eI 7,eI 8]⟩,0,⟨[],[.bxl 0 [.S]]⟩)]⟩ Tryz.f242
def pI_SessAt (m:Nat) (a1:IState) (a2:ByteArray):Option Int:=
 bd (pG_slices_IndexFunc_ISess_I_SessAt_1 m a1.Sess a2) fun(x3,x4)=>
 some x3
theorem c180:CC (mo 180 [jS .iState,.S] oI (q2 pI_SessAt)):=mq (cs c1024200 cn) tn Tryz.f180
def pI_State_sessOk_b2 (m:Nat):Lp (IState×List Int×List Int×List IWin×Int×Int) (IState×List Int×List Int):=fun(v30,v31,v32,v33,v34,v35)=>
 br (decide (v35<v34)) (
 gd (0<=v35/\v35<(↑v33.length:Int)) <|
 bd v33[v35.toNat]? fun x36=>
 gd (roomB .int (v32++ [x36.Id]).length) <|
 gd (inK .i64 (v35+1)) <|
 some (.inl (v30,v31,v32++ [x36.Id],v33,v34,v35+1))) <|
 some (.inr (v30,v31,v32))
def pI_State_sessOk_b1 (m:Nat):Lp (IState×List Int×List Int×List ISess×Int×Int) (IState×List Int×List Int⊕Bool):=fun(v12,v13,v14,v15,v16,v17)=>
 br (decide (v17<v16)) (
 gd (0<=v17/\v17<(↑v15.length:Int)) <|
 bd v15[v17.toNat]? fun x18=>
 bd (α:=IState×ISess×List Int×List Int×List ISess×Int×Int×Bool) (
 bd (pI_WordOk m x18.Name) fun x19=>
 br (!x19) (
 some (v12,x18,v13,v14,v15,v16,v17,true)) <|
 bd (pI_SessAt m v12 x18.Name) fun x20=>
 br (x20 !=v17) (
 some (v12,x18,v13,v14,v15,v16,v17,true)) <|
 bd (pG_slices_Contains_int m x18.Wins x18.Active) fun x21=>
 some (v12,x18,v13,v14,v15,v16,v17,!x21)) fun(x22,x23,x24,x25,x26,x27,x28,x29)=>
 br x29 (
 some (.inr (.inr false))) <|
 gd (roomB .int (x24++x23.Wins).length) <|
 gd (inK .i64 (x28+1)) <|
 some (.inl (x22,x24++x23.Wins,x25,x26,x27,x28+1))) <|
 some (.inr (.inl (v12,v13,v14)))
def pI_State_sessOk (m:Nat) (a1:IState):Option Bool:=
 jn (V:=IState×List Int×List Int) (
 loopF (pI_State_sessOk_b1 m) m (a1,[],[],a1.Sess,(↑a1.Sess.length:Int),0)) fun(v3,v4,v5)=>
 bd (α:=IState×List Int×List Int) (
 loopF (pI_State_sessOk_b2 m) m (v3,v4,v5,v3.Wins,(↑v3.Wins.length:Int),0)) fun(x7,x8,x9)=>
 bd (α:=Bool) (
 br (decide ((↑x7.Sess.length:Int)<=8)) (
 bd (pI_once m x8 x9) fun x10=>
 some x10) <|
 some false) fun x11=>
 some x11
theorem c101:CC (mo 101 [jS .iState] oB pI_State_sessOk):=mq (cs c176 (cs c180 (cs c177 (cs c179 cn)))) ⟨[(5,⟨[(1,.ptr 200 0),(6,.ptr 700 0)],[.sto 200 .iState [],.sto 700 .iSess [],eO 3 .int 1000,eO 4 .int 1100,eR 12 .iSess,eI 13,eI 14,eB 38]⟩),(14,⟨[],[eB 2]⟩)],[],[(3,true,⟨[(1,.ptr 200 0)],[.sto 200 .iState [],eO 3 .int 1000,eO 4 .int 1100,eR 12 .iSess,eI 13,eI 14]⟩,0,⟨[(1,.ptr 200 0)],[.sto 200 .iState [],eO 3 .int 1000,eO 4 .int 1100]⟩),(10,false,⟨[(1,.ptr 200 0)],[.sto 200 .iState [],eO 3 .int 1000,eO 4 .int 1100,eR 45 .iWin,eI 46,eI 47]⟩,2,⟨[(1,.ptr 200 0)],[.sto 200 .iState [],eO 3 .int 1000,eO 4 .int 1100]⟩)]⟩ Tryz.f101
def pI_Leaves (m:Nat) (a1:List INode):Option (List Int):=
 bd (pI_TreeOk m a1) fun x2=>
 br (!x2) (
 some []) <|
 bd (pI_leaves m a1) fun x3=>
 some x3
theorem c245:CC (mo 245 [.row .iNode] (.one (.own .int 99)) pI_Leaves):=mq (cs c274 (cs c178 cn)) tn Tryz.f245
def pI_WinOf_1 (m:Nat) (a1:IWin) (a2:Int):Option (Bool×Int):=
 bd (pI_Leaves m a1.Tree) fun x3=>
 bd (pG_slices_Contains_int m x3 a2) fun x4=>
 some (x4,a2)
theorem c1024400:CC (mx 244 [none,some (.ptr 0 0 0 0)] [jS .iWin,jI] 1 (.tup [.B,jI]) (q2 pI_WinOf_1)):=mq (cs c245 (cs c177 cn)) tn Tryz.f244
def pG_slices_IndexFunc_IWin_I_WinOf_1_b1 (m:Nat):Lp (Int×List IWin×Int×Int) (Int⊕Int×Int):=fun(v5,v6,v7,v8)=>
 br (decide (v8<v7)) (
 gd (0<=v8/\v8<(↑v6.length:Int)) <|
 bd v6[v8.toNat]? fun x9=>
 bd (pI_WinOf_1 m x9 v5) fun(x10,x11)=>
 br x10 (
 some (.inr (.inr (v8,x11)))) <|
 gd (inK .i64 (v8+1)) <|
 some (.inl (x11,v6,v7,v8+1))) <|
 some (.inr (.inl v5))
def pG_slices_IndexFunc_IWin_I_WinOf_1 (m:Nat) (a1:List IWin) (a2:Int):Option (Int×Int):=
 jn (V:=Int) (
 loopF (pG_slices_IndexFunc_IWin_I_WinOf_1_b1 m) m (a2,a1,(↑a1.length:Int),0)) fun v4=>
 some (-1,v4)
theorem c1023201:CC (mx 232 [none,some (.fn 244 [.ptr 0 0 0 0])] [.row .iWin,jI] 1 (.tup [jI,jI]) (q2 pG_slices_IndexFunc_IWin_I_WinOf_1)):=mq (cs c1024400 cn) ⟨[],[],[(2,true,⟨[(1,.fn 244 [(0,0)])],[.bxl 0 [jI],eR 0 .iWin,eI 7,eI 8]⟩,0,⟨[],[.bxl 0 [jI]]⟩)]⟩ Tryz.f232
def pI_WinOf (m:Nat) (a1:IState) (a2:Int):Option Int:=
 bd (pG_slices_IndexFunc_IWin_I_WinOf_1 m a1.Wins a2) fun(x3,x4)=>
 some x3
theorem c182:CC (mo 182 [jS .iState,jI] oI (q2 pI_WinOf)):=mq (cs c1023201 cn) tn Tryz.f182
def pI_PlaceOf_1 (m:Nat) (a1:IRect) (a2:Int):Option (Bool×Int):=
 some (a1.Pane==a2,a2)
theorem c1024700:CC (mx 247 [none,some (.ptr 0 0 0 0)] [jS .iRect,jI] 1 (.tup [.B,jI]) (q2 pI_PlaceOf_1)):=mq cn tn Tryz.f247
def pG_slices_IndexFunc_IRect_I_PlaceOf_1_b1 (m:Nat):Lp (Int×List IRect×Int×Int) (Int⊕Int×Int):=fun(v5,v6,v7,v8)=>
 br (decide (v8<v7)) (
 gd (0<=v8/\v8<(↑v6.length:Int)) <|
 bd v6[v8.toNat]? fun x9=>
 bd (pI_PlaceOf_1 m x9 v5) fun(x10,x11)=>
 br x10 (
 some (.inr (.inr (v8,x11)))) <|
 gd (inK .i64 (v8+1)) <|
 some (.inl (x11,v6,v7,v8+1))) <|
 some (.inr (.inl v5))
def pG_slices_IndexFunc_IRect_I_PlaceOf_1 (m:Nat) (a1:List IRect) (a2:Int):Option (Int×Int):=
 jn (V:=Int) (
 loopF (pG_slices_IndexFunc_IRect_I_PlaceOf_1_b1 m) m (a2,a1,(↑a1.length:Int),0)) fun v4=>
 some (-1,v4)
theorem c1024601:CC (mx 246 [none,some (.fn 247 [.ptr 0 0 0 0])] [.row .iRect,jI] 1 (.tup [jI,jI]) (q2 pG_slices_IndexFunc_IRect_I_PlaceOf_1)):=mq (cs c1024700 cn) ⟨[],[],[(2,true,⟨[(1,.fn 247 [(0,0)])],[.bxl 0 [jI],eR 0 .iRect,eI 7,eI 8]⟩,0,⟨[],[.bxl 0 [jI]]⟩)]⟩ Tryz.f246
def pI_PlaceOf (m:Nat) (a1:List INode) (a2 a3 a4:Int):Option (IRect×Bool):=
 bd (pI_Places m a1 a2 a3) fun(x5,x6)=>
 bd (pG_slices_IndexFunc_IRect_I_PlaceOf_1 m x5 a4) fun(x7,x8)=>
 br (decide (x7<0)) (
 some (IRect.mk 0 0 0 0 0,false)) <|
 gd (0<=x7/\x7<(↑x5.length:Int)) <|
 bd x5[x7.toNat]? fun x9=>
 some (x9,true)
theorem c183:CC (mo 183 [.row .iNode,jI,jI,jI] (.tup [jS .iRect,.B]) (q4 pI_PlaceOf)):=mq (cs c175 (cs c1024601 cn)) tn Tryz.f183
def pI_Area (m:Nat) (a1:IState) (a2:Int):Option (Int×Int):=
 bd (pI_WinOf m a1 a2) fun x3=>
 br (decide (x3<0)) (
 some (0,0)) <|
 gd (0<=x3/\x3<(↑a1.Wins.length:Int)) <|
 bd a1.Wins[x3.toNat]? fun x4=>
 bd (α:=IState×IWin×Int×Bool) (
 br x4.Zoom (
 some (a1,x4,a2,x4.Active==a2)) <|
 some (a1,x4,a2,false)) fun(x5,x6,x7,x8)=>
 br x8 (
 some (x5.W,x5.H)) <|
 bd (pI_PlaceOf m x6.Tree x5.W x5.H x7) fun(x9,x10)=>
 some (x9.W,x9.H)
theorem c104:CC (mo 104 [jS .iState,jI] (.tup [jI,jI]) (q2 pI_Area)):=mq (cs c182 (cs c183 cn)) ⟨[(5,⟨[(2,.ptr 300 0),(7,.ptr 800 0)],[.sto 300 .iState [],.sto 800 .iWin [],eI 1,eB 27]⟩)],[],[]⟩ Tryz.f104
def pI_StateOk_1 (m:Nat) (a1:IPane) (a2:IState):Option (Bool×IState):=
 bd (pI_Area m a2 a1.Id) fun(x3,x4)=>
 bd (α:=IState×Bool) (
 br (a1.Term.S.W !=x3) (
 some (a2,true)) <|
 some (a2,a1.Term.S.H !=x4)) fun(x5,x6)=>
 some (x6,x5)
theorem c1010300:CC (mx 103 [none,some (.ptr 0 0 0 0)] [jS .iPane,jS .iState] 1 (.tup [.B,jS .iState]) (q2 pI_StateOk_1)):=mq (cs c104 cn) ⟨[(2,⟨[],[.sto 0 .iState [],eB 3]⟩)],[],[]⟩ Tryz.f103
def pG_slices_IndexFunc_IPane_I_StateOk_1_b1 (m:Nat):Lp (IState×List IPane×Int×Int) (IState⊕Int×IState):=fun(v5,v6,v7,v8)=>
 br (decide (v8<v7)) (
 gd (0<=v8/\v8<(↑v6.length:Int)) <|
 bd v6[v8.toNat]? fun x9=>
 bd (pI_StateOk_1 m x9 v5) fun(x10,x11)=>
 br x10 (
 some (.inr (.inr (v8,x11)))) <|
 gd (inK .i64 (v8+1)) <|
 some (.inl (x11,v6,v7,v8+1))) <|
 some (.inr (.inl v5))
def pG_slices_IndexFunc_IPane_I_StateOk_1 (m:Nat) (a1:List IPane) (a2:IState):Option (Int×IState):=
 jn (V:=IState) (
 loopF (pG_slices_IndexFunc_IPane_I_StateOk_1_b1 m) m (a2,a1,(↑a1.length:Int),0)) fun v4=>
 some (-1,v4)
theorem c1018100:CC (mx 181 [none,some (.fn 103 [.ptr 0 0 0 0])] [.row .iPane,jS .iState] 1 (.tup [jI,jS .iState]) (q2 pG_slices_IndexFunc_IPane_I_StateOk_1)):=mq (cs c1010300 cn) ⟨[],[],[(2,true,⟨[(1,.fn 103 [(0,0)])],[.sto 0 .iState [],eR 0 .iPane,eI 7,eI 8]⟩,0,⟨[],[.sto 0 .iState []]⟩)]⟩ Tryz.f181
def pG_slices_ContainsFunc_IPane_I_StateOk_1 (m:Nat) (a1:List IPane) (a2:IState):Option (Bool×IState):=
 bd (pG_slices_IndexFunc_IPane_I_StateOk_1 m a1 a2) fun(x3,x4)=>
 some (decide (0<=x3),x4)
theorem c1010200:CC (mx 102 [none,some (.fn 103 [.ptr 0 0 0 0])] [.row .iPane,jS .iState] 1 (.tup [.B,jS .iState]) (q2 pG_slices_ContainsFunc_IPane_I_StateOk_1)):=mq (cs c1018100 cn) tn Tryz.f102
def pI_StateOk (m:Nat) (a1:IState):Option Bool:=
 bd (α:=IState×Bool) (
 bd (pI_isSize m a1.W a1.H) fun x2=>
 br (!x2) (
 some (a1,true)) <|
 bd (pI_within m a1.Limit 0 100) fun x3=>
 br (!x3) (
 some (a1,true)) <|
 bd (pI_isId m a1.Next) fun x4=>
 br (!x4) (
 some (a1,true)) <|
 bd (pI_State_panesOk m a1) fun x5=>
 br (!x5) (
 some (a1,true)) <|
 bd (pI_State_winsOk m a1) fun x6=>
 br (!x6) (
 some (a1,true)) <|
 bd (pI_State_sessOk m a1) fun x7=>
 some (a1,!x7)) fun(x8,x9)=>
 br x9 (
 some false) <|
 bd (pG_slices_ContainsFunc_IPane_I_StateOk_1 m x8.Panes x8) fun(x10,x11)=>
 some (!x10)
theorem c33:CC (mo 33 [jS .iState] oB pI_StateOk):=mq (cs c97 (cs c34 (cs c98 (cs c99 (cs c100 (cs c101 (cs c1010200 cn))))))) ⟨[(1,⟨[(1,.ptr 200 0)],[.sto 200 .iState [],eB 35]⟩)],[],[]⟩ Tryz.f33
def pI_Table_procOf_1 (m:Nat) (a1:IProc) (a2:Int):Option (Bool×Int):=
 some (a1.Pane==a2,a2)
theorem c1018500:CC (mx 185 [none,some (.ptr 0 0 0 0)] [jS .iProc,jI] 1 (.tup [.B,jI]) (q2 pI_Table_procOf_1)):=mq cn tn Tryz.f185
def pG_slices_IndexFunc_IProc_I_Table_procOf_1_b1 (m:Nat):Lp (Int×List IProc×Int×Int) (Int⊕Int×Int):=fun(v5,v6,v7,v8)=>
 br (decide (v8<v7)) (
 gd (0<=v8/\v8<(↑v6.length:Int)) <|
 bd v6[v8.toNat]? fun x9=>
 bd (pI_Table_procOf_1 m x9 v5) fun(x10,x11)=>
 br x10 (
 some (.inr (.inr (v8,x11)))) <|
 gd (inK .i64 (v8+1)) <|
 some (.inl (x11,v6,v7,v8+1))) <|
 some (.inr (.inl v5))
def pG_slices_IndexFunc_IProc_I_Table_procOf_1 (m:Nat) (a1:List IProc) (a2:Int):Option (Int×Int):=
 jn (V:=Int) (
 loopF (pG_slices_IndexFunc_IProc_I_Table_procOf_1_b1 m) m (a2,a1,(↑a1.length:Int),0)) fun v4=>
 some (-1,v4)
theorem c1018400:CC (mx 184 [none,some (.fn 185 [.ptr 0 0 0 0])] [.row .iProc,jI] 1 (.tup [jI,jI]) (q2 pG_slices_IndexFunc_IProc_I_Table_procOf_1)):=mq (cs c1018500 cn) ⟨[],[],[(2,true,⟨[(1,.fn 185 [(0,0)])],[.bxl 0 [jI],eR 0 .iProc,eI 7,eI 8]⟩,0,⟨[],[.bxl 0 [jI]]⟩)]⟩ Tryz.f184
def pI_Table_procOf (m:Nat) (a1:ITable) (a2:Int):Option Int:=
 bd (pG_slices_IndexFunc_IProc_I_Table_procOf_1 m a1.Live a2) fun(x3,x4)=>
 some x3
theorem c105:CC (mo 105 [jS .iTable,jI] oI (q2 pI_Table_procOf)):=mq (cs c1018400 cn) tn Tryz.f105
def pI_TableOk_b1 (m:Nat):Lp (ITable×List IProc×Int×Int) (ITable⊕Bool):=fun(v5,v6,v7,v8)=>
 br (decide (v8<v7)) (
 gd (0<=v8/\v8<(↑v6.length:Int)) <|
 bd v6[v8.toNat]? fun x9=>
 bd (α:=ITable×List IProc×Int×Int×Bool) (
 bd (pI_within m x9.Pid 1 (IntKind.i64.wrap (v5.Next-1))) fun x10=>
 br (!x10) (
 some (v5,v6,v7,v8,true)) <|
 br (decide (0<v8)) (
 gd (inK .i64 (v8-1)) <|
 gd (0<=v8-1/\v8-1<(↑v5.Live.length:Int)) <|
 bd (v5.Live[(v8-1).toNat]?) fun x11=>
 br (decide (x9.Pid<=x11.Pid)) (
 some (v5,v6,v7,v8,true)) <|
 bd (pI_isId m x9.Pane) fun x12=>
 br (!x12) (
 some (v5,v6,v7,v8,true)) <|
 bd (pI_Table_procOf m v5 x9.Pane) fun x13=>
 some (v5,v6,v7,v8,x13 !=v8)) <|
 bd (pI_isId m x9.Pane) fun x14=>
 br (!x14) (
 some (v5,v6,v7,v8,true)) <|
 bd (pI_Table_procOf m v5 x9.Pane) fun x15=>
 some (v5,v6,v7,v8,x15 !=v8)) fun(x16,x17,x18,x19,x20)=>
 br x20 (
 some (.inr (.inr false))) <|
 gd (inK .i64 (x19+1)) <|
 some (.inl (x16,x17,x18,x19+1))) <|
 some (.inr (.inl v5))
def pI_TableOk (m:Nat) (a1:ITable):Option Bool:=
 jn (V:=ITable) (
 loopF (pI_TableOk_b1 m) m (a1,a1.Live,(↑a1.Live.length:Int),0)) fun v3=>
 bd (pI_isId m v3.Next) fun x4=>
 some x4
theorem c35:CC (mo 35 [jS .iTable] oB pI_TableOk):=mq (cs c34 (cs c98 (cs c105 cn))) ⟨[(4,⟨[(1,.ptr 200 0)],[.sto 200 .iTable [],eR 6 .iProc,eI 7,eI 8,eB 49]⟩)],[],[(2,true,⟨[(1,.ptr 200 0)],[.sto 200 .iTable [],eR 6 .iProc,eI 7,eI 8]⟩,0,⟨[(1,.ptr 200 0)],[.sto 200 .iTable []]⟩)]⟩ Tryz.f35
def pI_OpsOf_b1 (m:Nat):Lp (Int×List IHist×Int×Int) Int:=fun(v4,v5,v6,v7)=>
 br (decide (v7<v6)) (
 bd (α:=Int×List IHist×Int×Int) (
 gd (0<=v7/\v7<(↑v5.length:Int)) <|
 bd v5[v7.toNat]? fun x8=>
 br (!x8.Lost) (
 gd (inK .i64 (v4+1)) <|
 some (v4+1,v5,v6,v7)) <|
 some (v4,v5,v6,v7)) fun(x9,x10,x11,x12)=>
 gd (inK .i64 (x12+1)) <|
 some (.inl (x9,x10,x11,x12+1))) <|
 some (.inr v4)
def pI_OpsOf (m:Nat) (a1:List IHist):Option Int:=
 bd (α:=Int) (
 loopF (pI_OpsOf_b1 m) m (0,a1,(↑a1.length:Int),0)) fun x3=>
 some x3
theorem c39:CC (mo 39 [.row .iHist] oI pI_OpsOf):=mq cn ⟨[],[(7,false,⟨[],[eI 3,eR 6 .iHist,eI 7,eI 8]⟩)],[(3,false,⟨[],[eI 3,eR 6 .iHist,eI 7,eI 8]⟩,0,⟨[],[eI 3]⟩)]⟩ Tryz.f39
def pI_Disk_used_b1 (m:Nat):Lp (Int×List IFile×Int×Int) Int:=fun(v4,v5,v6,v7)=>
 br (decide (v7<v6)) (
 gd (0<=v7/\v7<(↑v5.length:Int)) <|
 bd v5[v7.toNat]? fun x8=>
 gd (inK .i64 (v4+(↑x8.Body.length:Int))) <|
 gd (inK .i64 (v7+1)) <|
 some (.inl (v4+(↑x8.Body.length:Int),v5,v6,v7+1))) <|
 some (.inr v4)
def pI_Disk_used (m:Nat) (a1:IDisk):Option Int:=
 bd (α:=Int) (
 loopF (pI_Disk_used_b1 m) m (0,a1.Files,(↑a1.Files.length:Int),0)) fun x3=>
 some x3
theorem c192:CC (mo 192 [jS .iDisk] oI pI_Disk_used):=mq cn ⟨[],[],[(3,false,⟨[],[eI 3,eR 7 .iFile,eI 8,eI 9]⟩,0,⟨[],[eI 3]⟩)]⟩ Tryz.f192
def pI_Disk_filesOk_b1 (m:Nat):Lp (IDisk×List IFile×Int×Int) (IDisk⊕Bool):=fun(v6,v7,v8,v9)=>
 br (decide (v9<v8)) (
 gd (0<=v9/\v9<(↑v7.length:Int)) <|
 bd v7[v9.toNat]? fun x10=>
 bd (α:=IDisk×List IFile×Int×Int×Bool) (
 bd (pI_within m x10.Id 1 (IntKind.i64.wrap (v6.Next-1))) fun x11=>
 br (!x11) (
 some (v6,v7,v8,v9,true)) <|
 br (decide (0<v9)) (
 gd (inK .i64 (v9-1)) <|
 gd (0<=v9-1/\v9-1<(↑v6.Files.length:Int)) <|
 bd (v6.Files[(v9-1).toNat]?) fun x12=>
 br (decide (x10.Id<=x12.Id)) (
 some (v6,v7,v8,v9,true)) <|
 bd (pI_within m x10.Safe 0 (↑x10.Body.length:Int)) fun x13=>
 some (v6,v7,v8,v9,!x13)) <|
 bd (pI_within m x10.Safe 0 (↑x10.Body.length:Int)) fun x14=>
 some (v6,v7,v8,v9,!x14)) fun(x15,x16,x17,x18,x19)=>
 br x19 (
 some (.inr (.inr false))) <|
 gd (inK .i64 (x18+1)) <|
 some (.inl (x15,x16,x17,x18+1))) <|
 some (.inr (.inl v6))
def pI_Disk_filesOk (m:Nat) (a1:IDisk):Option Bool:=
 jn (V:=IDisk) (
 loopF (pI_Disk_filesOk_b1 m) m (a1,a1.Files,(↑a1.Files.length:Int),0)) fun v3=>
 bd (α:=Bool) (
 br (decide ((↑v3.Files.length:Int)<=10)) (
 bd (pI_Disk_used m v3) fun x4=>
 some (decide (x4<=v3.Room))) <|
 some false) fun x5=>
 some x5
theorem c112:CC (mo 112 [jS .iDisk] oB pI_Disk_filesOk):=mq (cs c34 (cs c192 cn)) ⟨[(4,⟨[(1,.ptr 200 0)],[.sto 200 .iDisk [],eR 6 .iFile,eI 7,eI 8,eB 44]⟩),(7,⟨[],[eB 2]⟩)],[],[(2,true,⟨[(1,.ptr 200 0)],[.sto 200 .iDisk [],eR 6 .iFile,eI 7,eI 8]⟩,0,⟨[(1,.ptr 200 0)],[.sto 200 .iDisk []]⟩)]⟩ Tryz.f112
def pI_NameOk (m:Nat) (a1:ByteArray):Option Bool:=
 bd (pI_isPlain m a1 16 (ByteArray.mk #[46])) fun x2=>
 some x2
theorem c193:CC (mo 193 [.S] oB pI_NameOk):=mq (cs c237 cn) tn Tryz.f193
def pI_isTurn (m:Nat) (a1:ITurn):Option Bool:=
 br (a1.Kind==1) (
 bd (α:=Bool) (
 bd (pI_NameOk m a1.Name) fun x2=>
 br x2 (
 some (decide (a1.To=ByteArray.mk #[]))) <|
 some false) fun x3=>
 some x3) <|
 br (a1.Kind==4) (
 bd (α:=Bool) (
 bd (pI_NameOk m a1.Name) fun x4=>
 br x4 (
 bd (pI_NameOk m a1.To) fun x5=>
 br x5 (
 some (a1.Id==0)) <|
 some false) <|
 some false) fun x6=>
 some x6) <|
 br (a1.Kind==5) (
 bd (α:=Bool) (
 bd (pI_NameOk m a1.Name) fun x7=>
 br x7 (
 br (decide (a1.To=ByteArray.mk #[])) (
 some (a1.Id==0)) <|
 some false) <|
 some false) fun x8=>
 some x8) <|
 some false
theorem c194:CC (mo 194 [jS .iTurn] oB pI_isTurn):=mq (cs c193 cn) ⟨[(3,⟨[],[eB 2]⟩),(5,⟨[],[eB 2]⟩),(7,⟨[],[eB 2]⟩)],[],[]⟩ Tryz.f194
def pI_linkOf_1 (m:Nat) (a1:ILink) (a2:ByteArray):Option (Bool×ByteArray):=
 some (decide (a1.Name=a2),a2)
theorem c1027900:CC (mx 279 [none,some (.ptr 0 0 0 0)] [jS .iLink,.S] 1 (.tup [.B,.S]) (q2 pI_linkOf_1)):=mq cn tn Tryz.f279
def pG_slices_IndexFunc_ILink_I_linkOf_1_b1 (m:Nat):Lp (ByteArray×List ILink×Int×Int) (ByteArray⊕Int×ByteArray):=fun(v5,v6,v7,v8)=>
 br (decide (v8<v7)) (
 gd (0<=v8/\v8<(↑v6.length:Int)) <|
 bd v6[v8.toNat]? fun x9=>
 bd (pI_linkOf_1 m x9 v5) fun(x10,x11)=>
 br x10 (
 some (.inr (.inr (v8,x11)))) <|
 gd (inK .i64 (v8+1)) <|
 some (.inl (x11,v6,v7,v8+1))) <|
 some (.inr (.inl v5))
def pG_slices_IndexFunc_ILink_I_linkOf_1 (m:Nat) (a1:List ILink) (a2:ByteArray):Option (Int×ByteArray):=
 jn (V:=ByteArray) (
 loopF (pG_slices_IndexFunc_ILink_I_linkOf_1_b1 m) m (a2,a1,(↑a1.length:Int),0)) fun v4=>
 some (-1,v4)
theorem c1027800:CC (mx 278 [none,some (.fn 279 [.ptr 0 0 0 0])] [.row .iLink,.S] 1 (.tup [jI,.S]) (q2 pG_slices_IndexFunc_ILink_I_linkOf_1)):=mq (cs c1027900 cn) ⟨[],[],[(2,true,⟨[(1,.fn 279 [(0,0)])],[.bxl 0 [.S],eR 0 .iLink,eI 7,eI 8]⟩,0,⟨[],[.bxl 0 [.S]]⟩)]⟩ Tryz.f278
def pI_linkOf (m:Nat) (a1:List ILink) (a2:ByteArray):Option Int:=
 bd (pG_slices_IndexFunc_ILink_I_linkOf_1 m a1 a2) fun(x3,x4)=>
 some x3
theorem c249:CC (mo 249 [.row .iLink,.S] oI (q2 pI_linkOf)):=mq (cs c1027800 cn) tn Tryz.f249
def pG_slices_Clone_ILink (m:Nat) (a1:List ILink):Option (List ILink):=
 cmpN a1 (
 some []) <|
 gd (roomB .iLink ([]++a1).length) <|
 some ([]++a1)
theorem c285:CC (mo 285 [.row .iLink] (.one (.own .iLink 99)) pG_slices_Clone_ILink):=mq cn tn Tryz.f285
def pI_withLink_1 (m:Nat) (a1 a2:ILink):Option Int:=
 bd (pG_strings_Compare a1.Name a2.Name) fun x3=>
 some x3
theorem c282:CC (mo 282 [jS .iLink,jS .iLink] oI (q2 pI_withLink_1)):=mq (cs c283 cn) tn Tryz.f282
def pG_slices_BinarySearchFunc_ILink_I_withLink_1_b1 (m:Nat):Lp (ILink×List ILink×Int×Int×Int) (ILink×List ILink×Int×Int):=fun(v12,v13,v14,v15,v16)=>
 br (decide (v15<v16)) (
 gd (inK .i64 (v15+v16)) <|
 gd ((0:Int)<=(1:Int)) <|
 gd (inK .i64 ((IntKind.u64.wrap (v15+v16)).fdiv (2 ^ min (Int.toNat 1) IntKind.u64.bits))) <|
 gd (0<=(IntKind.u64.wrap (v15+v16)).fdiv (2 ^ min (Int.toNat 1) IntKind.u64.bits)/\(IntKind.u64.wrap (v15+v16)).fdiv (2 ^ min (Int.toNat 1) IntKind.u64.bits)<(↑v13.length:Int)) <|
 bd (v13[((IntKind.u64.wrap (v15+v16)).fdiv (2 ^ min (Int.toNat 1) IntKind.u64.bits)).toNat]?) fun x17=>
 bd (pI_withLink_1 m x17 v12) fun x18=>
 br (decide (x18<0)) (
 gd (inK .i64 ((IntKind.u64.wrap (v15+v16)).fdiv (2 ^ min (Int.toNat 1) IntKind.u64.bits)+1)) <|
 some (.inl (v12,v13,v14,(IntKind.u64.wrap (v15+v16)).fdiv (2 ^ min (Int.toNat 1) IntKind.u64.bits)+1,v16))) <|
 some (.inl (v12,v13,v14,v15,(IntKind.u64.wrap (v15+v16)).fdiv (2 ^ min (Int.toNat 1) IntKind.u64.bits)))) <|
 some (.inr (v12,v13,v14,v15))
def pG_slices_BinarySearchFunc_ILink_I_withLink_1 (m:Nat) (a1:List ILink) (a2:ILink):Option (Int×Bool):=
 bd (α:=ILink×List ILink×Int×Int) (
 loopF (pG_slices_BinarySearchFunc_ILink_I_withLink_1_b1 m) m (a2,a1,(↑a1.length:Int),0,(↑a1.length:Int))) fun(x4,x5,x6,x7)=>
 bd (α:=Int×Bool) (
 br (decide (x7<x6)) (
 gd (0<=x7/\x7<(↑x5.length:Int)) <|
 bd x5[x7.toNat]? fun x8=>
 bd (pI_withLink_1 m x8 x4) fun x9=>
 some (x7,x9==0)) <|
 some (x7,false)) fun(x10,x11)=>
 some (x10,x11)
theorem c1028100:CC (mx 281 [none,none,some (.fn 282 [])] [.row .iLink,jS .iLink] 0 (.tup [jI,.B]) (q2 pG_slices_BinarySearchFunc_ILink_I_withLink_1)):=mq (cs c282 cn) ⟨[(8,⟨[],[eI 6,eB 7]⟩)],[],[(3,false,⟨[(2,.fn 282 []),(4,.ptr 500 0)],[.sto 500 .iLink [],eR 0 .iLink,eI 8,eI 9,eI 10]⟩,0,⟨[(2,.fn 282 []),(4,.ptr 500 0)],[.sto 500 .iLink [],eR 0 .iLink,eI 8,eI 9]⟩)]⟩ Tryz.f281
def pI_withLink (m:Nat) (a1:List ILink) (a2:ILink):Option (List ILink):=
 bd (pG_slices_BinarySearchFunc_ILink_I_withLink_1 m a1 a2) fun(x3,x4)=>
 bd (pG_slices_Clone_ILink m a1) fun x5=>
 bd (pG_slices_Insert_ILink x5 x3 [a2]) fun x6=>
 some x6
theorem c254:CC (mo 254 [.row .iLink,jS .iLink] (.one (.own .iLink 99)) (q2 pI_withLink)):=mq (cs c1028100 (cs c285 (cs c284 cn))) tn Tryz.f254
def pI_withoutLink_1 (m:Nat) (a1:ILink) (a2:ByteArray):Option (Bool×ByteArray):=
 some (decide (a1.Name=a2),a2)
theorem c1028700:CC (mx 287 [none,some (.ptr 0 0 0 0)] [jS .iLink,.S] 1 (.tup [.B,.S]) (q2 pI_withoutLink_1)):=mq cn tn Tryz.f287
def pG_slices_IndexFunc_ILink_I_withoutLink_1_b1 (m:Nat):Lp (ByteArray×List ILink×Int×Int) (ByteArray⊕Int×ByteArray):=fun(v5,v6,v7,v8)=>
 br (decide (v8<v7)) (
 gd (0<=v8/\v8<(↑v6.length:Int)) <|
 bd v6[v8.toNat]? fun x9=>
 bd (pI_withoutLink_1 m x9 v5) fun(x10,x11)=>
 br x10 (
 some (.inr (.inr (v8,x11)))) <|
 gd (inK .i64 (v8+1)) <|
 some (.inl (x11,v6,v7,v8+1))) <|
 some (.inr (.inl v5))
def pG_slices_IndexFunc_ILink_I_withoutLink_1 (m:Nat) (a1:List ILink) (a2:ByteArray):Option (Int×ByteArray):=
 jn (V:=ByteArray) (
 loopF (pG_slices_IndexFunc_ILink_I_withoutLink_1_b1 m) m (a2,a1,(↑a1.length:Int),0)) fun v4=>
 some (-1,v4)
theorem c1027801:CC (mx 278 [none,some (.fn 287 [.ptr 0 0 0 0])] [.row .iLink,.S] 1 (.tup [jI,.S]) (q2 pG_slices_IndexFunc_ILink_I_withoutLink_1)):=mq (cs c1028700 cn) ⟨[],[],[(2,true,⟨[(1,.fn 287 [(0,0)])],[.bxl 0 [.S],eR 0 .iLink,eI 7,eI 8]⟩,0,⟨[],[.bxl 0 [.S]]⟩)]⟩ Tryz.f278
def pG_slices_DeleteFunc_ILink_I_withoutLink_1_b1 (m:Nat):Lp (ByteArray×List ILink×Int×Int) (ByteArray×List ILink×Int):=fun(v9,v10,v11,v12)=>
 br (decide (v12<(↑v10.length:Int))) (
 bd (α:=ByteArray×List ILink×Int×Int) (
 gd (0<=v12/\v12<(↑v10.length:Int)) <|
 bd (v10[0+v12.toNat]?) fun x13=>
 bd (pI_withoutLink_1 m x13 v9) fun(x14,x15)=>
 br (!x14) (
 gd (0<=v11/\v11<(↑v10.length:Int)) <|
 bd (v10[0+v11.toNat]?) fun x16=>
 gd (inK .i64 (v11+1)) <|
 some (x15,v10.set (0+v11.toNat) x13,v11+1,v12)) <|
 some (x15,v10,v11,v12)) fun(x17,x18,x19,x20)=>
 gd (inK .i64 (x20+1)) <|
 some (.inl (x17,x18,x19,x20+1))) <|
 some (.inr (v9,v10,v11))
def pG_slices_DeleteFunc_ILink_I_withoutLink_1 (m:Nat) (a1:List ILink) (a2:ByteArray):Option (List ILink×ByteArray):=
 bd (pG_slices_IndexFunc_ILink_I_withoutLink_1 m a1 a2) fun(x3,x4)=>
 br (x3== -1) (
 some (a1,x4)) <|
 gd (inK .i64 (x3+1)) <|
 bd (α:=ByteArray×List ILink×Int) (
 loopF (pG_slices_DeleteFunc_ILink_I_withoutLink_1_b1 m) m (x4,a1,x3,x3+1)) fun(x6,x7,x8)=>
 gd (0<=x8/\x8<=(↑x7.length:Int)) <|
 gd (0<=x8/\x8<=(↑x7.length:Int)) <|
 some (List.take (x8.toNat-0) (List.drop (0+0) (putL x7 (0+x8.toNat) (List.replicate (x7.length-x8.toNat) (zK K.iLink)))),x6)
theorem c1028600:CC (mx 286 [none,some (.fn 287 [.ptr 0 0 0 0])] [.own .iLink 99,.S] 1 (.tup [.row .iLink,.S]) (q2 pG_slices_DeleteFunc_ILink_I_withoutLink_1)):=mq (cs c1027801 (cs c1028700 cn)) ⟨[],[(6,false,⟨[(1,.fn 287 [(0,0)])],[.bxl 0 [.S],eO 0 .iLink 90000000,eI 5,eI 6]⟩)],[(5,false,⟨[(1,.fn 287 [(0,0)])],[.bxl 0 [.S],eO 0 .iLink 90000000,eI 5,eI 6]⟩,0,⟨[],[.bxl 0 [.S],eO 0 .iLink 90000000,eI 5]⟩)]⟩ Tryz.f286
def pI_withoutLink (m:Nat) (a1:List ILink) (a2:ByteArray):Option (List ILink):=
 bd (pG_slices_Clone_ILink m a1) fun x3=>
 bd (pG_slices_DeleteFunc_ILink_I_withoutLink_1 m x3 a2) fun(x4,x5)=>
 some x4
theorem c255:CC (mo 255 [.row .iLink,.S] (.one (.row .iLink)) (q2 pI_withoutLink)):=mq (cs c285 (cs c1028600 cn)) tn Tryz.f255
def pI_applied (m:Nat) (a1:List ILink) (a2:ITurn):Option (List ILink×Bool):=
 bd (pI_linkOf m a1 a2.Name) fun x3=>
 br (a2.Kind==1) (
 br (decide (0<=x3)) (
 some ([],false)) <|
 bd (pI_withLink m a1 (ILink.mk a2.Name a2.Id)) fun x4=>
 some (x4,true)) <|
 bd (α:=ITurn×List ILink×Int×Bool) (
 br (decide (x3<0)) (
 some (a2,a1,x3,true)) <|
 br (a2.Kind==4) (
 some (a2,a1,x3,decide (a2.To=a2.Name))) <|
 some (a2,a1,x3,false)) fun(x5,x6,x7,x8)=>
 br x8 (
 some ([],false)) <|
 gd (0<=x7/\x7<(↑x6.length:Int)) <|
 bd x6[x7.toNat]? fun x9=>
 bd (pI_withoutLink m x6 x5.Name) fun x10=>
 bd (α:=List ILink) (
 br (x5.Kind==4) (
 bd (pI_withoutLink m x10 x5.To) fun x11=>
 bd (pI_withLink m x11 (ILink.mk x5.To x9.Id)) fun x12=>
 some x12) <|
 some x10) fun x13=>
 some (x13,true)
theorem c195:CC (mo 195 [.row .iLink,jS .iTurn] (.tup [.row .iLink,.B]) (q2 pI_applied)):=mq (cs c249 (cs c254 (cs c255 cn))) ⟨[(6,⟨[(3,.ptr 400 0)],[.sto 400 .iTurn [],eR 0 .iLink,eI 6,eB 38]⟩)],[(11,false,⟨[],[eR 8 .iLink]⟩)],[]⟩ Tryz.f195
def pI_Disk_linksOk_1 (m:Nat) (a1:Int) (a2:IFile):Option Bool:=
 some (a1==a2.Id)
theorem c198:CC (mo 198 [jI,jS .iFile] oB (q2 pI_Disk_linksOk_1)):=mq cn tn Tryz.f198
def pG_slices_EqualFunc_IFile_I_Disk_linksOk_1_b1 (m:Nat):Lp (List IFile×List Int×Int×Int) (Unit⊕Bool):=fun(v4,v5,v6,v7)=>
 br (decide (v7<v6)) (
 gd (0<=v7/\v7<(↑v5.length:Int)) <|
 bd v5[v7.toNat]? fun x8=>
 gd (0<=v7/\v7<(↑v4.length:Int)) <|
 bd v4[v7.toNat]? fun x9=>
 bd (pI_Disk_linksOk_1 m x8 x9) fun x10=>
 br (!x10) (
 some (.inr (.inr false))) <|
 gd (inK .i64 (v7+1)) <|
 some (.inl (v4,v5,v6,v7+1))) <|
 some (.inr (.inl ()))
def pG_slices_EqualFunc_IFile_I_Disk_linksOk_1 (m:Nat) (a1:List Int) (a2:List IFile):Option Bool:=
 br ((↑a1.length:Int) !=(↑a2.length:Int)) (
 some false) <|
 jn (V:=Unit) (
 loopF (pG_slices_EqualFunc_IFile_I_Disk_linksOk_1_b1 m) m (a2,a1,(↑a1.length:Int),0)) fun _=>
 some true
theorem c1019700:CC (mx 197 [none,none,some (.fn 198 [])] [.row .int,.row .iFile] 0 oB (q2 pG_slices_EqualFunc_IFile_I_Disk_linksOk_1)):=mq (cs c198 cn) ⟨[],[],[(4,true,⟨[(2,.fn 198 [])],[eR 1 .iFile,eR 15 .int,eI 16,eI 17]⟩,0,⟨[],[]⟩)]⟩ Tryz.f197
def pI_Disk_linksOk_b2 (m:Nat):Lp (IDisk×List Int×List ILink×List ITurn×Int×Int) (IDisk×List Int⊕Bool):=fun(v27,v28,v29,v30,v31,v32)=>
 br (decide (v32<v31)) (
 jn (V:=IDisk×List Int×List ILink×List ITurn×Int×Int) (
 gd (0<=v32/\v32<(↑v30.length:Int)) <|
 bd v30[v32.toNat]? fun x33=>
 bd (pI_isTurn m x33) fun x34=>
 br (!x34) (
 some (.inr (.inr (.inr false)))) <|
 bd (pI_applied m v29 x33) fun(x35,x36)=>
 br (!x36) (
 some (.inr (.inr (.inr false)))) <|
 br (x33.Kind==1) (
 gd (roomB .int (v28++ [x33.Id]).length) <|
 some (.inl (v27,v28++ [x33.Id],x35,v30,v31,v32))) <|
 some (.inl (v27,v28,x35,v30,v31,v32))) fun(v37,v38,v39,v40,v41,v42)=>
 gd (inK .i64 (v42+1)) <|
 some (.inl (v37,v38,v39,v40,v41,v42+1))) <|
 some (.inr (.inl (v27,v28)))
def pI_Disk_linksOk_b1 (m:Nat):Lp (IDisk×List Int×List ILink×Int×Int) (IDisk×List Int⊕Bool):=fun(v12,v13,v14,v15,v16)=>
 br (decide (v16<v15)) (
 gd (0<=v16/\v16<(↑v14.length:Int)) <|
 bd v14[v16.toNat]? fun x17=>
 bd (α:=IDisk×ILink×List Int×List ILink×Int×Int×Bool) (
 bd (pI_NameOk m x17.Name) fun x18=>
 br (!x18) (
 some (v12,x17,v13,v14,v15,v16,true)) <|
 br (decide (0<v16)) (
 gd (inK .i64 (v16-1)) <|
 gd (0<=v16-1/\v16-1<(↑v12.Kept.length:Int)) <|
 bd (v12.Kept[(v16-1).toNat]?) fun x19=>
 some (v12,x17,v13,v14,v15,v16,!Op.bytesLess x19.Name.toList x17.Name.toList)) <|
 some (v12,x17,v13,v14,v15,v16,false)) fun(x20,x21,x22,x23,x24,x25,x26)=>
 br x26 (
 some (.inr (.inr false))) <|
 gd (roomB .int (x22++ [x21.Id]).length) <|
 gd (inK .i64 (x25+1)) <|
 some (.inl (x20,x22++ [x21.Id],x23,x24,x25+1))) <|
 some (.inr (.inl (v12,v13)))
def pI_Disk_linksOk (m:Nat) (a1:IDisk):Option Bool:=
 bd (α:=IDisk×Bool) (
 br (decide (30<(↑a1.Turns.length:Int))) (
 some (a1,true)) <|
 some (a1,decide (10<(↑a1.Kept.length:Int)))) fun(x2,x3)=>
 br x3 (
 some false) <|
 jn (V:=IDisk×List Int) (
 loopF (pI_Disk_linksOk_b1 m) m (x2,[],x2.Kept,(↑x2.Kept.length:Int),0)) fun(v5,v6)=>
 jn (V:=IDisk×List Int) (
 loopF (pI_Disk_linksOk_b2 m) m (v5,v6,v5.Kept,v5.Turns,(↑v5.Turns.length:Int),0)) fun(v8,v9)=>
 bd (pG_slices_Sort_int v9) fun x10=>
 bd (pG_slices_EqualFunc_IFile_I_Disk_linksOk_1 m x10 v8.Files) fun x11=>
 some x11
theorem c113:CC (mo 113 [jS .iDisk] oB pI_Disk_linksOk):=mq (cs c193 (cs c194 (cs c195 (cs c196 (cs c1019700 cn))))) ⟨[(1,⟨[(1,.ptr 200 0)],[.sto 200 .iDisk [],eB 19]⟩),(7,⟨[(1,.ptr 200 0),(5,.ptr 600 0)],[.sto 200 .iDisk [],.sto 600 .iLink [],eO 3 .int 2100,eR 22 .iLink,eI 23,eI 24,eB 48]⟩)],[(22,true,⟨[(1,.ptr 200 0)],[.sto 200 .iDisk [],eO 3 .int 2100,eR 6 .iLink,eR 58 .iTurn,eI 59,eI 60]⟩)],[(5,true,⟨[(1,.ptr 200 0)],[.sto 200 .iDisk [],eO 3 .int 2100,eR 22 .iLink,eI 23,eI 24]⟩,0,⟨[(1,.ptr 200 0)],[.sto 200 .iDisk [],eO 3 .int 2100]⟩),(13,true,⟨[(1,.ptr 200 0)],[.sto 200 .iDisk [],eO 3 .int 2100,eR 6 .iLink,eR 58 .iTurn,eI 59,eI 60]⟩,2,⟨[(1,.ptr 200 0)],[.sto 200 .iDisk [],eO 3 .int 2100]⟩)]⟩ Tryz.f113
def pI_DiskOk (m:Nat) (a1:IDisk):Option Bool:=
 bd (α:=Bool) (
 bd (pI_within m a1.Room 0 400000) fun x2=>
 br x2 (
 bd (pI_within m a1.Fuse (-1) 1000) fun x3=>
 br x3 (
 bd (pI_within m a1.Next 1 1000000) fun x4=>
 br x4 (
 bd (pI_Disk_filesOk m a1) fun x5=>
 br x5 (
 bd (pI_Disk_linksOk m a1) fun x6=>
 some x6) <|
 some false) <|
 some false) <|
 some false) <|
 some false) fun x7=>
 some x7
theorem c44:CC (mo 44 [jS .iDisk] oB pI_DiskOk):=mq (cs c34 (cs c112 (cs c113 cn))) ⟨[(1,⟨[],[eB 2]⟩)],[],[]⟩ Tryz.f44
def pI_isGen (m:Nat) (a1:Int):Option Bool:=
 bd (pI_within m a1 1 1000000000) fun x2=>
 some x2
theorem c109:CC (mo 109 [jI] oB pI_isGen):=mq (cs c34 cn) tn Tryz.f109
def pI_dirOf_b1 (m:Nat):Lp (List ILink×List ITurn×Int×Int) (List ILink):=fun(v6,v7,v8,v9)=>
 br (decide (v9<v8)) (
 gd (0<=v9/\v9<(↑v7.length:Int)) <|
 bd v7[v9.toNat]? fun x10=>
 bd (pI_applied m v6 x10) fun(x11,x12)=>
 gd (inK .i64 (v9+1)) <|
 some (.inl (x11,v7,v8,v9+1))) <|
 some (.inr v6)
def pI_dirOf (m:Nat) (a1:List ILink) (a2:List ITurn):Option (List ILink):=
 bd (pG_slices_Clone_ILink m a1) fun x3=>
 bd (α:=List ILink) (
 loopF (pI_dirOf_b1 m) m (x3,a2,(↑a2.length:Int),0)) fun x5=>
 some x5
theorem c277:CC (mo 277 [.row .iLink,.row .iTurn] (.one (.row .iLink)) (q2 pI_dirOf)):=mq (cs c285 (cs c195 cn)) ⟨[],[],[(3,false,⟨[],[eR 5 .iLink,eR 10 .iTurn,eI 11,eI 12]⟩,0,⟨[],[eR 5 .iLink]⟩)]⟩ Tryz.f277
def pI_Disk_dir (m:Nat) (a1:IDisk):Option (List ILink):=
 bd (pI_dirOf m a1.Kept a1.Turns) fun x2=>
 some x2
theorem c248:CC (mo 248 [jS .iDisk] (.one (.row .iLink)) pI_Disk_dir):=mq (cs c277 cn) tn Tryz.f248
def pI_Disk_file_1 (m:Nat) (a1:IFile) (a2:List ILink) (a3:Int):Option (Bool×List ILink×Int):=
 gd (0<=a3/\a3<(↑a2.length:Int)) <|
 bd a2[a3.toNat]? fun x4=>
 some (a1.Id==x4.Id,a2,a3)
theorem c1025100:CC (mx 251 [none,some (.ptr 0 0 0 0),some (.ptr 1 0 0 0)] [jS .iFile,.row .iLink,jI] 2 (.tup [.B,.row .iLink,jI]) (q3 pI_Disk_file_1)):=mq cn tn Tryz.f251
def pG_slices_IndexFunc_IFile_I_Disk_file_1_b1 (m:Nat):Lp (List ILink×Int×List IFile×Int×Int) (List ILink×Int⊕Int×List ILink×Int):=fun(v7,v8,v9,v10,v11)=>
 br (decide (v11<v10)) (
 gd (0<=v11/\v11<(↑v9.length:Int)) <|
 bd v9[v11.toNat]? fun x12=>
 bd (pI_Disk_file_1 m x12 v7 v8) fun(x13,x14,x15)=>
 br x13 (
 some (.inr (.inr (v11,x14,x15)))) <|
 gd (inK .i64 (v11+1)) <|
 some (.inl (x14,x15,v9,v10,v11+1))) <|
 some (.inr (.inl (v7,v8)))
def pG_slices_IndexFunc_IFile_I_Disk_file_1 (m:Nat) (a1:List IFile) (a2:List ILink) (a3:Int):Option (Int×List ILink×Int):=
 jn (V:=List ILink×Int) (
 loopF (pG_slices_IndexFunc_IFile_I_Disk_file_1_b1 m) m (a2,a3,a1,(↑a1.length:Int),0)) fun(v5,v6)=>
 some (-1,v5,v6)
theorem c1025000:CC (mx 250 [none,some (.fn 251 [.ptr 0 0 0 0,.ptr 1 0 0 0])] [.row .iFile,.row .iLink,jI] 2 (.tup [jI,.row .iLink,jI]) (q3 pG_slices_IndexFunc_IFile_I_Disk_file_1)):=mq (cs c1025100 cn) ⟨[],[],[(2,true,⟨[(1,.fn 251 [(0,0),(1,0)])],[.bxl 0 [.row .iLink],.bxl 1 [jI],eR 0 .iFile,eI 7,eI 8]⟩,0,⟨[],[.bxl 0 [.row .iLink],.bxl 1 [jI]]⟩)]⟩ Tryz.f250
def pI_Disk_file (m:Nat) (a1:IDisk) (a2:ByteArray):Option Int:=
 bd (pI_Disk_dir m a1) fun x3=>
 bd (pI_linkOf m x3 a2) fun x4=>
 br (decide (x4<0)) (
 some (-1)) <|
 bd (pG_slices_IndexFunc_IFile_I_Disk_file_1 m a1.Files x3 x4) fun(x5,x6,x7)=>
 some x5
theorem c189:CC (mo 189 [jS .iDisk,.S] oI (q2 pI_Disk_file)):=mq (cs c248 (cs c249 (cs c1025000 cn))) tn Tryz.f189
def pG_slices_Clone_byte (m:Nat) (a1:List UInt8):Option (List UInt8):=
 cmpN a1 (
 some []) <|
 gd (roomB .u8 ([]++a1).length) <|
 some ([]++a1)
theorem c190:CC (mo 190 [.row .u8] (.one (.own .u8 99)) pG_slices_Clone_byte):=mq cn tn Tryz.f190
def pI_DiskRead (m:Nat) (a1:IDisk) (a2:ByteArray):Option (List UInt8×Bool):=
 bd (pI_DiskOk m a1) fun x3=>
 br (!x3) (
 some ([],false)) <|
 bd (pI_Disk_file m a1 a2) fun x4=>
 br (decide (x4<0)) (
 some ([],false)) <|
 gd (0<=x4/\x4<(↑a1.Files.length:Int)) <|
 bd a1.Files[x4.toNat]? fun x5=>
 bd (pG_slices_Clone_byte m x5.Body) fun x6=>
 some (x6,true)
theorem c110:CC (mo 110 [jS .iDisk,.S] (.tup [.own .u8 99,.B]) (q2 pI_DiskRead)):=mq (cs c44 (cs c189 (cs c190 cn))) tn Tryz.f110
def pI_isNum (m:Nat) (a1:Int):Option Bool:=
 bd (pI_within m a1 0 4294967295) fun x2=>
 some x2
theorem c252:CC (mo 252 [jI] oB pI_isNum):=mq (cs c34 cn) tn Tryz.f252
def pI_NumText (m:Nat) (a1:Int):Option ByteArray:=
 bd (pI_isNum m a1) fun x2=>
 br (!x2) (
 some (ByteArray.mk #[])) <|
 bd (pG_strconv_Itoa a1) fun x3=>
 some x3
theorem c191:CC (mo 191 [jI] (.one .S) pI_NumText):=mq (cs c252 (cs c253 cn)) tn Tryz.f191
def pI_LogName (m:Nat) (a1:Int):Option ByteArray:=
 bd (pI_isGen m a1) fun x2=>
 br (!x2) (
 some (ByteArray.mk #[])) <|
 bd (pI_NumText m a1) fun x3=>
 gd ((ByteArray.mk #[108,111,103,46]).size+x3.size<=9223372036854775807) <|
 some (ByteArray.mk #[108,111,103,46]++x3)
theorem c111:CC (mo 111 [jI] (.one .S) pI_LogName):=mq (cs c109 (cs c191 cn)) tn Tryz.f111
def pI_DepotOk (m:Nat) (a1:IDepot):Option Bool:=
 bd (α:=IDepot×Bool) (
 bd (pI_DiskOk m a1.Disk) fun x2=>
 br (!x2) (
 some (a1,true)) <|
 bd (pI_isGen m a1.Gen) fun x3=>
 br (!x3) (
 some (a1,true)) <|
 bd (pI_within m a1.Seq 1 1000000001) fun x4=>
 br (!x4) (
 some (a1,true)) <|
 some (a1,decide (a1.Size<0))) fun(x5,x6)=>
 br x6 (
 some false) <|
 bd (α:=IDepot×Bool) (
 br (x5.Disk.Fuse==0) (
 some (x5,true)) <|
 some (x5,x5.Stuck)) fun(x7,x8)=>
 br x8 (
 some true) <|
 bd (pI_LogName m x7.Gen) fun x9=>
 bd (pI_DiskRead m x7.Disk x9) fun(x10,x11)=>
 bd (α:=Bool) (
 br x11 (
 some ((↑x10.length:Int)==x7.Size)) <|
 some false) fun x12=>
 some x12
theorem c40:CC (mo 40 [jS .iDepot] oB pI_DepotOk):=mq (cs c44 (cs c109 (cs c34 (cs c111 (cs c110 cn))))) ⟨[(1,⟨[(1,.ptr 200 0)],[.sto 200 .iDepot [],eB 25]⟩),(3,⟨[(1,.ptr 200 0)],[.sto 200 .iDepot [],eB 33]⟩),(6,⟨[],[eB 2]⟩)],[],[]⟩ Tryz.f40
def pI_isZeroDisk (m:Nat) (a1:IDisk):Option Bool:=
 bd (α:=Bool) (
 br (a1.Room==0) (
 br (a1.Fuse==0) (
 br (a1.Next==0) (
 gd (inK .i64 ((↑a1.Files.length:Int)+(↑a1.Kept.length:Int))) <|
 gd (inK .i64 ((↑a1.Files.length:Int)+(↑a1.Kept.length:Int)+(↑a1.Turns.length:Int))) <|
 some ((↑a1.Files.length:Int)+(↑a1.Kept.length:Int)+(↑a1.Turns.length:Int)==0)) <|
 some false) <|
 some false) <|
 some false) fun x2=>
 some x2
theorem c41:CC (mo 41 [jS .iDisk] oB pI_isZeroDisk):=mq cn ⟨[(1,⟨[],[eB 2]⟩)],[],[]⟩ Tryz.f41
def pI_isZeroState (m:Nat) (a1:IState):Option Bool:=
 bd (α:=Bool) (
 br (a1.W==0) (
 br (a1.H==0) (
 br (a1.Limit==0) (
 br (a1.Next==0) (
 gd (inK .i64 ((↑a1.Panes.length:Int)+(↑a1.Wins.length:Int))) <|
 gd (inK .i64 ((↑a1.Panes.length:Int)+(↑a1.Wins.length:Int)+(↑a1.Sess.length:Int))) <|
 some ((↑a1.Panes.length:Int)+(↑a1.Wins.length:Int)+(↑a1.Sess.length:Int)==0)) <|
 some false) <|
 some false) <|
 some false) <|
 some false) fun x2=>
 some x2
theorem c42:CC (mo 42 [jS .iState] oB pI_isZeroState):=mq cn ⟨[(1,⟨[],[eB 2]⟩)],[],[]⟩ Tryz.f42
def pI_isZeroDepot (m:Nat) (a1:IDepot):Option Bool:=
 bd (α:=Bool) (
 bd (pI_isZeroDisk m a1.Disk) fun x2=>
 br x2 (
 br (a1.Gen==0) (
 br (a1.Seq==0) (
 br (a1.Size==0) (
 some (!a1.Stuck)) <|
 some false) <|
 some false) <|
 some false) <|
 some false) fun x3=>
 some x3
theorem c43:CC (mo 43 [jS .iDepot] oB pI_isZeroDepot):=mq (cs c41 cn) ⟨[(1,⟨[],[eB 2]⟩)],[],[]⟩ Tryz.f43
def pI_isZeroOp (m:Nat) (a1:IOp):Option Bool:=
 bd (α:=Bool) (
 br (a1.Kind==0) (
 br (a1.A==0) (
 br (a1.B==0) (
 br (a1.C==0) (
 br (decide (a1.Name=ByteArray.mk #[])) (
 br (decide (a1.Text=ByteArray.mk #[])) (
 br (decide (a1.Dir=ByteArray.mk #[])) (
 some ((↑a1.Data.length:Int)==0)) <|
 some false) <|
 some false) <|
 some false) <|
 some false) <|
 some false) <|
 some false) <|
 some false) fun x2=>
 some x2
theorem c107:CC (mo 107 [jS .iOp] oB pI_isZeroOp):=mq cn ⟨[(1,⟨[],[eB 2]⟩)],[],[]⟩ Tryz.f107
def pI_isSide (m:Nat) (a1:Int):Option Bool:=
 bd (α:=Bool) (
 br (a1==76) (
 some true) <|
 br (a1==82) (
 some true) <|
 br (a1==85) (
 some true) <|
 some (a1==68)) fun x2=>
 some x2
theorem c187:CC (mo 187 [jI] oB pI_isSide):=mq cn ⟨[(1,⟨[],[eB 2]⟩)],[],[]⟩ Tryz.f187
def pI_isLength (m:Nat) (a1:Int):Option Bool:=
 bd (pI_within m a1 1 120) fun x2=>
 some x2
theorem c188:CC (mo 188 [jI] oB pI_isLength):=mq (cs c34 cn) tn Tryz.f188
def pI_OpOk (m:Nat) (a1:IOp):Option Bool:=
 bd (α:=IOp×Bool) (
 bd (α:=IOp×IOp×Bool×Int×Bool) (
 br (a1.Kind==1) (
 some (a1,a1,false,a1.Kind,a1.Kind==1)) <|
 some (a1,a1,false,a1.Kind,a1.Kind==2)) fun(x2,x3,x4,x5,x6)=>
 br x6 (
 bd (α:=IOp×Bool) (
 bd (pI_WordOk m x2.Name) fun x7=>
 br x7 (
 bd (pI_isCmd m x2.Text) fun x8=>
 br x8 (
 bd (pI_isCmd m x2.Dir) fun x9=>
 some (IOp.mk x3.Kind x3.A x3.B x3.C (ByteArray.mk #[]) (ByteArray.mk #[]) (ByteArray.mk #[]) x3.Data,x9)) <|
 some (IOp.mk x3.Kind x3.A x3.B x3.C (ByteArray.mk #[]) (ByteArray.mk #[]) (ByteArray.mk #[]) x3.Data,false)) <|
 some (IOp.mk x3.Kind x3.A x3.B x3.C (ByteArray.mk #[]) (ByteArray.mk #[]) (ByteArray.mk #[]) x3.Data,false)) fun(x10,x11)=>
 some (x10,x11)) <|
 br (x5==3) (
 bd (α:=IOp×Bool) (
 bd (pI_isId m x2.A) fun x12=>
 br x12 (
 bd (pI_within m x2.B 0 1) fun x13=>
 br x13 (
 bd (pI_isCmd m x2.Text) fun x14=>
 br x14 (
 bd (pI_isCmd m x2.Dir) fun x15=>
 some (IOp.mk x3.Kind 0 0 x3.C x3.Name (ByteArray.mk #[]) (ByteArray.mk #[]) x3.Data,x15)) <|
 some (IOp.mk x3.Kind 0 0 x3.C x3.Name (ByteArray.mk #[]) (ByteArray.mk #[]) x3.Data,false)) <|
 some (IOp.mk x3.Kind 0 0 x3.C x3.Name (ByteArray.mk #[]) (ByteArray.mk #[]) x3.Data,false)) <|
 some (IOp.mk x3.Kind 0 0 x3.C x3.Name (ByteArray.mk #[]) (ByteArray.mk #[]) x3.Data,false)) fun(x16,x17)=>
 some (x16,x17)) <|
 bd (α:=IOp×IOp×Bool×Int×Bool) (
 br (x5==4) (
 some (x2,x3,x4,x5,x5==4)) <|
 br (x5==7) (
 some (x2,x3,x4,x5,x5==7)) <|
 br (x5==14) (
 some (x2,x3,x4,x5,x5==14)) <|
 some (x2,x3,x4,x5,x5==8)) fun(x18,x19,x20,x21,x22)=>
 br x22 (
 bd (pI_isId m x18.A) fun x23=>
 some (IOp.mk x19.Kind 0 x19.B x19.C x19.Name x19.Text x19.Dir x19.Data,x23)) <|
 br (x21==5) (
 bd (α:=IOp×Bool) (
 bd (pI_isId m x18.A) fun x24=>
 br x24 (
 bd (pI_within m (↑x18.Data.length:Int) 1 2000) fun x25=>
 some (IOp.mk x19.Kind 0 x19.B x19.C x19.Name x19.Text x19.Dir [],x25)) <|
 some (IOp.mk x19.Kind 0 x19.B x19.C x19.Name x19.Text x19.Dir [],false)) fun(x26,x27)=>
 some (x26,x27)) <|
 br (x21==6) (
 bd (α:=IOp×Bool) (
 bd (pI_isId m x18.A) fun x28=>
 br x28 (
 bd (pI_within m x18.B 0 255) fun x29=>
 some (IOp.mk x19.Kind 0 0 x19.C x19.Name x19.Text x19.Dir x19.Data,x29)) <|
 some (IOp.mk x19.Kind 0 0 x19.C x19.Name x19.Text x19.Dir x19.Data,false)) fun(x30,x31)=>
 some (x30,x31)) <|
 bd (α:=IOp×IOp×Bool×Int×Bool) (
 br (x21==9) (
 some (x18,x19,x20,x21,x21==9)) <|
 some (x18,x19,x20,x21,x21==13)) fun(x32,x33,x34,x35,x36)=>
 br x36 (
 bd (α:=IOp×Bool) (
 bd (pI_isId m x32.A) fun x37=>
 br x37 (
 bd (pI_isId m x32.B) fun x38=>
 some (IOp.mk x33.Kind 0 0 x33.C x33.Name x33.Text x33.Dir x33.Data,x38)) <|
 some (IOp.mk x33.Kind 0 0 x33.C x33.Name x33.Text x33.Dir x33.Data,false)) fun(x39,x40)=>
 some (x39,x40)) <|
 br (x35==10) (
 bd (α:=IOp×Bool) (
 bd (pI_isId m x32.A) fun x41=>
 br x41 (
 bd (pI_isSide m x32.B) fun x42=>
 br x42 (
 bd (pI_isLength m x32.C) fun x43=>
 some (IOp.mk x33.Kind 0 0 0 x33.Name x33.Text x33.Dir x33.Data,x43)) <|
 some (IOp.mk x33.Kind 0 0 0 x33.Name x33.Text x33.Dir x33.Data,false)) <|
 some (IOp.mk x33.Kind 0 0 0 x33.Name x33.Text x33.Dir x33.Data,false)) fun(x44,x45)=>
 some (x44,x45)) <|
 br (x35==11) (
 bd (α:=IOp×Bool) (
 bd (pI_isId m x32.A) fun x46=>
 br x46 (
 bd (pI_WordOk m x32.Name) fun x47=>
 some (IOp.mk x33.Kind 0 x33.B x33.C (ByteArray.mk #[]) x33.Text x33.Dir x33.Data,x47)) <|
 some (IOp.mk x33.Kind 0 x33.B x33.C (ByteArray.mk #[]) x33.Text x33.Dir x33.Data,false)) fun(x48,x49)=>
 some (x48,x49)) <|
 br (x35==12) (
 bd (α:=IOp×Bool) (
 bd (pI_isLength m x32.A) fun x50=>
 br x50 (
 bd (pI_isLength m x32.B) fun x51=>
 some (IOp.mk x33.Kind 0 0 x33.C x33.Name x33.Text x33.Dir x33.Data,x51)) <|
 some (IOp.mk x33.Kind 0 0 x33.C x33.Name x33.Text x33.Dir x33.Data,false)) fun(x52,x53)=>
 some (x52,x53)) <|
 some (x33,x34)) fun(x54,x55)=>
 bd (α:=Bool×Bool) (
 br (x54.A==0) (
 br (x54.B==0) (
 br (x54.C==0) (
 br (decide (x54.Name=ByteArray.mk #[])) (
 br (decide (x54.Text=ByteArray.mk #[])) (
 br (decide (x54.Dir=ByteArray.mk #[])) (
 some (x55,(↑x54.Data.length:Int)==0)) <|
 some (x55,false)) <|
 some (x55,false)) <|
 some (x55,false)) <|
 some (x55,false)) <|
 some (x55,false)) <|
 some (x55,false)) fun(x56,x57)=>
 bd (α:=Bool) (
 br x56 (
 some x57) <|
 some false) fun x58=>
 some x58
theorem c108:CC (mo 108 [jS .iOp] oB pI_OpOk):=mq (cs c176 (cs c186 (cs c98 (cs c34 (cs c187 (cs c188 cn)))))) ⟨[(6,⟨[(3,.ptr 400 0)],[.sto 400 .iOp [],eB 4]⟩),(9,⟨[(3,.ptr 400 0)],[.sto 400 .iOp [],eB 4]⟩),(18,⟨[(3,.ptr 400 0)],[.sto 400 .iOp [(7,50000001)],eB 4]⟩),(21,⟨[(3,.ptr 400 0)],[.sto 400 .iOp [],eB 4]⟩),(25,⟨[(3,.ptr 400 0)],[.sto 400 .iOp [],eB 4]⟩),(28,⟨[(3,.ptr 400 0)],[.sto 400 .iOp [],eB 4]⟩),(31,⟨[(3,.ptr 400 0)],[.sto 400 .iOp [],eB 4]⟩),(34,⟨[(3,.ptr 400 0)],[.sto 400 .iOp [],eB 4]⟩),(35,⟨[],[eB 4,eB 5]⟩),(36,⟨[],[eB 2]⟩)],[(5,false,⟨[(1,.ptr 200 0),(3,.ptr 400 0)],[.sto 200 .iOp [],.sto 400 .iOp [],eB 4,eI 8,eB 9]⟩),(14,false,⟨[(1,.ptr 200 0),(3,.ptr 400 0)],[.sto 200 .iOp [],.sto 400 .iOp [],eB 4,eI 8,eB 52]⟩),(24,false,⟨[(1,.ptr 200 0),(3,.ptr 400 0)],[.sto 200 .iOp [],.sto 400 .iOp [],eB 4,eI 8,eB 86]⟩),(35,false,⟨[(3,.ptr 400 0)],[.sto 400 .iOp [],eB 4]⟩)],[]⟩ Tryz.f108
def pI_isHist (m:Nat) (a1:IHist):Option Bool:=
 br a1.Lost (
 bd (pI_isZeroOp m a1.Op) fun x2=>
 some x2) <|
 bd (pI_OpOk m a1.Op) fun x3=>
 some x3
theorem c38:CC (mo 38 [jS .iHist] oB pI_isHist):=mq (cs c107 (cs c108 cn)) tn Tryz.f38
def pI_SrvOk_1 (m:Nat) (a1:IHist):Option Bool:=
 bd (pI_isHist m a1) fun x2=>
 some (!x2)
theorem c37:CC (mo 37 [jS .iHist] oB pI_SrvOk_1):=mq (cs c38 cn) tn Tryz.f37
def pG_slices_IndexFunc_IHist_I_SrvOk_1_b1 (m:Nat):Lp (List IHist×Int×Int) (Unit⊕Int):=fun(v3,v4,v5)=>
 br (decide (v5<v4)) (
 gd (0<=v5/\v5<(↑v3.length:Int)) <|
 bd v3[v5.toNat]? fun x6=>
 bd (pI_SrvOk_1 m x6) fun x7=>
 br x7 (
 some (.inr (.inr v5))) <|
 gd (inK .i64 (v5+1)) <|
 some (.inl (v3,v4,v5+1))) <|
 some (.inr (.inl ()))
def pG_slices_IndexFunc_IHist_I_SrvOk_1 (m:Nat) (a1:List IHist):Option Int:=
 jn (V:=Unit) (
 loopF (pG_slices_IndexFunc_IHist_I_SrvOk_1_b1 m) m (a1,(↑a1.length:Int),0)) fun _=>
 some (-1)
theorem c1010600:CC (mx 106 [none,some (.fn 37 [])] [.row .iHist] 0 oI pG_slices_IndexFunc_IHist_I_SrvOk_1):=mq (cs c37 cn) ⟨[],[],[(2,true,⟨[(1,.fn 37 [])],[eR 0 .iHist,eI 7,eI 8]⟩,0,⟨[],[]⟩)]⟩ Tryz.f106
def pG_slices_ContainsFunc_IHist_I_SrvOk_1 (m:Nat) (a1:List IHist):Option Bool:=
 bd (pG_slices_IndexFunc_IHist_I_SrvOk_1 m a1) fun x2=>
 some (decide (0<=x2))
theorem c1003600:CC (mx 36 [none,some (.fn 37 [])] [.row .iHist] 0 oB pG_slices_ContainsFunc_IHist_I_SrvOk_1):=mq (cs c1010600 cn) tn Tryz.f36
def pI_SrvOk (m:Nat) (a1:ISrv):Option Bool:=
 bd (α:=ISrv×Bool) (
 bd (pI_StateOk m a1.Base) fun x2=>
 br (!x2) (
 some (a1,true)) <|
 br (decide (0<(↑a1.Base.Panes.length:Int))) (
 some (a1,true)) <|
 bd (pI_within m a1.Top 0 400000) fun x3=>
 br (!x3) (
 some (a1,true)) <|
 bd (pI_TableOk m a1.Tab) fun x4=>
 br (!x4) (
 some (a1,true)) <|
 bd (pG_slices_ContainsFunc_IHist_I_SrvOk_1 m a1.Done) fun x5=>
 br x5 (
 some (a1,true)) <|
 bd (pI_OpsOf m a1.Done) fun x6=>
 bd (pI_within m a1.Sure 0 x6) fun x7=>
 some (a1,!x7)) fun(x8,x9)=>
 br x9 (
 some false) <|
 br x8.Up (
 bd (α:=Bool) (
 bd (pI_StateOk m x8.St) fun x10=>
 br x10 (
 bd (pI_DepotOk m x8.Dep) fun x11=>
 br x11 (
 bd (pI_isZeroDisk m x8.Disk) fun x12=>
 br x12 (
 bd (pI_OpsOf m x8.Done) fun x13=>
 gd (inK .i64 (x13+1)) <|
 some (x8.Dep.Seq==x13+1)) <|
 some false) <|
 some false) <|
 some false) fun x14=>
 some x14) <|
 bd (α:=Bool) (
 bd (pI_isZeroState m x8.St) fun x15=>
 br x15 (
 bd (pI_isZeroDepot m x8.Dep) fun x16=>
 br x16 (
 bd (pI_DiskOk m x8.Disk) fun x17=>
 br x17 (
 some ((↑x8.Tab.Live.length:Int)==0)) <|
 some false) <|
 some false) <|
 some false) fun x18=>
 some x18
theorem c8:CC (mo 8 [jS .iSrv] oB pI_SrvOk):=mq (cs c33 (cs c34 (cs c35 (cs c1003600 (cs c39 (cs c40 (cs c41 (cs c42 (cs c43 (cs c44 cn)))))))))) ⟨[(1,⟨[(1,.ptr 200 0)],[.sto 200 .iSrv [],eB 39]⟩),(4,⟨[],[eB 2]⟩),(5,⟨[],[eB 2]⟩)],[],[]⟩ Tryz.f8
def pL_eqIntS_b1 (m:Nat):Lp (List Int×List Int×Int) (Unit⊕Bool):=fun(v4,v5,v6)=>
 br (decide (v6<(↑v4.length:Int))) (
 gd (0<=v6/\v6<(↑v4.length:Int)) <|
 bd v4[v6.toNat]? fun x7=>
 gd (0<=v6/\v6<(↑v5.length:Int)) <|
 bd v5[v6.toNat]? fun x8=>
 br (x7 !=x8) (
 some (.inr (.inr false))) <|
 gd (inK .i64 (v6+1)) <|
 some (.inl (v4,v5,v6+1))) <|
 some (.inr (.inl ()))
def pL_eqIntS (m:Nat) (a1 a2:List Int):Option Bool:=
 br ((↑a1.length:Int) !=(↑a2.length:Int)) (
 some false) <|
 jn (V:=Unit) (
 loopF (pL_eqIntS_b1 m) m (a1,a2,0)) fun _=>
 some true
theorem c260:CC (mo 260 [.row .int,.row .int] oB (q2 pL_eqIntS)):=mq cn ⟨[],[],[(4,true,⟨[],[eR 0 .int,eR 1 .int,eI 5]⟩,0,⟨[],[]⟩)]⟩ Tryz.f260
def pL_eqByteS_b1 (m:Nat):Lp (List UInt8×List UInt8×Int) (Unit⊕Bool):=fun(v4,v5,v6)=>
 br (decide (v6<(↑v4.length:Int))) (
 gd (0<=v6/\v6<(↑v4.length:Int)) <|
 bd v4[v6.toNat]? fun x7=>
 gd (0<=v6/\v6<(↑v5.length:Int)) <|
 bd v5[v6.toNat]? fun x8=>
 br ((↑x7.toNat:Int) !=(↑x8.toNat:Int)) (
 some (.inr (.inr false))) <|
 gd (inK .i64 (v6+1)) <|
 some (.inl (v4,v5,v6+1))) <|
 some (.inr (.inl ()))
def pL_eqByteS (m:Nat) (a1 a2:List UInt8):Option Bool:=
 br ((↑a1.length:Int) !=(↑a2.length:Int)) (
 some false) <|
 jn (V:=Unit) (
 loopF (pL_eqByteS_b1 m) m (a1,a2,0)) fun _=>
 some true
theorem c261:CC (mo 261 [.row .u8,.row .u8] oB (q2 pL_eqByteS)):=mq cn ⟨[],[],[(4,true,⟨[],[eR 0 .u8,eR 1 .u8,eI 5]⟩,0,⟨[],[]⟩)]⟩ Tryz.f261
def pL_eqVp (m:Nat) (a1 a2:IVp):Option Bool:=
 br (a1.State !=a2.State) (
 some false) <|
 br (!a1.Mark==a2.Mark) (
 some false) <|
 bd (pL_eqIntS m a1.Args a2.Args) fun x3=>
 br (!x3) (
 some false) <|
 bd (pL_eqByteS m a1.Part a2.Part) fun x4=>
 br (!x4) (
 some false) <|
 some true
theorem c299:CC (mo 299 [jS .iVp,jS .iVp] oB (q2 pL_eqVp)):=mq (cs c260 (cs c261 cn)) tn Tryz.f299
def pL_eqAttr (m:Nat) (a1 a2:IAttr):Option Bool:=
 br (a1.Fg !=a2.Fg) (
 some false) <|
 br (a1.Bg !=a2.Bg) (
 some false) <|
 br (!a1.Bold==a2.Bold) (
 some false) <|
 br (!a1.Under==a2.Under) (
 some false) <|
 br (!a1.Turn==a2.Turn) (
 some false) <|
 some true
theorem c335:CC (mo 335 [jS .iAttr,jS .iAttr] oB (q2 pL_eqAttr)):=mq cn tn Tryz.f335
def pL_eqCell (m:Nat) (a1 a2:ICell):Option Bool:=
 br (a1.R !=a2.R) (
 some false) <|
 bd (pL_eqAttr m a1.A a2.A) fun x3=>
 br (!x3) (
 some false) <|
 some true
theorem c373:CC (mo 373 [jS .iCell,jS .iCell] oB (q2 pL_eqCell)):=mq (cs c335 cn) tn Tryz.f373
def pL_eqCellS_b1 (m:Nat):Lp (List ICell×List ICell×Int) (Unit⊕Bool):=fun(v4,v5,v6)=>
 br (decide (v6<(↑v4.length:Int))) (
 gd (0<=v6/\v6<(↑v4.length:Int)) <|
 bd v4[v6.toNat]? fun x7=>
 gd (0<=v6/\v6<(↑v5.length:Int)) <|
 bd v5[v6.toNat]? fun x8=>
 bd (pL_eqCell m x7 x8) fun x9=>
 br (!x9) (
 some (.inr (.inr false))) <|
 gd (inK .i64 (v6+1)) <|
 some (.inl (v4,v5,v6+1))) <|
 some (.inr (.inl ()))
def pL_eqCellS (m:Nat) (a1 a2:List ICell):Option Bool:=
 br ((↑a1.length:Int) !=(↑a2.length:Int)) (
 some false) <|
 jn (V:=Unit) (
 loopF (pL_eqCellS_b1 m) m (a1,a2,0)) fun _=>
 some true
theorem c358:CC (mo 358 [.row .iCell,.row .iCell] oB (q2 pL_eqCellS)):=mq (cs c373 cn) ⟨[],[],[(4,true,⟨[],[eR 0 .iCell,eR 1 .iCell,eI 5]⟩,0,⟨[],[]⟩)]⟩ Tryz.f358
def pL_eqGrid (m:Nat) (a1 a2:IGrid):Option Bool:=
 br (a1.W !=a2.W) (
 some false) <|
 br (a1.H !=a2.H) (
 some false) <|
 bd (pL_eqCellS m a1.Cells a2.Cells) fun x3=>
 br (!x3) (
 some false) <|
 some true
theorem c334:CC (mo 334 [jS .iGrid,jS .iGrid] oB (q2 pL_eqGrid)):=mq (cs c358 cn) tn Tryz.f334
def pL_eqRow (m:Nat) (a1 a2:IRow):Option Bool:=
 bd (pL_eqCellS m a1.Cells a2.Cells) fun x3=>
 br (!x3) (
 some false) <|
 some true
theorem c359:CC (mo 359 [jS .iRow,jS .iRow] oB (q2 pL_eqRow)):=mq (cs c358 cn) tn Tryz.f359
def pL_eqRowS_b1 (m:Nat):Lp (List IRow×List IRow×Int) (Unit⊕Bool):=fun(v4,v5,v6)=>
 br (decide (v6<(↑v4.length:Int))) (
 gd (0<=v6/\v6<(↑v4.length:Int)) <|
 bd v4[v6.toNat]? fun x7=>
 gd (0<=v6/\v6<(↑v5.length:Int)) <|
 bd v5[v6.toNat]? fun x8=>
 bd (pL_eqRow m x7 x8) fun x9=>
 br (!x9) (
 some (.inr (.inr false))) <|
 gd (inK .i64 (v6+1)) <|
 some (.inl (v4,v5,v6+1))) <|
 some (.inr (.inl ()))
def pL_eqRowS (m:Nat) (a1 a2:List IRow):Option Bool:=
 br ((↑a1.length:Int) !=(↑a2.length:Int)) (
 some false) <|
 jn (V:=Unit) (
 loopF (pL_eqRowS_b1 m) m (a1,a2,0)) fun _=>
 some true
theorem c336:CC (mo 336 [.row .iRow,.row .iRow] oB (q2 pL_eqRowS)):=mq (cs c359 cn) ⟨[],[],[(4,true,⟨[],[eR 0 .iRow,eR 1 .iRow,eI 5]⟩,0,⟨[],[]⟩)]⟩ Tryz.f336
def pL_eqScr (m:Nat) (a1 a2:IScr):Option Bool:=
 br (a1.W !=a2.W) (
 some false) <|
 br (a1.H !=a2.H) (
 some false) <|
 bd (pL_eqGrid m a1.Main a2.Main) fun x3=>
 br (!x3) (
 some false) <|
 bd (pL_eqGrid m a1.Alt a2.Alt) fun x4=>
 br (!x4) (
 some false) <|
 br (!a1.OnAlt==a2.OnAlt) (
 some false) <|
 br (a1.X !=a2.X) (
 some false) <|
 br (a1.Y !=a2.Y) (
 some false) <|
 br (!a1.Wrap==a2.Wrap) (
 some false) <|
 bd (pL_eqAttr m a1.A a2.A) fun x5=>
 br (!x5) (
 some false) <|
 br (a1.Top !=a2.Top) (
 some false) <|
 br (a1.Bot !=a2.Bot) (
 some false) <|
 br (!a1.NoWrap==a2.NoWrap) (
 some false) <|
 br (!a1.Hide==a2.Hide) (
 some false) <|
 br (a1.SaveX !=a2.SaveX) (
 some false) <|
 br (a1.SaveY !=a2.SaveY) (
 some false) <|
 bd (pL_eqAttr m a1.SaveA a2.SaveA) fun x6=>
 br (!x6) (
 some false) <|
 bd (pL_eqIntS m a1.Tabs a2.Tabs) fun x7=>
 br (!x7) (
 some false) <|
 br (a1.Limit !=a2.Limit) (
 some false) <|
 bd (pL_eqRowS m a1.Back a2.Back) fun x8=>
 br (!x8) (
 some false) <|
 some true
theorem c300:CC (mo 300 [jS .iScr,jS .iScr] oB (q2 pL_eqScr)):=mq (cs c334 (cs c335 (cs c260 (cs c336 cn)))) tn Tryz.f300
def pL_eqTerm (m:Nat) (a1 a2:ITerm):Option Bool:=
 bd (pL_eqVp m a1.P a2.P) fun x3=>
 br (!x3) (
 some false) <|
 bd (pL_eqScr m a1.S a2.S) fun x4=>
 br (!x4) (
 some false) <|
 some true
theorem c258:CC (mo 258 [jS .iTerm,jS .iTerm] oB (q2 pL_eqTerm)):=mq (cs c299 (cs c300 cn)) tn Tryz.f258
def pL_eqPane (m:Nat) (a1 a2:IPane):Option Bool:=
 br (a1.Id !=a2.Id) (
 some false) <|
 br (!decide (a1.Cmd=a2.Cmd)) (
 some false) <|
 br (!decide (a1.Dir=a2.Dir)) (
 some false) <|
 br (a1.Life !=a2.Life) (
 some false) <|
 br (a1.Code !=a2.Code) (
 some false) <|
 br (a1.Pid !=a2.Pid) (
 some false) <|
 bd (pL_eqTerm m a1.Term a2.Term) fun x3=>
 br (!x3) (
 some false) <|
 some true
theorem c199:CC (mo 199 [jS .iPane,jS .iPane] oB (q2 pL_eqPane)):=mq (cs c258 cn) tn Tryz.f199
def pL_eqPaneS_b1 (m:Nat):Lp (List IPane×List IPane×Int) (Unit⊕Bool):=fun(v4,v5,v6)=>
 br (decide (v6<(↑v4.length:Int))) (
 gd (0<=v6/\v6<(↑v4.length:Int)) <|
 bd v4[v6.toNat]? fun x7=>
 gd (0<=v6/\v6<(↑v5.length:Int)) <|
 bd v5[v6.toNat]? fun x8=>
 bd (pL_eqPane m x7 x8) fun x9=>
 br (!x9) (
 some (.inr (.inr false))) <|
 gd (inK .i64 (v6+1)) <|
 some (.inl (v4,v5,v6+1))) <|
 some (.inr (.inl ()))
def pL_eqPaneS (m:Nat) (a1 a2:List IPane):Option Bool:=
 br ((↑a1.length:Int) !=(↑a2.length:Int)) (
 some false) <|
 jn (V:=Unit) (
 loopF (pL_eqPaneS_b1 m) m (a1,a2,0)) fun _=>
 some true
theorem c114:CC (mo 114 [.row .iPane,.row .iPane] oB (q2 pL_eqPaneS)):=mq (cs c199 cn) ⟨[],[],[(4,true,⟨[],[eR 0 .iPane,eR 1 .iPane,eI 5]⟩,0,⟨[],[]⟩)]⟩ Tryz.f114
def pL_eqNode (m:Nat) (a1 a2:INode):Option Bool:=
 br (a1.Pane !=a2.Pane) (
 some false) <|
 br (!a1.Down==a2.Down) (
 some false) <|
 br (a1.First !=a2.First) (
 some false) <|
 some true
theorem c301:CC (mo 301 [jS .iNode,jS .iNode] oB (q2 pL_eqNode)):=mq cn tn Tryz.f301
def pL_eqNodeS_b1 (m:Nat):Lp (List INode×List INode×Int) (Unit⊕Bool):=fun(v4,v5,v6)=>
 br (decide (v6<(↑v4.length:Int))) (
 gd (0<=v6/\v6<(↑v4.length:Int)) <|
 bd v4[v6.toNat]? fun x7=>
 gd (0<=v6/\v6<(↑v5.length:Int)) <|
 bd v5[v6.toNat]? fun x8=>
 bd (pL_eqNode m x7 x8) fun x9=>
 br (!x9) (
 some (.inr (.inr false))) <|
 gd (inK .i64 (v6+1)) <|
 some (.inl (v4,v5,v6+1))) <|
 some (.inr (.inl ()))
def pL_eqNodeS (m:Nat) (a1 a2:List INode):Option Bool:=
 br ((↑a1.length:Int) !=(↑a2.length:Int)) (
 some false) <|
 jn (V:=Unit) (
 loopF (pL_eqNodeS_b1 m) m (a1,a2,0)) fun _=>
 some true
theorem c259:CC (mo 259 [.row .iNode,.row .iNode] oB (q2 pL_eqNodeS)):=mq (cs c301 cn) ⟨[],[],[(4,true,⟨[],[eR 0 .iNode,eR 1 .iNode,eI 5]⟩,0,⟨[],[]⟩)]⟩ Tryz.f259
def pL_eqWin (m:Nat) (a1 a2:IWin):Option Bool:=
 br (a1.Id !=a2.Id) (
 some false) <|
 br (!decide (a1.Name=a2.Name)) (
 some false) <|
 bd (pL_eqNodeS m a1.Tree a2.Tree) fun x3=>
 br (!x3) (
 some false) <|
 br (a1.Active !=a2.Active) (
 some false) <|
 br (!a1.Zoom==a2.Zoom) (
 some false) <|
 some true
theorem c200:CC (mo 200 [jS .iWin,jS .iWin] oB (q2 pL_eqWin)):=mq (cs c259 cn) tn Tryz.f200
def pL_eqWinS_b1 (m:Nat):Lp (List IWin×List IWin×Int) (Unit⊕Bool):=fun(v4,v5,v6)=>
 br (decide (v6<(↑v4.length:Int))) (
 gd (0<=v6/\v6<(↑v4.length:Int)) <|
 bd v4[v6.toNat]? fun x7=>
 gd (0<=v6/\v6<(↑v5.length:Int)) <|
 bd v5[v6.toNat]? fun x8=>
 bd (pL_eqWin m x7 x8) fun x9=>
 br (!x9) (
 some (.inr (.inr false))) <|
 gd (inK .i64 (v6+1)) <|
 some (.inl (v4,v5,v6+1))) <|
 some (.inr (.inl ()))
def pL_eqWinS (m:Nat) (a1 a2:List IWin):Option Bool:=
 br ((↑a1.length:Int) !=(↑a2.length:Int)) (
 some false) <|
 jn (V:=Unit) (
 loopF (pL_eqWinS_b1 m) m (a1,a2,0)) fun _=>
 some true
theorem c115:CC (mo 115 [.row .iWin,.row .iWin] oB (q2 pL_eqWinS)):=mq (cs c200 cn) ⟨[],[],[(4,true,⟨[],[eR 0 .iWin,eR 1 .iWin,eI 5]⟩,0,⟨[],[]⟩)]⟩ Tryz.f115
def pL_eqSess (m:Nat) (a1 a2:ISess):Option Bool:=
 br (!decide (a1.Name=a2.Name)) (
 some false) <|
 bd (pL_eqIntS m a1.Wins a2.Wins) fun x3=>
 br (!x3) (
 some false) <|
 br (a1.Active !=a2.Active) (
 some false) <|
 some true
theorem c201:CC (mo 201 [jS .iSess,jS .iSess] oB (q2 pL_eqSess)):=mq (cs c260 cn) tn Tryz.f201
def pL_eqSessS_b1 (m:Nat):Lp (List ISess×List ISess×Int) (Unit⊕Bool):=fun(v4,v5,v6)=>
 br (decide (v6<(↑v4.length:Int))) (
 gd (0<=v6/\v6<(↑v4.length:Int)) <|
 bd v4[v6.toNat]? fun x7=>
 gd (0<=v6/\v6<(↑v5.length:Int)) <|
 bd v5[v6.toNat]? fun x8=>
 bd (pL_eqSess m x7 x8) fun x9=>
 br (!x9) (
 some (.inr (.inr false))) <|
 gd (inK .i64 (v6+1)) <|
 some (.inl (v4,v5,v6+1))) <|
 some (.inr (.inl ()))
def pL_eqSessS (m:Nat) (a1 a2:List ISess):Option Bool:=
 br ((↑a1.length:Int) !=(↑a2.length:Int)) (
 some false) <|
 jn (V:=Unit) (
 loopF (pL_eqSessS_b1 m) m (a1,a2,0)) fun _=>
 some true
theorem c116:CC (mo 116 [.row .iSess,.row .iSess] oB (q2 pL_eqSessS)):=mq (cs c201 cn) ⟨[],[],[(4,true,⟨[],[eR 0 .iSess,eR 1 .iSess,eI 5]⟩,0,⟨[],[]⟩)]⟩ Tryz.f116
def pL_eqState (m:Nat) (a1 a2:IState):Option Bool:=
 br (a1.W !=a2.W) (
 some false) <|
 br (a1.H !=a2.H) (
 some false) <|
 br (a1.Limit !=a2.Limit) (
 some false) <|
 br (a1.Next !=a2.Next) (
 some false) <|
 bd (pL_eqPaneS m a1.Panes a2.Panes) fun x3=>
 br (!x3) (
 some false) <|
 bd (pL_eqWinS m a1.Wins a2.Wins) fun x4=>
 br (!x4) (
 some false) <|
 bd (pL_eqSessS m a1.Sess a2.Sess) fun x5=>
 br (!x5) (
 some false) <|
 some true
theorem c45:CC (mo 45 [jS .iState,jS .iState] oB (q2 pL_eqState)):=mq (cs c114 (cs c115 (cs c116 cn))) tn Tryz.f45
def pL_eqFile (m:Nat) (a1 a2:IFile):Option Bool:=
 br (a1.Id !=a2.Id) (
 some false) <|
 bd (pL_eqByteS m a1.Body a2.Body) fun x3=>
 br (!x3) (
 some false) <|
 br (a1.Safe !=a2.Safe) (
 some false) <|
 some true
theorem c202:CC (mo 202 [jS .iFile,jS .iFile] oB (q2 pL_eqFile)):=mq (cs c261 cn) tn Tryz.f202
def pL_eqFileS_b1 (m:Nat):Lp (List IFile×List IFile×Int) (Unit⊕Bool):=fun(v4,v5,v6)=>
 br (decide (v6<(↑v4.length:Int))) (
 gd (0<=v6/\v6<(↑v4.length:Int)) <|
 bd v4[v6.toNat]? fun x7=>
 gd (0<=v6/\v6<(↑v5.length:Int)) <|
 bd v5[v6.toNat]? fun x8=>
 bd (pL_eqFile m x7 x8) fun x9=>
 br (!x9) (
 some (.inr (.inr false))) <|
 gd (inK .i64 (v6+1)) <|
 some (.inl (v4,v5,v6+1))) <|
 some (.inr (.inl ()))
def pL_eqFileS (m:Nat) (a1 a2:List IFile):Option Bool:=
 br ((↑a1.length:Int) !=(↑a2.length:Int)) (
 some false) <|
 jn (V:=Unit) (
 loopF (pL_eqFileS_b1 m) m (a1,a2,0)) fun _=>
 some true
theorem c117:CC (mo 117 [.row .iFile,.row .iFile] oB (q2 pL_eqFileS)):=mq (cs c202 cn) ⟨[],[],[(4,true,⟨[],[eR 0 .iFile,eR 1 .iFile,eI 5]⟩,0,⟨[],[]⟩)]⟩ Tryz.f117
def pL_eqLink (m:Nat) (a1 a2:ILink):Option Bool:=
 br (!decide (a1.Name=a2.Name)) (
 some false) <|
 br (a1.Id !=a2.Id) (
 some false) <|
 some true
theorem c203:CC (mo 203 [jS .iLink,jS .iLink] oB (q2 pL_eqLink)):=mq cn tn Tryz.f203
def pL_eqLinkS_b1 (m:Nat):Lp (List ILink×List ILink×Int) (Unit⊕Bool):=fun(v4,v5,v6)=>
 br (decide (v6<(↑v4.length:Int))) (
 gd (0<=v6/\v6<(↑v4.length:Int)) <|
 bd v4[v6.toNat]? fun x7=>
 gd (0<=v6/\v6<(↑v5.length:Int)) <|
 bd v5[v6.toNat]? fun x8=>
 bd (pL_eqLink m x7 x8) fun x9=>
 br (!x9) (
 some (.inr (.inr false))) <|
 gd (inK .i64 (v6+1)) <|
 some (.inl (v4,v5,v6+1))) <|
 some (.inr (.inl ()))
def pL_eqLinkS (m:Nat) (a1 a2:List ILink):Option Bool:=
 br ((↑a1.length:Int) !=(↑a2.length:Int)) (
 some false) <|
 jn (V:=Unit) (
 loopF (pL_eqLinkS_b1 m) m (a1,a2,0)) fun _=>
 some true
theorem c118:CC (mo 118 [.row .iLink,.row .iLink] oB (q2 pL_eqLinkS)):=mq (cs c203 cn) ⟨[],[],[(4,true,⟨[],[eR 0 .iLink,eR 1 .iLink,eI 5]⟩,0,⟨[],[]⟩)]⟩ Tryz.f118
def pL_eqTurn (m:Nat) (a1 a2:ITurn):Option Bool:=
 br (a1.Kind !=a2.Kind) (
 some false) <|
 br (!decide (a1.Name=a2.Name)) (
 some false) <|
 br (!decide (a1.To=a2.To)) (
 some false) <|
 br (a1.Id !=a2.Id) (
 some false) <|
 some true
theorem c204:CC (mo 204 [jS .iTurn,jS .iTurn] oB (q2 pL_eqTurn)):=mq cn tn Tryz.f204
def pL_eqTurnS_b1 (m:Nat):Lp (List ITurn×List ITurn×Int) (Unit⊕Bool):=fun(v4,v5,v6)=>
 br (decide (v6<(↑v4.length:Int))) (
 gd (0<=v6/\v6<(↑v4.length:Int)) <|
 bd v4[v6.toNat]? fun x7=>
 gd (0<=v6/\v6<(↑v5.length:Int)) <|
 bd v5[v6.toNat]? fun x8=>
 bd (pL_eqTurn m x7 x8) fun x9=>
 br (!x9) (
 some (.inr (.inr false))) <|
 gd (inK .i64 (v6+1)) <|
 some (.inl (v4,v5,v6+1))) <|
 some (.inr (.inl ()))
def pL_eqTurnS (m:Nat) (a1 a2:List ITurn):Option Bool:=
 br ((↑a1.length:Int) !=(↑a2.length:Int)) (
 some false) <|
 jn (V:=Unit) (
 loopF (pL_eqTurnS_b1 m) m (a1,a2,0)) fun _=>
 some true
theorem c119:CC (mo 119 [.row .iTurn,.row .iTurn] oB (q2 pL_eqTurnS)):=mq (cs c204 cn) ⟨[],[],[(4,true,⟨[],[eR 0 .iTurn,eR 1 .iTurn,eI 5]⟩,0,⟨[],[]⟩)]⟩ Tryz.f119
def pL_eqDisk (m:Nat) (a1 a2:IDisk):Option Bool:=
 br (a1.Room !=a2.Room) (
 some false) <|
 br (a1.Fuse !=a2.Fuse) (
 some false) <|
 br (a1.Next !=a2.Next) (
 some false) <|
 bd (pL_eqFileS m a1.Files a2.Files) fun x3=>
 br (!x3) (
 some false) <|
 bd (pL_eqLinkS m a1.Kept a2.Kept) fun x4=>
 br (!x4) (
 some false) <|
 bd (pL_eqTurnS m a1.Turns a2.Turns) fun x5=>
 br (!x5) (
 some false) <|
 some true
theorem c47:CC (mo 47 [jS .iDisk,jS .iDisk] oB (q2 pL_eqDisk)):=mq (cs c117 (cs c118 (cs c119 cn))) tn Tryz.f47
def pL_eqDepot (m:Nat) (a1 a2:IDepot):Option Bool:=
 bd (pL_eqDisk m a1.Disk a2.Disk) fun x3=>
 br (!x3) (
 some false) <|
 br (a1.Gen !=a2.Gen) (
 some false) <|
 br (a1.Seq !=a2.Seq) (
 some false) <|
 br (a1.Size !=a2.Size) (
 some false) <|
 br (!a1.Stuck==a2.Stuck) (
 some false) <|
 some true
theorem c46:CC (mo 46 [jS .iDepot,jS .iDepot] oB (q2 pL_eqDepot)):=mq (cs c47 cn) tn Tryz.f46
def pL_eqProc (m:Nat) (a1 a2:IProc):Option Bool:=
 br (a1.Pid !=a2.Pid) (
 some false) <|
 br (a1.Pane !=a2.Pane) (
 some false) <|
 some true
theorem c205:CC (mo 205 [jS .iProc,jS .iProc] oB (q2 pL_eqProc)):=mq cn tn Tryz.f205
def pL_eqProcS_b1 (m:Nat):Lp (List IProc×List IProc×Int) (Unit⊕Bool):=fun(v4,v5,v6)=>
 br (decide (v6<(↑v4.length:Int))) (
 gd (0<=v6/\v6<(↑v4.length:Int)) <|
 bd v4[v6.toNat]? fun x7=>
 gd (0<=v6/\v6<(↑v5.length:Int)) <|
 bd v5[v6.toNat]? fun x8=>
 bd (pL_eqProc m x7 x8) fun x9=>
 br (!x9) (
 some (.inr (.inr false))) <|
 gd (inK .i64 (v6+1)) <|
 some (.inl (v4,v5,v6+1))) <|
 some (.inr (.inl ()))
def pL_eqProcS (m:Nat) (a1 a2:List IProc):Option Bool:=
 br ((↑a1.length:Int) !=(↑a2.length:Int)) (
 some false) <|
 jn (V:=Unit) (
 loopF (pL_eqProcS_b1 m) m (a1,a2,0)) fun _=>
 some true
theorem c120:CC (mo 120 [.row .iProc,.row .iProc] oB (q2 pL_eqProcS)):=mq (cs c205 cn) ⟨[],[],[(4,true,⟨[],[eR 0 .iProc,eR 1 .iProc,eI 5]⟩,0,⟨[],[]⟩)]⟩ Tryz.f120
def pL_eqAsk (m:Nat) (a1 a2:IAsk):Option Bool:=
 br (a1.Pane !=a2.Pane) (
 some false) <|
 br (!decide (a1.Cmd=a2.Cmd)) (
 some false) <|
 br (!decide (a1.Dir=a2.Dir)) (
 some false) <|
 br (a1.W !=a2.W) (
 some false) <|
 br (a1.H !=a2.H) (
 some false) <|
 br (a1.Pid !=a2.Pid) (
 some false) <|
 some true
theorem c206:CC (mo 206 [jS .iAsk,jS .iAsk] oB (q2 pL_eqAsk)):=mq cn tn Tryz.f206
def pL_eqAskS_b1 (m:Nat):Lp (List IAsk×List IAsk×Int) (Unit⊕Bool):=fun(v4,v5,v6)=>
 br (decide (v6<(↑v4.length:Int))) (
 gd (0<=v6/\v6<(↑v4.length:Int)) <|
 bd v4[v6.toNat]? fun x7=>
 gd (0<=v6/\v6<(↑v5.length:Int)) <|
 bd v5[v6.toNat]? fun x8=>
 bd (pL_eqAsk m x7 x8) fun x9=>
 br (!x9) (
 some (.inr (.inr false))) <|
 gd (inK .i64 (v6+1)) <|
 some (.inl (v4,v5,v6+1))) <|
 some (.inr (.inl ()))
def pL_eqAskS (m:Nat) (a1 a2:List IAsk):Option Bool:=
 br ((↑a1.length:Int) !=(↑a2.length:Int)) (
 some false) <|
 jn (V:=Unit) (
 loopF (pL_eqAskS_b1 m) m (a1,a2,0)) fun _=>
 some true
theorem c121:CC (mo 121 [.row .iAsk,.row .iAsk] oB (q2 pL_eqAskS)):=mq (cs c206 cn) ⟨[],[],[(4,true,⟨[],[eR 0 .iAsk,eR 1 .iAsk,eI 5]⟩,0,⟨[],[]⟩)]⟩ Tryz.f121
def pL_eqTable (m:Nat) (a1 a2:ITable):Option Bool:=
 br (a1.Next !=a2.Next) (
 some false) <|
 bd (pL_eqProcS m a1.Live a2.Live) fun x3=>
 br (!x3) (
 some false) <|
 bd (pL_eqAskS m a1.Asked a2.Asked) fun x4=>
 br (!x4) (
 some false) <|
 some true
theorem c48:CC (mo 48 [jS .iTable,jS .iTable] oB (q2 pL_eqTable)):=mq (cs c120 (cs c121 cn)) tn Tryz.f48
def pL_eqOp (m:Nat) (a1 a2:IOp):Option Bool:=
 br (a1.Kind !=a2.Kind) (
 some false) <|
 br (a1.A !=a2.A) (
 some false) <|
 br (a1.B !=a2.B) (
 some false) <|
 br (a1.C !=a2.C) (
 some false) <|
 br (!decide (a1.Name=a2.Name)) (
 some false) <|
 br (!decide (a1.Text=a2.Text)) (
 some false) <|
 br (!decide (a1.Dir=a2.Dir)) (
 some false) <|
 bd (pL_eqByteS m a1.Data a2.Data) fun x3=>
 br (!x3) (
 some false) <|
 some true
theorem c207:CC (mo 207 [jS .iOp,jS .iOp] oB (q2 pL_eqOp)):=mq (cs c261 cn) tn Tryz.f207
def pL_eqHist (m:Nat) (a1 a2:IHist):Option Bool:=
 br (!a1.Lost==a2.Lost) (
 some false) <|
 bd (pL_eqOp m a1.Op a2.Op) fun x3=>
 br (!x3) (
 some false) <|
 some true
theorem c122:CC (mo 122 [jS .iHist,jS .iHist] oB (q2 pL_eqHist)):=mq (cs c207 cn) tn Tryz.f122
def pL_eqHistS_b1 (m:Nat):Lp (List IHist×List IHist×Int) (Unit⊕Bool):=fun(v4,v5,v6)=>
 br (decide (v6<(↑v4.length:Int))) (
 gd (0<=v6/\v6<(↑v4.length:Int)) <|
 bd v4[v6.toNat]? fun x7=>
 gd (0<=v6/\v6<(↑v5.length:Int)) <|
 bd v5[v6.toNat]? fun x8=>
 bd (pL_eqHist m x7 x8) fun x9=>
 br (!x9) (
 some (.inr (.inr false))) <|
 gd (inK .i64 (v6+1)) <|
 some (.inl (v4,v5,v6+1))) <|
 some (.inr (.inl ()))
def pL_eqHistS (m:Nat) (a1 a2:List IHist):Option Bool:=
 br ((↑a1.length:Int) !=(↑a2.length:Int)) (
 some false) <|
 jn (V:=Unit) (
 loopF (pL_eqHistS_b1 m) m (a1,a2,0)) fun _=>
 some true
theorem c49:CC (mo 49 [.row .iHist,.row .iHist] oB (q2 pL_eqHistS)):=mq (cs c122 cn) ⟨[],[],[(4,true,⟨[],[eR 0 .iHist,eR 1 .iHist,eI 5]⟩,0,⟨[],[]⟩)]⟩ Tryz.f49
def pL_eqSrv (m:Nat) (a1 a2:ISrv):Option Bool:=
 bd (pL_eqState m a1.Base a2.Base) fun x3=>
 br (!x3) (
 some false) <|
 br (a1.Top !=a2.Top) (
 some false) <|
 br (!a1.Up==a2.Up) (
 some false) <|
 bd (pL_eqState m a1.St a2.St) fun x4=>
 br (!x4) (
 some false) <|
 bd (pL_eqDepot m a1.Dep a2.Dep) fun x5=>
 br (!x5) (
 some false) <|
 bd (pL_eqDisk m a1.Disk a2.Disk) fun x6=>
 br (!x6) (
 some false) <|
 bd (pL_eqTable m a1.Tab a2.Tab) fun x7=>
 br (!x7) (
 some false) <|
 br (a1.Sure !=a2.Sure) (
 some false) <|
 bd (pL_eqHistS m a1.Done a2.Done) fun x8=>
 br (!x8) (
 some false) <|
 some true
theorem c9:CC (mo 9 [jS .iSrv,jS .iSrv] oB (q2 pL_eqSrv)):=mq (cs c45 (cs c46 (cs c47 (cs c48 (cs c49 cn))))) tn Tryz.f9
def pS_StateNew (m:Nat) (a1 a2 a3:Int):Option (IState×Bool):=
 bd (pS_StateOk m (IState.mk a1 a2 a3 1 [] [] [])) fun x4=>
 br (!x4) (
 some (IState.mk 0 0 0 0 [] [] [],false)) <|
 some (IState.mk a1 a2 a3 1 [] [] [],true)
theorem c50:CC (mo 50 [jI,jI,jI] (.tup [.st .iState [(4,dB),(5,dB),(6,dB)],.B]) (q3 pS_StateNew)):=mq (cs c19 cn) tn Tryz.f50
def pS_DiskNew (m:Nat) (a1:Int):Option (IDisk×Bool):=
 bd (α:=IDisk×Int×Bool) (
 br (decide (a1<0)) (
 some (IDisk.mk 0 0 0 [] [] [],a1,true)) <|
 some (IDisk.mk 0 0 0 [] [] [],a1,decide (400000<a1))) fun(x2,x3,x4)=>
 br x4 (
 some (IDisk.mk 0 0 0 [] [] [],false)) <|
 some (IDisk.mk x3 (-1) 1 [] [] [],true)
theorem c51:CC (mo 51 [jI] (.tup [.st .iDisk [(3,dB),(4,99),(5,99)],.B]) pS_DiskNew):=mq cn ⟨[(1,⟨[(2,.ptr 300 0)],[.sto 300 .iDisk [(3,1050000001),(4,50000002),(5,50000003)],eI 0,eB 9]⟩)],[],[]⟩ Tryz.f51
def pS_SrvNew (m:Nat) (a1 a2 a3 a4 a5:Int):Option (ISrv×Bool):=
 bd (pS_StateNew m a1 a2 a3) fun(x6,x7)=>
 bd (pS_DiskNew m a4) fun(x8,x9)=>
 bd (α:=ISrv×ISrv×Bool) (
 br (!x7) (
 some (ISrv.mk (IState.mk 0 0 0 0 [] [] []) 0 false (IState.mk 0 0 0 0 [] [] []) (IDepot.mk (IDisk.mk 0 0 0 [] [] []) 0 0 0 false) (IDisk.mk 0 0 0 [] [] []) (ITable.mk 0 [] []) 0 [],ISrv.mk x6 a5 false (IState.mk 0 0 0 0 [] [] []) (IDepot.mk (IDisk.mk 0 0 0 [] [] []) 0 0 0 false) x8 (ITable.mk 1 [] []) 0 [],true)) <|
 br (!x9) (
 some (ISrv.mk (IState.mk 0 0 0 0 [] [] []) 0 false (IState.mk 0 0 0 0 [] [] []) (IDepot.mk (IDisk.mk 0 0 0 [] [] []) 0 0 0 false) (IDisk.mk 0 0 0 [] [] []) (ITable.mk 0 [] []) 0 [],ISrv.mk x6 a5 false (IState.mk 0 0 0 0 [] [] []) (IDepot.mk (IDisk.mk 0 0 0 [] [] []) 0 0 0 false) x8 (ITable.mk 1 [] []) 0 [],true)) <|
 bd (pS_SrvOk m (ISrv.mk x6 a5 false (IState.mk 0 0 0 0 [] [] []) (IDepot.mk (IDisk.mk 0 0 0 [] [] []) 0 0 0 false) x8 (ITable.mk 1 [] []) 0 [])) fun x10=>
 some (ISrv.mk (IState.mk 0 0 0 0 [] [] []) 0 false (IState.mk 0 0 0 0 [] [] []) (IDepot.mk (IDisk.mk 0 0 0 [] [] []) 0 0 0 false) (IDisk.mk 0 0 0 [] [] []) (ITable.mk 0 [] []) 0 [],ISrv.mk x6 a5 false (IState.mk 0 0 0 0 [] [] []) (IDepot.mk (IDisk.mk 0 0 0 [] [] []) 0 0 0 false) x8 (ITable.mk 1 [] []) 0 [],!x10)) fun(x11,x12,x13)=>
 br x13 (
 some (ISrv.mk (IState.mk 0 0 0 0 [] [] []) 0 false (IState.mk 0 0 0 0 [] [] []) (IDepot.mk (IDisk.mk 0 0 0 [] [] []) 0 0 0 false) (IDisk.mk 0 0 0 [] [] []) (ITable.mk 0 [] []) 0 [],false)) <|
 some (x12,true)
theorem c10:CC (mo 10 [jI,jI,jI,jI,jI] (.tup [.st .iSrv [(4,dB),(5,dB),(6,dB),(13,dB),(14,dB),(15,dB),(19,dB),(20,99),(21,99),(29,dB),(30,99),(31,99),(33,99),(34,99),(36,dB)],.B]) (q5 pS_SrvNew)):=mq (cs c50 (cs c51 (cs c6 cn))) ⟨[(4,⟨[(10,.ptr 1100 0),(16,.ptr 1700 0)],[.sto 1100 .iSrv [(4,1050000001),(5,1050000002),(6,1050000003),(13,1050000004),(14,1050000005),(15,1050000006),(19,1050000007),(20,50000008),(21,50000009),(29,1050000010),(30,50000011),(31,50000012),(33,50000013),(34,50000014),(36,1050000015)],.sto 1700 .iSrv [(4,1022000004),(5,1022000005),(6,1022000006),(13,1050000016),(14,1050000017),(15,1050000018),(19,1050000019),(20,50000020),(21,50000021),(29,1027000003),(30,27000004),(31,27000005),(33,50000022),(34,50000023),(36,1050000024)],eB 44]⟩)],[],[]⟩ Tryz.f10
def pI_StateNew (m:Nat) (a1 a2 a3:Int):Option (IState×Bool):=
 bd (pI_StateOk m (IState.mk a1 a2 a3 1 [] [] [])) fun x4=>
 br (!x4) (
 some (IState.mk 0 0 0 0 [] [] [],false)) <|
 some (IState.mk a1 a2 a3 1 [] [] [],true)
theorem c52:CC (mo 52 [jI,jI,jI] (.tup [.st .iState [(4,dB),(5,dB),(6,dB)],.B]) (q3 pI_StateNew)):=mq (cs c33 cn) tn Tryz.f52
def pI_DiskNew (m:Nat) (a1:Int):Option (IDisk×Bool):=
 bd (pI_within m a1 0 400000) fun x2=>
 br (!x2) (
 some (IDisk.mk 0 0 0 [] [] [],false)) <|
 some (IDisk.mk a1 (-1) 1 [] [] [],true)
theorem c53:CC (mo 53 [jI] (.tup [.st .iDisk [(3,dB),(4,99),(5,99)],.B]) pI_DiskNew):=mq (cs c34 cn) tn Tryz.f53
def pI_SrvNew (m:Nat) (a1 a2 a3 a4 a5:Int):Option (ISrv×Bool):=
 bd (pI_StateNew m a1 a2 a3) fun(x6,x7)=>
 bd (pI_DiskNew m a4) fun(x8,x9)=>
 bd (α:=ISrv×ISrv×Bool) (
 br (!x7) (
 some (ISrv.mk (IState.mk 0 0 0 0 [] [] []) 0 false (IState.mk 0 0 0 0 [] [] []) (IDepot.mk (IDisk.mk 0 0 0 [] [] []) 0 0 0 false) (IDisk.mk 0 0 0 [] [] []) (ITable.mk 0 [] []) 0 [],ISrv.mk x6 a5 false (IState.mk 0 0 0 0 [] [] []) (IDepot.mk (IDisk.mk 0 0 0 [] [] []) 0 0 0 false) x8 (ITable.mk 1 [] []) 0 [],true)) <|
 br (!x9) (
 some (ISrv.mk (IState.mk 0 0 0 0 [] [] []) 0 false (IState.mk 0 0 0 0 [] [] []) (IDepot.mk (IDisk.mk 0 0 0 [] [] []) 0 0 0 false) (IDisk.mk 0 0 0 [] [] []) (ITable.mk 0 [] []) 0 [],ISrv.mk x6 a5 false (IState.mk 0 0 0 0 [] [] []) (IDepot.mk (IDisk.mk 0 0 0 [] [] []) 0 0 0 false) x8 (ITable.mk 1 [] []) 0 [],true)) <|
 bd (pI_SrvOk m (ISrv.mk x6 a5 false (IState.mk 0 0 0 0 [] [] []) (IDepot.mk (IDisk.mk 0 0 0 [] [] []) 0 0 0 false) x8 (ITable.mk 1 [] []) 0 [])) fun x10=>
 some (ISrv.mk (IState.mk 0 0 0 0 [] [] []) 0 false (IState.mk 0 0 0 0 [] [] []) (IDepot.mk (IDisk.mk 0 0 0 [] [] []) 0 0 0 false) (IDisk.mk 0 0 0 [] [] []) (ITable.mk 0 [] []) 0 [],ISrv.mk x6 a5 false (IState.mk 0 0 0 0 [] [] []) (IDepot.mk (IDisk.mk 0 0 0 [] [] []) 0 0 0 false) x8 (ITable.mk 1 [] []) 0 [],!x10)) fun(x11,x12,x13)=>
 br x13 (
 some (ISrv.mk (IState.mk 0 0 0 0 [] [] []) 0 false (IState.mk 0 0 0 0 [] [] []) (IDepot.mk (IDisk.mk 0 0 0 [] [] []) 0 0 0 false) (IDisk.mk 0 0 0 [] [] []) (ITable.mk 0 [] []) 0 [],false)) <|
 some (x12,true)
theorem c11:CC (mo 11 [jI,jI,jI,jI,jI] (.tup [.st .iSrv [(4,dB),(5,dB),(6,dB),(13,dB),(14,dB),(15,dB),(19,dB),(20,99),(21,99),(29,dB),(30,99),(31,99),(33,99),(34,99),(36,dB)],.B]) (q5 pI_SrvNew)):=mq (cs c52 (cs c53 (cs c8 cn))) ⟨[(4,⟨[(10,.ptr 1100 0),(16,.ptr 1700 0)],[.sto 1100 .iSrv [(4,1050000001),(5,1050000002),(6,1050000003),(13,1050000004),(14,1050000005),(15,1050000006),(19,1050000007),(20,50000008),(21,50000009),(29,1050000010),(30,50000011),(31,50000012),(33,50000013),(34,50000014),(36,1050000015)],.sto 1700 .iSrv [(4,1022000004),(5,1022000005),(6,1022000006),(13,1050000016),(14,1050000017),(15,1050000018),(19,1050000019),(20,50000020),(21,50000021),(29,1027000003),(30,27000004),(31,27000005),(33,50000022),(34,50000023),(36,1050000024)],eB 44]⟩)],[],[]⟩ Tryz.f11
def pL_markText_b1 (m:Nat):Lp (Int×ByteArray) ByteArray:=fun(v4,v5)=>
 br (decide (0<v4)) (
 gd ((10:Int)≠(0:Int)) <|
 gd (inK .i64 (48+v4.tmod 10)) <|
 gd ((ByteArray.mk #[UInt8.ofNat (IntKind.u8.wrap (48+v4.tmod 10)).toNat]).size+v5.size<=9223372036854775807) <|
 gd ((10:Int)≠(0:Int)) <|
 gd (inK .i64 (v4.tdiv 10)) <|
 some (.inl (v4.tdiv 10,ByteArray.mk #[UInt8.ofNat (IntKind.u8.wrap (48+v4.tmod 10)).toNat]++v5))) <|
 some (.inr v5)
def pL_markText (m:Nat) (a1:Int):Option ByteArray:=
 br (decide (a1<=0)) (
 some (ByteArray.mk #[109,48])) <|
 bd (α:=ByteArray) (
 loopF (pL_markText_b1 m) m (a1,ByteArray.mk #[])) fun x3=>
 gd ((ByteArray.mk #[109]).size+x3.size<=9223372036854775807) <|
 some (ByteArray.mk #[109]++x3)
theorem c131:CC (mo 131 [jI] (.one .S) pL_markText):=mq cn ⟨[],[],[(4,false,⟨[],[eI 0,eS 3]⟩,0,⟨[],[eS 3]⟩)]⟩ Tryz.f131
def pL_markByteS_b1 (m:Nat):Lp (List UInt8×Int×Int) (Int×List UInt8):=fun(v6,v7,v8)=>
 br (decide (v8<(↑v6.length:Int))) (
 gd (0<=v8/\v8<(↑v6.length:Int)) <|
 bd (v6[0+v8.toNat]?) fun x9=>
 gd (inK .i64 (v7+1)) <|
 gd (inK .i64 (v8+1)) <|
 some (.inl (v6.set (0+v8.toNat) (UInt8.ofNat (IntKind.u8.wrap v7).toNat),v7+1,v8+1))) <|
 some (.inr (v7,v6))
def pL_markByteS (m:Nat) (a1:List UInt8) (a2:Int):Option (Int×List UInt8):=
 bd (α:=Int×List UInt8) (
 loopF (pL_markByteS_b1 m) m (a1,a2,0)) fun(x4,x5)=>
 some (x4,x5)
theorem c132:CC (mx 132 [none,none] [.own .u8 99,jI] 101 (.tup [jI,.own .u8 99]) (q2 pL_markByteS)):=mq cn ⟨[],[],[(2,false,⟨[],[eO 0 .u8 50,eI 1,eI 5]⟩,0,⟨[],[eI 1,.rw 50 .u8]⟩)]⟩ Tryz.f132
def pL_markIntS_b1 (m:Nat):Lp (List Int×Int×Int) (Int×List Int):=fun(v6,v7,v8)=>
 br (decide (v8<(↑v6.length:Int))) (
 gd (0<=v8/\v8<(↑v6.length:Int)) <|
 bd (v6[0+v8.toNat]?) fun x9=>
 gd (inK .i64 (v8+1)) <|
 some (.inl (v6.set (0+v8.toNat) v7,IntKind.i64.wrap (v7+1),v8+1))) <|
 some (.inr (v7,v6))
def pL_markIntS (m:Nat) (a1:List Int) (a2:Int):Option (Int×List Int):=
 bd (α:=Int×List Int) (
 loopF (pL_markIntS_b1 m) m (a1,a2,0)) fun(x4,x5)=>
 some (x4,x5)
theorem c208:CC (mx 208 [none,none] [.own .int 99,jI] 101 (.tup [jI,.own .int 99]) (q2 pL_markIntS)):=mq cn ⟨[],[],[(2,false,⟨[],[eO 0 .int 50,eI 1,eI 5]⟩,0,⟨[],[eI 1,.rw 50 .int]⟩)]⟩ Tryz.f208
def pL_markCellS_b1 (m:Nat):Lp (List ICell×Int×Int) (Int×List ICell):=fun(v6,v7,v8)=>
 br (decide (v8<(↑v6.length:Int))) (
 gd (0<=v8/\v8<(↑v6.length:Int)) <|
 bd (v6[0+v8.toNat]?) fun x9=>
 gd (inK .i64 (v7+1)) <|
 gd (0<=v8/\v8<(↑v6.length:Int)) <|
 bd ((v6.set (0+v8.toNat) (ICell.mk v7 x9.A))[0+v8.toNat]?) fun x10=>
 gd (inK .i64 (v7+1+1)) <|
 gd (0<=v8/\v8<(↑v6.length:Int)) <|
 bd (((v6.set (0+v8.toNat) (ICell.mk v7 x9.A)).set (0+v8.toNat) (ICell.mk x10.R (IAttr.mk (v7+1) x10.A.Bg x10.A.Bold x10.A.Under x10.A.Turn)))[0+v8.toNat]?) fun x11=>
 gd (inK .i64 (v7+1+1+1)) <|
 gd ((3:Int)≠(0:Int)) <|
 gd (0<=v8/\v8<(↑v6.length:Int)) <|
 bd ((((v6.set (0+v8.toNat) (ICell.mk v7 x9.A)).set (0+v8.toNat) (ICell.mk x10.R (IAttr.mk (v7+1) x10.A.Bg x10.A.Bold x10.A.Under x10.A.Turn))).set (0+v8.toNat) (ICell.mk x11.R (IAttr.mk x11.A.Fg (v7+1+1) x11.A.Bold x11.A.Under x11.A.Turn)))[0+v8.toNat]?) fun x12=>
 gd (inK .i64 (v7+1+1+1+1)) <|
 gd ((3:Int)≠(0:Int)) <|
 gd (0<=v8/\v8<(↑v6.length:Int)) <|
 bd (((((v6.set (0+v8.toNat) (ICell.mk v7 x9.A)).set (0+v8.toNat) (ICell.mk x10.R (IAttr.mk (v7+1) x10.A.Bg x10.A.Bold x10.A.Under x10.A.Turn))).set (0+v8.toNat) (ICell.mk x11.R (IAttr.mk x11.A.Fg (v7+1+1) x11.A.Bold x11.A.Under x11.A.Turn))).set (0+v8.toNat) (ICell.mk x12.R (IAttr.mk x12.A.Fg x12.A.Bg ((v7+1+1+1).tmod 3==0) x12.A.Under x12.A.Turn)))[0+v8.toNat]?) fun x13=>
 gd (inK .i64 (v7+1+1+1+1+1)) <|
 gd ((3:Int)≠(0:Int)) <|
 gd (0<=v8/\v8<(↑v6.length:Int)) <|
 bd ((((((v6.set (0+v8.toNat) (ICell.mk v7 x9.A)).set (0+v8.toNat) (ICell.mk x10.R (IAttr.mk (v7+1) x10.A.Bg x10.A.Bold x10.A.Under x10.A.Turn))).set (0+v8.toNat) (ICell.mk x11.R (IAttr.mk x11.A.Fg (v7+1+1) x11.A.Bold x11.A.Under x11.A.Turn))).set (0+v8.toNat) (ICell.mk x12.R (IAttr.mk x12.A.Fg x12.A.Bg ((v7+1+1+1).tmod 3==0) x12.A.Under x12.A.Turn))).set (0+v8.toNat) (ICell.mk x13.R (IAttr.mk x13.A.Fg x13.A.Bg x13.A.Bold ((v7+1+1+1+1).tmod 3==0) x13.A.Turn)))[0+v8.toNat]?) fun x14=>
 gd (inK .i64 (v7+1+1+1+1+1+1)) <|
 gd (inK .i64 (v8+1)) <|
 some (.inl ((((((v6.set (0+v8.toNat) (ICell.mk v7 x9.A)).set (0+v8.toNat) (ICell.mk x10.R (IAttr.mk (v7+1) x10.A.Bg x10.A.Bold x10.A.Under x10.A.Turn))).set (0+v8.toNat) (ICell.mk x11.R (IAttr.mk x11.A.Fg (v7+1+1) x11.A.Bold x11.A.Under x11.A.Turn))).set (0+v8.toNat) (ICell.mk x12.R (IAttr.mk x12.A.Fg x12.A.Bg ((v7+1+1+1).tmod 3==0) x12.A.Under x12.A.Turn))).set (0+v8.toNat) (ICell.mk x13.R (IAttr.mk x13.A.Fg x13.A.Bg x13.A.Bold ((v7+1+1+1+1).tmod 3==0) x13.A.Turn))).set (0+v8.toNat) (ICell.mk x14.R (IAttr.mk x14.A.Fg x14.A.Bg x14.A.Bold x14.A.Under ((v7+1+1+1+1+1).tmod 3==0))),v7+1+1+1+1+1+1,v8+1))) <|
 some (.inr (v7,v6))
def pL_markCellS (m:Nat) (a1:List ICell) (a2:Int):Option (Int×List ICell):=
 bd (α:=Int×List ICell) (
 loopF (pL_markCellS_b1 m) m (a1,a2,0)) fun(x4,x5)=>
 some (x4,x5)
theorem c209:CC (mx 209 [none,none] [.own .iCell 99,jI] 101 (.tup [jI,.own .iCell 99]) (q2 pL_markCellS)):=mq cn ⟨[],[],[(2,false,⟨[],[eO 0 .iCell 50,eI 1,eI 5]⟩,0,⟨[],[eI 1,.rw 50 .iCell]⟩)]⟩ Tryz.f209
def pL_markRowS_b1 (m:Nat):Lp (List IRow×Int×Int) (Int×List IRow):=fun(v6,v7,v8)=>
 br (decide (v8<(↑v6.length:Int))) (
 gd (0<=v8/\v8<(↑v6.length:Int)) <|
 bd (v6[0+v8.toNat]?) fun x9=>
 bd (v6[0+v8.toNat]?) fun x10=>
 bd (pL_markCellS m x10.Cells v7) fun(x11,x12)=>
 gd (inK .i64 (v8+1)) <|
 some (.inl (v6.set (0+v8.toNat) (IRow.mk x12),x11,v8+1))) <|
 some (.inr (v7,v6))
def pL_markRowS (m:Nat) (a1:List IRow) (a2:Int):Option (Int×List IRow):=
 bd (α:=Int×List IRow) (
 loopF (pL_markRowS_b1 m) m (a1,a2,0)) fun(x4,x5)=>
 some (x4,x5)
theorem c210:CC (mx 210 [none,none] [.own .iRow dB,jI] 101 (.tup [jI,.own .iRow dB]) (q2 pL_markRowS)):=mq (cs c209 cn) ⟨[],[],[(2,false,⟨[],[eO 0 .iRow 50,eI 1,eI 5]⟩,0,⟨[],[eI 1,.rw 50 .iRow]⟩)]⟩ Tryz.f210
def pL_markPaneS_b1 (m:Nat):Lp (List IPane×Int×Int) (Int×List IPane):=fun(v6,v7,v8)=>
 br (decide (v8<(↑v6.length:Int))) (
 gd (0<=v8/\v8<(↑v6.length:Int)) <|
 bd (v6[0+v8.toNat]?) fun x9=>
 gd (inK .i64 (v7+1)) <|
 bd (pL_markText m (v7+1)) fun x10=>
 gd (0<=v8/\v8<(↑v6.length:Int)) <|
 gd (0+v8.toNat=0+v8.toNat) <|
 gd (inK .i64 (v7+1+1)) <|
 bd (pL_markText m (v7+1+1)) fun x11=>
 gd (0<=v8/\v8<(↑v6.length:Int)) <|
 gd (0+v8.toNat=0+v8.toNat) <|
 gd (inK .i64 (v7+1+1+1)) <|
 gd (0<=v8/\v8<(↑v6.length:Int)) <|
 gd (0+v8.toNat=0+v8.toNat) <|
 gd (inK .i64 (v7+1+1+1+1)) <|
 gd (0<=v8/\v8<(↑v6.length:Int)) <|
 gd (0+v8.toNat=0+v8.toNat) <|
 gd (inK .i64 (v7+1+1+1+1+1)) <|
 gd (0<=v8/\v8<(↑v6.length:Int)) <|
 gd (0+v8.toNat=0+v8.toNat) <|
 gd (inK .i64 (v7+1+1+1+1+1+1)) <|
 gd (0<=v8/\v8<(↑v6.length:Int)) <|
 gd (0+v8.toNat=0+v8.toNat) <|
 gd (inK .i64 (v7+1+1+1+1+1+1+1)) <|
 gd ((3:Int)≠(0:Int)) <|
 gd (0<=v8/\v8<(↑v6.length:Int)) <|
 gd (0+v8.toNat=0+v8.toNat) <|
 gd (inK .i64 (v7+1+1+1+1+1+1+1+1)) <|
 gd (0<=v8/\v8<(↑v6.length:Int)) <|
 gd (0+v8.toNat=0+v8.toNat) <|
 bd (pL_markIntS m x9.Term.P.Args (v7+1+1+1+1+1+1+1+1)) fun(x12,x13)=>
 gd (0<=v8/\v8<(↑v6.length:Int)) <|
 gd (0+v8.toNat=0+v8.toNat) <|
 bd (pL_markByteS m x9.Term.P.Part x12) fun(x14,x15)=>
 gd (0<=v8/\v8<(↑v6.length:Int)) <|
 gd (0+v8.toNat=0+v8.toNat) <|
 gd (inK .i64 (x14+1)) <|
 gd (0<=v8/\v8<(↑v6.length:Int)) <|
 gd (0+v8.toNat=0+v8.toNat) <|
 gd (inK .i64 (x14+1+1)) <|
 gd (0<=v8/\v8<(↑v6.length:Int)) <|
 gd (0+v8.toNat=0+v8.toNat) <|
 gd (inK .i64 (x14+1+1+1)) <|
 gd (0<=v8/\v8<(↑v6.length:Int)) <|
 gd (0+v8.toNat=0+v8.toNat) <|
 gd (inK .i64 (x14+1+1+1+1)) <|
 gd (0<=v8/\v8<(↑v6.length:Int)) <|
 gd (0+v8.toNat=0+v8.toNat) <|
 bd (pL_markCellS m x9.Term.S.Main.Cells (x14+1+1+1+1)) fun(x16,x17)=>
 gd (0<=v8/\v8<(↑v6.length:Int)) <|
 gd (0+v8.toNat=0+v8.toNat) <|
 gd (inK .i64 (x16+1)) <|
 gd (0<=v8/\v8<(↑v6.length:Int)) <|
 gd (0+v8.toNat=0+v8.toNat) <|
 gd (inK .i64 (x16+1+1)) <|
 gd (0<=v8/\v8<(↑v6.length:Int)) <|
 gd (0+v8.toNat=0+v8.toNat) <|
 bd (pL_markCellS m x9.Term.S.Alt.Cells (x16+1+1)) fun(x18,x19)=>
 gd ((3:Int)≠(0:Int)) <|
 gd (0<=v8/\v8<(↑v6.length:Int)) <|
 gd (0+v8.toNat=0+v8.toNat) <|
 gd (inK .i64 (x18+1)) <|
 gd (0<=v8/\v8<(↑v6.length:Int)) <|
 gd (0+v8.toNat=0+v8.toNat) <|
 gd (inK .i64 (x18+1+1)) <|
 gd (0<=v8/\v8<(↑v6.length:Int)) <|
 gd (0+v8.toNat=0+v8.toNat) <|
 gd (inK .i64 (x18+1+1+1)) <|
 gd ((3:Int)≠(0:Int)) <|
 gd (0<=v8/\v8<(↑v6.length:Int)) <|
 gd (0+v8.toNat=0+v8.toNat) <|
 gd (inK .i64 (x18+1+1+1+1)) <|
 gd (0<=v8/\v8<(↑v6.length:Int)) <|
 gd (0+v8.toNat=0+v8.toNat) <|
 gd (inK .i64 (x18+1+1+1+1+1)) <|
 gd (0<=v8/\v8<(↑v6.length:Int)) <|
 gd (0+v8.toNat=0+v8.toNat) <|
 gd (inK .i64 (x18+1+1+1+1+1+1)) <|
 gd ((3:Int)≠(0:Int)) <|
 gd (0<=v8/\v8<(↑v6.length:Int)) <|
 gd (0+v8.toNat=0+v8.toNat) <|
 gd (inK .i64 (x18+1+1+1+1+1+1+1)) <|
 gd ((3:Int)≠(0:Int)) <|
 gd (0<=v8/\v8<(↑v6.length:Int)) <|
 gd (0+v8.toNat=0+v8.toNat) <|
 gd (inK .i64 (x18+1+1+1+1+1+1+1+1)) <|
 gd ((3:Int)≠(0:Int)) <|
 gd (0<=v8/\v8<(↑v6.length:Int)) <|
 gd (0+v8.toNat=0+v8.toNat) <|
 gd (inK .i64 (x18+1+1+1+1+1+1+1+1+1)) <|
 gd (0<=v8/\v8<(↑v6.length:Int)) <|
 gd (0+v8.toNat=0+v8.toNat) <|
 gd (inK .i64 (x18+1+1+1+1+1+1+1+1+1+1)) <|
 gd (0<=v8/\v8<(↑v6.length:Int)) <|
 gd (0+v8.toNat=0+v8.toNat) <|
 gd (inK .i64 (x18+1+1+1+1+1+1+1+1+1+1+1)) <|
 gd ((3:Int)≠(0:Int)) <|
 gd (0<=v8/\v8<(↑v6.length:Int)) <|
 gd (0+v8.toNat=0+v8.toNat) <|
 gd (inK .i64 (x18+1+1+1+1+1+1+1+1+1+1+1+1)) <|
 gd ((3:Int)≠(0:Int)) <|
 gd (0<=v8/\v8<(↑v6.length:Int)) <|
 gd (0+v8.toNat=0+v8.toNat) <|
 gd (inK .i64 (x18+1+1+1+1+1+1+1+1+1+1+1+1+1)) <|
 gd (0<=v8/\v8<(↑v6.length:Int)) <|
 gd (0+v8.toNat=0+v8.toNat) <|
 gd (inK .i64 (x18+1+1+1+1+1+1+1+1+1+1+1+1+1+1)) <|
 gd (0<=v8/\v8<(↑v6.length:Int)) <|
 gd (0+v8.toNat=0+v8.toNat) <|
 gd (inK .i64 (x18+1+1+1+1+1+1+1+1+1+1+1+1+1+1+1)) <|
 gd (0<=v8/\v8<(↑v6.length:Int)) <|
 gd (0+v8.toNat=0+v8.toNat) <|
 gd (inK .i64 (x18+1+1+1+1+1+1+1+1+1+1+1+1+1+1+1+1)) <|
 gd (0<=v8/\v8<(↑v6.length:Int)) <|
 gd (0+v8.toNat=0+v8.toNat) <|
 gd (inK .i64 (x18+1+1+1+1+1+1+1+1+1+1+1+1+1+1+1+1+1)) <|
 gd ((3:Int)≠(0:Int)) <|
 gd (0<=v8/\v8<(↑v6.length:Int)) <|
 gd (0+v8.toNat=0+v8.toNat) <|
 gd (inK .i64 (x18+1+1+1+1+1+1+1+1+1+1+1+1+1+1+1+1+1+1)) <|
 gd ((3:Int)≠(0:Int)) <|
 gd (0<=v8/\v8<(↑v6.length:Int)) <|
 gd (0+v8.toNat=0+v8.toNat) <|
 gd (inK .i64 (x18+1+1+1+1+1+1+1+1+1+1+1+1+1+1+1+1+1+1+1)) <|
 gd ((3:Int)≠(0:Int)) <|
 gd (0<=v8/\v8<(↑v6.length:Int)) <|
 gd (0+v8.toNat=0+v8.toNat) <|
 gd (inK .i64 (x18+1+1+1+1+1+1+1+1+1+1+1+1+1+1+1+1+1+1+1+1)) <|
 gd (0<=v8/\v8<(↑v6.length:Int)) <|
 gd (0+v8.toNat=0+v8.toNat) <|
 bd (pL_markIntS m x9.Term.S.Tabs (x18+1+1+1+1+1+1+1+1+1+1+1+1+1+1+1+1+1+1+1+1)) fun(x20,x21)=>
 gd (0<=v8/\v8<(↑v6.length:Int)) <|
 gd (0+v8.toNat=0+v8.toNat) <|
 gd (inK .i64 (x20+1)) <|
 gd (0<=v8/\v8<(↑v6.length:Int)) <|
 gd (0+v8.toNat=0+v8.toNat) <|
 bd (pL_markRowS m x9.Term.S.Back (x20+1)) fun(x22,x23)=>
 gd (inK .i64 (v8+1)) <|
 some (.inl (v6.set (0+v8.toNat) (IPane.mk v7 x10 x11 (v7+1+1+1) (v7+1+1+1+1) (v7+1+1+1+1+1) (ITerm.mk (IVp.mk (v7+1+1+1+1+1+1) ((v7+1+1+1+1+1+1+1).tmod 3==0) x13 x15) (IScr.mk x14 (x14+1) (IGrid.mk (x14+1+1) (x14+1+1+1) x17) (IGrid.mk x16 (x16+1) x19) (x18.tmod 3==0) (x18+1) (x18+1+1) ((x18+1+1+1).tmod 3==0) (IAttr.mk (x18+1+1+1+1) (x18+1+1+1+1+1) ((x18+1+1+1+1+1+1).tmod 3==0) ((x18+1+1+1+1+1+1+1).tmod 3==0) ((x18+1+1+1+1+1+1+1+1).tmod 3==0)) (x18+1+1+1+1+1+1+1+1+1) (x18+1+1+1+1+1+1+1+1+1+1) ((x18+1+1+1+1+1+1+1+1+1+1+1).tmod 3==0) ((x18+1+1+1+1+1+1+1+1+1+1+1+1).tmod 3==0) (x18+1+1+1+1+1+1+1+1+1+1+1+1+1) (x18+1+1+1+1+1+1+1+1+1+1+1+1+1+1) (IAttr.mk (x18+1+1+1+1+1+1+1+1+1+1+1+1+1+1+1) (x18+1+1+1+1+1+1+1+1+1+1+1+1+1+1+1+1) ((x18+1+1+1+1+1+1+1+1+1+1+1+1+1+1+1+1+1).tmod 3==0) ((x18+1+1+1+1+1+1+1+1+1+1+1+1+1+1+1+1+1+1).tmod 3==0) ((x18+1+1+1+1+1+1+1+1+1+1+1+1+1+1+1+1+1+1+1).tmod 3==0)) x21 x20 x23))),x22,v8+1))) <|
 some (.inr (v7,v6))
def pL_markPaneS (m:Nat) (a1:List IPane) (a2:Int):Option (Int×List IPane):=
 bd (α:=Int×List IPane) (
 loopF (pL_markPaneS_b1 m) m (a1,a2,0)) fun(x4,x5)=>
 some (x4,x5)
theorem c123:CC (mx 123 [none,none] [.own .iPane dB,jI] 101 (.tup [jI,.own .iPane dB]) (q2 pL_markPaneS)):=mq (cs c131 (cs c208 (cs c132 (cs c209 (cs c210 cn))))) ⟨[],[],[(2,false,⟨[],[eO 0 .iPane 50,eI 1,eI 5]⟩,0,⟨[],[eI 1,.rw 50 .iPane]⟩)]⟩ Tryz.f123
def pL_markNodeS_b1 (m:Nat):Lp (List INode×Int×Int) (Int×List INode):=fun(v6,v7,v8)=>
 br (decide (v8<(↑v6.length:Int))) (
 gd (0<=v8/\v8<(↑v6.length:Int)) <|
 bd (v6[0+v8.toNat]?) fun x9=>
 gd (inK .i64 (v7+1)) <|
 gd ((3:Int)≠(0:Int)) <|
 gd (0<=v8/\v8<(↑v6.length:Int)) <|
 bd ((v6.set (0+v8.toNat) (INode.mk v7 x9.Down x9.First))[0+v8.toNat]?) fun x10=>
 gd (inK .i64 (v7+1+1)) <|
 gd (0<=v8/\v8<(↑v6.length:Int)) <|
 bd (((v6.set (0+v8.toNat) (INode.mk v7 x9.Down x9.First)).set (0+v8.toNat) (INode.mk x10.Pane ((v7+1).tmod 3==0) x10.First))[0+v8.toNat]?) fun x11=>
 gd (inK .i64 (v7+1+1+1)) <|
 gd (inK .i64 (v8+1)) <|
 some (.inl (((v6.set (0+v8.toNat) (INode.mk v7 x9.Down x9.First)).set (0+v8.toNat) (INode.mk x10.Pane ((v7+1).tmod 3==0) x10.First)).set (0+v8.toNat) (INode.mk x11.Pane x11.Down (v7+1+1)),v7+1+1+1,v8+1))) <|
 some (.inr (v7,v6))
def pL_markNodeS (m:Nat) (a1:List INode) (a2:Int):Option (Int×List INode):=
 bd (α:=Int×List INode) (
 loopF (pL_markNodeS_b1 m) m (a1,a2,0)) fun(x4,x5)=>
 some (x4,x5)
theorem c211:CC (mx 211 [none,none] [.own .iNode 99,jI] 101 (.tup [jI,.own .iNode 99]) (q2 pL_markNodeS)):=mq cn ⟨[],[],[(2,false,⟨[],[eO 0 .iNode 50,eI 1,eI 5]⟩,0,⟨[],[eI 1,.rw 50 .iNode]⟩)]⟩ Tryz.f211
def pL_markWinS_b1 (m:Nat):Lp (List IWin×Int×Int) (Int×List IWin):=fun(v6,v7,v8)=>
 br (decide (v8<(↑v6.length:Int))) (
 gd (0<=v8/\v8<(↑v6.length:Int)) <|
 bd (v6[0+v8.toNat]?) fun x9=>
 gd (inK .i64 (v7+1)) <|
 bd (pL_markText m (v7+1)) fun x10=>
 gd (0<=v8/\v8<(↑v6.length:Int)) <|
 gd (0+v8.toNat=0+v8.toNat) <|
 gd (inK .i64 (v7+1+1)) <|
 gd (0<=v8/\v8<(↑v6.length:Int)) <|
 gd (0+v8.toNat=0+v8.toNat) <|
 bd (pL_markNodeS m x9.Tree (v7+1+1)) fun(x11,x12)=>
 gd (0<=v8/\v8<(↑v6.length:Int)) <|
 gd (0+v8.toNat=0+v8.toNat) <|
 gd (inK .i64 (x11+1)) <|
 gd ((3:Int)≠(0:Int)) <|
 gd (0<=v8/\v8<(↑v6.length:Int)) <|
 gd (0+v8.toNat=0+v8.toNat) <|
 gd (inK .i64 (x11+1+1)) <|
 gd (inK .i64 (v8+1)) <|
 some (.inl (v6.set (0+v8.toNat) (IWin.mk v7 x10 x12 x11 ((x11+1).tmod 3==0)),x11+1+1,v8+1))) <|
 some (.inr (v7,v6))
def pL_markWinS (m:Nat) (a1:List IWin) (a2:Int):Option (Int×List IWin):=
 bd (α:=Int×List IWin) (
 loopF (pL_markWinS_b1 m) m (a1,a2,0)) fun(x4,x5)=>
 some (x4,x5)
theorem c124:CC (mx 124 [none,none] [.own .iWin dB,jI] 101 (.tup [jI,.own .iWin dB]) (q2 pL_markWinS)):=mq (cs c131 (cs c211 cn)) ⟨[],[],[(2,false,⟨[],[eO 0 .iWin 50,eI 1,eI 5]⟩,0,⟨[],[eI 1,.rw 50 .iWin]⟩)]⟩ Tryz.f124
def pL_markSessS_b1 (m:Nat):Lp (List ISess×Int×Int) (Int×List ISess):=fun(v6,v7,v8)=>
 br (decide (v8<(↑v6.length:Int))) (
 bd (pL_markText m v7) fun x9=>
 gd (0<=v8/\v8<(↑v6.length:Int)) <|
 bd (v6[0+v8.toNat]?) fun x10=>
 gd (inK .i64 (v7+1)) <|
 gd (0<=v8/\v8<(↑v6.length:Int)) <|
 gd (0+v8.toNat=0+v8.toNat) <|
 bd (pL_markIntS m x10.Wins (v7+1)) fun(x11,x12)=>
 gd (0<=v8/\v8<(↑v6.length:Int)) <|
 gd (0+v8.toNat=0+v8.toNat) <|
 gd (inK .i64 (x11+1)) <|
 gd (inK .i64 (v8+1)) <|
 some (.inl (v6.set (0+v8.toNat) (ISess.mk x9 x12 x11),x11+1,v8+1))) <|
 some (.inr (v7,v6))
def pL_markSessS (m:Nat) (a1:List ISess) (a2:Int):Option (Int×List ISess):=
 bd (α:=Int×List ISess) (
 loopF (pL_markSessS_b1 m) m (a1,a2,0)) fun(x4,x5)=>
 some (x4,x5)
theorem c125:CC (mx 125 [none,none] [.own .iSess dB,jI] 101 (.tup [jI,.own .iSess dB]) (q2 pL_markSessS)):=mq (cs c131 (cs c208 cn)) ⟨[],[],[(2,false,⟨[],[eO 0 .iSess 50,eI 1,eI 5]⟩,0,⟨[],[eI 1,.rw 50 .iSess]⟩)]⟩ Tryz.f125
def pL_markState (m:Nat) (a1:IState) (a2:Int):Option (Int×List IPane×List IWin×List ISess):=
 bd (pL_markPaneS m a1.Panes a2) fun(x3,x4)=>
 bd (pL_markWinS m a1.Wins x3) fun(x5,x6)=>
 bd (pL_markSessS m a1.Sess x5) fun(x7,x8)=>
 some (x7,x4,x6,x8)
theorem c54:CC (mx 54 [none,none] [.st .iState [(4,dB),(5,dB),(6,dB)],jI] 103 (.tup [jI,.own .iPane dB,.own .iWin dB,.own .iSess dB]) (q2 pL_markState)):=mq (cs c123 (cs c124 (cs c125 cn))) tn Tryz.f54
def pL_markFileS_b1 (m:Nat):Lp (List IFile×Int×Int) (Int×List IFile):=fun(v6,v7,v8)=>
 br (decide (v8<(↑v6.length:Int))) (
 gd (0<=v8/\v8<(↑v6.length:Int)) <|
 bd (v6[0+v8.toNat]?) fun x9=>
 gd (inK .i64 (v7+1)) <|
 gd (0<=v8/\v8<(↑v6.length:Int)) <|
 gd (0+v8.toNat=0+v8.toNat) <|
 bd (pL_markByteS m x9.Body (v7+1)) fun(x10,x11)=>
 gd (0<=v8/\v8<(↑v6.length:Int)) <|
 gd (0+v8.toNat=0+v8.toNat) <|
 gd (inK .i64 (x10+1)) <|
 gd (inK .i64 (v8+1)) <|
 some (.inl (v6.set (0+v8.toNat) (IFile.mk v7 x11 x10),x10+1,v8+1))) <|
 some (.inr (v7,v6))
def pL_markFileS (m:Nat) (a1:List IFile) (a2:Int):Option (Int×List IFile):=
 bd (α:=Int×List IFile) (
 loopF (pL_markFileS_b1 m) m (a1,a2,0)) fun(x4,x5)=>
 some (x4,x5)
theorem c126:CC (mx 126 [none,none] [.own .iFile dB,jI] 101 (.tup [jI,.own .iFile dB]) (q2 pL_markFileS)):=mq (cs c132 cn) ⟨[],[],[(2,false,⟨[],[eO 0 .iFile 50,eI 1,eI 5]⟩,0,⟨[],[eI 1,.rw 50 .iFile]⟩)]⟩ Tryz.f126
def pL_markLinkS_b1 (m:Nat):Lp (List ILink×Int×Int) (Int×List ILink):=fun(v6,v7,v8)=>
 br (decide (v8<(↑v6.length:Int))) (
 bd (pL_markText m v7) fun x9=>
 gd (0<=v8/\v8<(↑v6.length:Int)) <|
 bd (v6[0+v8.toNat]?) fun x10=>
 gd (inK .i64 (v7+1)) <|
 gd (0<=v8/\v8<(↑v6.length:Int)) <|
 bd ((v6.set (0+v8.toNat) (ILink.mk x9 x10.Id))[0+v8.toNat]?) fun x11=>
 gd (inK .i64 (v7+1+1)) <|
 gd (inK .i64 (v8+1)) <|
 some (.inl ((v6.set (0+v8.toNat) (ILink.mk x9 x10.Id)).set (0+v8.toNat) (ILink.mk x11.Name (v7+1)),v7+1+1,v8+1))) <|
 some (.inr (v7,v6))
def pL_markLinkS (m:Nat) (a1:List ILink) (a2:Int):Option (Int×List ILink):=
 bd (α:=Int×List ILink) (
 loopF (pL_markLinkS_b1 m) m (a1,a2,0)) fun(x4,x5)=>
 some (x4,x5)
theorem c127:CC (mx 127 [none,none] [.own .iLink 99,jI] 101 (.tup [jI,.own .iLink 99]) (q2 pL_markLinkS)):=mq (cs c131 cn) ⟨[],[],[(2,false,⟨[],[eO 0 .iLink 50,eI 1,eI 5]⟩,0,⟨[],[eI 1,.rw 50 .iLink]⟩)]⟩ Tryz.f127
def pL_markTurnS_b1 (m:Nat):Lp (List ITurn×Int×Int) (Int×List ITurn):=fun(v6,v7,v8)=>
 br (decide (v8<(↑v6.length:Int))) (
 gd (0<=v8/\v8<(↑v6.length:Int)) <|
 bd (v6[0+v8.toNat]?) fun x9=>
 gd (inK .i64 (v7+1)) <|
 bd (pL_markText m (v7+1)) fun x10=>
 gd (0<=v8/\v8<(↑v6.length:Int)) <|
 bd ((v6.set (0+v8.toNat) (ITurn.mk v7 x9.Name x9.To x9.Id))[0+v8.toNat]?) fun x11=>
 gd (inK .i64 (v7+1+1)) <|
 bd (pL_markText m (v7+1+1)) fun x12=>
 gd (0<=v8/\v8<(↑v6.length:Int)) <|
 bd (((v6.set (0+v8.toNat) (ITurn.mk v7 x9.Name x9.To x9.Id)).set (0+v8.toNat) (ITurn.mk x11.Kind x10 x11.To x11.Id))[0+v8.toNat]?) fun x13=>
 gd (inK .i64 (v7+1+1+1)) <|
 gd (0<=v8/\v8<(↑v6.length:Int)) <|
 bd ((((v6.set (0+v8.toNat) (ITurn.mk v7 x9.Name x9.To x9.Id)).set (0+v8.toNat) (ITurn.mk x11.Kind x10 x11.To x11.Id)).set (0+v8.toNat) (ITurn.mk x13.Kind x13.Name x12 x13.Id))[0+v8.toNat]?) fun x14=>
 gd (inK .i64 (v7+1+1+1+1)) <|
 gd (inK .i64 (v8+1)) <|
 some (.inl ((((v6.set (0+v8.toNat) (ITurn.mk v7 x9.Name x9.To x9.Id)).set (0+v8.toNat) (ITurn.mk x11.Kind x10 x11.To x11.Id)).set (0+v8.toNat) (ITurn.mk x13.Kind x13.Name x12 x13.Id)).set (0+v8.toNat) (ITurn.mk x14.Kind x14.Name x14.To (v7+1+1+1)),v7+1+1+1+1,v8+1))) <|
 some (.inr (v7,v6))
def pL_markTurnS (m:Nat) (a1:List ITurn) (a2:Int):Option (Int×List ITurn):=
 bd (α:=Int×List ITurn) (
 loopF (pL_markTurnS_b1 m) m (a1,a2,0)) fun(x4,x5)=>
 some (x4,x5)
theorem c128:CC (mx 128 [none,none] [.own .iTurn 99,jI] 101 (.tup [jI,.own .iTurn 99]) (q2 pL_markTurnS)):=mq (cs c131 cn) ⟨[],[],[(2,false,⟨[],[eO 0 .iTurn 50,eI 1,eI 5]⟩,0,⟨[],[eI 1,.rw 50 .iTurn]⟩)]⟩ Tryz.f128
def pL_markDisk (m:Nat) (a1:IDisk) (a2:Int):Option (Int×List IFile×List ILink×List ITurn):=
 bd (pL_markFileS m a1.Files a2) fun(x3,x4)=>
 bd (pL_markLinkS m a1.Kept x3) fun(x5,x6)=>
 bd (pL_markTurnS m a1.Turns x5) fun(x7,x8)=>
 some (x7,x4,x6,x8)
theorem c56:CC (mx 56 [none,none] [.st .iDisk [(3,dB),(4,99),(5,99)],jI] 103 (.tup [jI,.own .iFile dB,.own .iLink 99,.own .iTurn 99]) (q2 pL_markDisk)):=mq (cs c126 (cs c127 (cs c128 cn))) tn Tryz.f56
def pL_markDepot (m:Nat) (a1:IDepot) (a2:Int):Option (Int×List IFile×List ILink×List ITurn):=
 bd (pL_markDisk m a1.Disk a2) fun(x3,x4,x5,x6)=>
 some (x3,x4,x5,x6)
theorem c55:CC (mx 55 [none,none] [.st .iDepot [(3,dB),(4,99),(5,99)],jI] 103 (.tup [jI,.own .iFile dB,.own .iLink 99,.own .iTurn 99]) (q2 pL_markDepot)):=mq (cs c56 cn) tn Tryz.f55
def pL_markProcS_b1 (m:Nat):Lp (List IProc×Int×Int) (Int×List IProc):=fun(v6,v7,v8)=>
 br (decide (v8<(↑v6.length:Int))) (
 gd (0<=v8/\v8<(↑v6.length:Int)) <|
 bd (v6[0+v8.toNat]?) fun x9=>
 gd (inK .i64 (v7+1)) <|
 gd (0<=v8/\v8<(↑v6.length:Int)) <|
 bd ((v6.set (0+v8.toNat) (IProc.mk v7 x9.Pane))[0+v8.toNat]?) fun x10=>
 gd (inK .i64 (v7+1+1)) <|
 gd (inK .i64 (v8+1)) <|
 some (.inl ((v6.set (0+v8.toNat) (IProc.mk v7 x9.Pane)).set (0+v8.toNat) (IProc.mk x10.Pid (v7+1)),v7+1+1,v8+1))) <|
 some (.inr (v7,v6))
def pL_markProcS (m:Nat) (a1:List IProc) (a2:Int):Option (Int×List IProc):=
 bd (α:=Int×List IProc) (
 loopF (pL_markProcS_b1 m) m (a1,a2,0)) fun(x4,x5)=>
 some (x4,x5)
theorem c129:CC (mx 129 [none,none] [.own .iProc 99,jI] 101 (.tup [jI,.own .iProc 99]) (q2 pL_markProcS)):=mq cn ⟨[],[],[(2,false,⟨[],[eO 0 .iProc 50,eI 1,eI 5]⟩,0,⟨[],[eI 1,.rw 50 .iProc]⟩)]⟩ Tryz.f129
def pL_markAskS_b1 (m:Nat):Lp (List IAsk×Int×Int) (Int×List IAsk):=fun(v6,v7,v8)=>
 br (decide (v8<(↑v6.length:Int))) (
 gd (0<=v8/\v8<(↑v6.length:Int)) <|
 bd (v6[0+v8.toNat]?) fun x9=>
 gd (inK .i64 (v7+1)) <|
 bd (pL_markText m (v7+1)) fun x10=>
 gd (0<=v8/\v8<(↑v6.length:Int)) <|
 bd ((v6.set (0+v8.toNat) (IAsk.mk v7 x9.Cmd x9.Dir x9.W x9.H x9.Pid))[0+v8.toNat]?) fun x11=>
 gd (inK .i64 (v7+1+1)) <|
 bd (pL_markText m (v7+1+1)) fun x12=>
 gd (0<=v8/\v8<(↑v6.length:Int)) <|
 bd (((v6.set (0+v8.toNat) (IAsk.mk v7 x9.Cmd x9.Dir x9.W x9.H x9.Pid)).set (0+v8.toNat) (IAsk.mk x11.Pane x10 x11.Dir x11.W x11.H x11.Pid))[0+v8.toNat]?) fun x13=>
 gd (inK .i64 (v7+1+1+1)) <|
 gd (0<=v8/\v8<(↑v6.length:Int)) <|
 bd ((((v6.set (0+v8.toNat) (IAsk.mk v7 x9.Cmd x9.Dir x9.W x9.H x9.Pid)).set (0+v8.toNat) (IAsk.mk x11.Pane x10 x11.Dir x11.W x11.H x11.Pid)).set (0+v8.toNat) (IAsk.mk x13.Pane x13.Cmd x12 x13.W x13.H x13.Pid))[0+v8.toNat]?) fun x14=>
 gd (inK .i64 (v7+1+1+1+1)) <|
 gd (0<=v8/\v8<(↑v6.length:Int)) <|
 bd (((((v6.set (0+v8.toNat) (IAsk.mk v7 x9.Cmd x9.Dir x9.W x9.H x9.Pid)).set (0+v8.toNat) (IAsk.mk x11.Pane x10 x11.Dir x11.W x11.H x11.Pid)).set (0+v8.toNat) (IAsk.mk x13.Pane x13.Cmd x12 x13.W x13.H x13.Pid)).set (0+v8.toNat) (IAsk.mk x14.Pane x14.Cmd x14.Dir (v7+1+1+1) x14.H x14.Pid))[0+v8.toNat]?) fun x15=>
 gd (inK .i64 (v7+1+1+1+1+1)) <|
 gd (0<=v8/\v8<(↑v6.length:Int)) <|
 bd ((((((v6.set (0+v8.toNat) (IAsk.mk v7 x9.Cmd x9.Dir x9.W x9.H x9.Pid)).set (0+v8.toNat) (IAsk.mk x11.Pane x10 x11.Dir x11.W x11.H x11.Pid)).set (0+v8.toNat) (IAsk.mk x13.Pane x13.Cmd x12 x13.W x13.H x13.Pid)).set (0+v8.toNat) (IAsk.mk x14.Pane x14.Cmd x14.Dir (v7+1+1+1) x14.H x14.Pid)).set (0+v8.toNat) (IAsk.mk x15.Pane x15.Cmd x15.Dir x15.W (v7+1+1+1+1) x15.Pid))[0+v8.toNat]?) fun x16=>
 gd (inK .i64 (v7+1+1+1+1+1+1)) <|
 gd (inK .i64 (v8+1)) <|
 some (.inl ((((((v6.set (0+v8.toNat) (IAsk.mk v7 x9.Cmd x9.Dir x9.W x9.H x9.Pid)).set (0+v8.toNat) (IAsk.mk x11.Pane x10 x11.Dir x11.W x11.H x11.Pid)).set (0+v8.toNat) (IAsk.mk x13.Pane x13.Cmd x12 x13.W x13.H x13.Pid)).set (0+v8.toNat) (IAsk.mk x14.Pane x14.Cmd x14.Dir (v7+1+1+1) x14.H x14.Pid)).set (0+v8.toNat) (IAsk.mk x15.Pane x15.Cmd x15.Dir x15.W (v7+1+1+1+1) x15.Pid)).set (0+v8.toNat) (IAsk.mk x16.Pane x16.Cmd x16.Dir x16.W x16.H (v7+1+1+1+1+1)),v7+1+1+1+1+1+1,v8+1))) <|
 some (.inr (v7,v6))
def pL_markAskS (m:Nat) (a1:List IAsk) (a2:Int):Option (Int×List IAsk):=
 bd (α:=Int×List IAsk) (
 loopF (pL_markAskS_b1 m) m (a1,a2,0)) fun(x4,x5)=>
 some (x4,x5)
theorem c130:CC (mx 130 [none,none] [.own .iAsk 99,jI] 101 (.tup [jI,.own .iAsk 99]) (q2 pL_markAskS)):=mq (cs c131 cn) ⟨[],[],[(2,false,⟨[],[eO 0 .iAsk 50,eI 1,eI 5]⟩,0,⟨[],[eI 1,.rw 50 .iAsk]⟩)]⟩ Tryz.f130
def pL_markTable (m:Nat) (a1:ITable) (a2:Int):Option (Int×List IProc×List IAsk):=
 bd (pL_markProcS m a1.Live a2) fun(x3,x4)=>
 bd (pL_markAskS m a1.Asked x3) fun(x5,x6)=>
 some (x5,x4,x6)
theorem c57:CC (mx 57 [none,none] [.st .iTable [(1,99),(2,99)],jI] 102 (.tup [jI,.own .iProc 99,.own .iAsk 99]) (q2 pL_markTable)):=mq (cs c129 (cs c130 cn)) tn Tryz.f57
def pL_markHistS_b1 (m:Nat):Lp (List IHist×Int×Int) (Int×List IHist):=fun(v6,v7,v8)=>
 br (decide (v8<(↑v6.length:Int))) (
 gd ((3:Int)≠(0:Int)) <|
 gd (0<=v8/\v8<(↑v6.length:Int)) <|
 bd (v6[0+v8.toNat]?) fun x9=>
 gd (inK .i64 (v7+1)) <|
 gd (0<=v8/\v8<(↑v6.length:Int)) <|
 gd (0+v8.toNat=0+v8.toNat) <|
 gd (inK .i64 (v7+1+1)) <|
 gd (0<=v8/\v8<(↑v6.length:Int)) <|
 gd (0+v8.toNat=0+v8.toNat) <|
 gd (inK .i64 (v7+1+1+1)) <|
 gd (0<=v8/\v8<(↑v6.length:Int)) <|
 gd (0+v8.toNat=0+v8.toNat) <|
 gd (inK .i64 (v7+1+1+1+1)) <|
 gd (0<=v8/\v8<(↑v6.length:Int)) <|
 gd (0+v8.toNat=0+v8.toNat) <|
 gd (inK .i64 (v7+1+1+1+1+1)) <|
 bd (pL_markText m (v7+1+1+1+1+1)) fun x10=>
 gd (0<=v8/\v8<(↑v6.length:Int)) <|
 gd (0+v8.toNat=0+v8.toNat) <|
 gd (inK .i64 (v7+1+1+1+1+1+1)) <|
 bd (pL_markText m (v7+1+1+1+1+1+1)) fun x11=>
 gd (0<=v8/\v8<(↑v6.length:Int)) <|
 gd (0+v8.toNat=0+v8.toNat) <|
 gd (inK .i64 (v7+1+1+1+1+1+1+1)) <|
 bd (pL_markText m (v7+1+1+1+1+1+1+1)) fun x12=>
 gd (0<=v8/\v8<(↑v6.length:Int)) <|
 gd (0+v8.toNat=0+v8.toNat) <|
 gd (inK .i64 (v7+1+1+1+1+1+1+1+1)) <|
 gd (0<=v8/\v8<(↑v6.length:Int)) <|
 gd (0+v8.toNat=0+v8.toNat) <|
 bd (pL_markByteS m x9.Op.Data (v7+1+1+1+1+1+1+1+1)) fun(x13,x14)=>
 gd (inK .i64 (v8+1)) <|
 some (.inl (v6.set (0+v8.toNat) (IHist.mk (v7.tmod 3==0) (IOp.mk (v7+1) (v7+1+1) (v7+1+1+1) (v7+1+1+1+1) x10 x11 x12 x14)),x13,v8+1))) <|
 some (.inr (v7,v6))
def pL_markHistS (m:Nat) (a1:List IHist) (a2:Int):Option (Int×List IHist):=
 bd (α:=Int×List IHist) (
 loopF (pL_markHistS_b1 m) m (a1,a2,0)) fun(x4,x5)=>
 some (x4,x5)
theorem c58:CC (mx 58 [none,none] [.own .iHist dB,jI] 101 (.tup [jI,.own .iHist dB]) (q2 pL_markHistS)):=mq (cs c131 (cs c132 cn)) ⟨[],[],[(2,false,⟨[],[eO 0 .iHist 50,eI 1,eI 5]⟩,0,⟨[],[eI 1,.rw 50 .iHist]⟩)]⟩ Tryz.f58
def pL_markSrv (m:Nat) (a1:ISrv) (a2:Int):Option (Int×List IPane×List IWin×List ISess×List IPane×List IWin×List ISess×List IFile×List ILink×List ITurn×List IFile×List ILink×List ITurn×List IProc×List IAsk×List IHist):=
 bd (pL_markState m a1.Base a2) fun(x3,x4,x5,x6)=>
 bd (pL_markState m a1.St x3) fun(x7,x8,x9,x10)=>
 bd (pL_markDepot m a1.Dep x7) fun(x11,x12,x13,x14)=>
 bd (pL_markDisk m a1.Disk x11) fun(x15,x16,x17,x18)=>
 bd (pL_markTable m a1.Tab x15) fun(x19,x20,x21)=>
 bd (pL_markHistS m a1.Done x19) fun(x22,x23)=>
 some (x22,x4,x5,x6,x8,x9,x10,x12,x13,x14,x16,x17,x18,x20,x21,x23)
theorem c12:CC (mx 12 [none,none] [.st .iSrv [(4,dB),(5,dB),(6,dB),(13,dB),(14,dB),(15,dB),(19,dB),(20,99),(21,99),(29,dB),(30,99),(31,99),(33,99),(34,99),(36,dB)],jI] 115 (.tup [jI,.own .iPane dB,.own .iWin dB,.own .iSess dB,.own .iPane dB,.own .iWin dB,.own .iSess dB,.own .iFile dB,.own .iLink 99,.own .iTurn 99,.own .iFile dB,.own .iLink 99,.own .iTurn 99,.own .iProc 99,.own .iAsk 99,.own .iHist dB]) (q2 pL_markSrv)):=mq (cs c54 (cs c55 (cs c56 (cs c57 (cs c58 cn))))) tn Tryz.f12
def pL_heldByteS_b1 (m:Nat):Lp (List UInt8×Int×Int) (Int⊕Int):=fun(v5,v6,v7)=>
 br (decide (v7<(↑v5.length:Int))) (
 gd (0<=v7/\v7<(↑v5.length:Int)) <|
 bd v5[v7.toNat]? fun x8=>
 br ((↑x8.toNat:Int) !=IntKind.u8.wrap v6) (
 some (.inr (.inr (-1)))) <|
 gd (inK .i64 (v6+1)) <|
 gd (inK .i64 (v7+1)) <|
 some (.inl (v5,v6+1,v7+1))) <|
 some (.inr (.inl v6))
def pL_heldByteS (m:Nat) (a1:List UInt8) (a2:Int):Option Int:=
 jn (V:=Int) (
 loopF (pL_heldByteS_b1 m) m (a1,a2,0)) fun v4=>
 some v4
theorem c141:CC (mo 141 [.row .u8,jI] oI (q2 pL_heldByteS)):=mq cn ⟨[],[],[(2,true,⟨[],[eR 0 .u8,eI 1,eI 5]⟩,0,⟨[],[eI 1]⟩)]⟩ Tryz.f141
def pL_heldIntS_b1 (m:Nat):Lp (List Int×Int×Int) (Int⊕Int):=fun(v5,v6,v7)=>
 br (decide (v7<(↑v5.length:Int))) (
 gd (0<=v7/\v7<(↑v5.length:Int)) <|
 bd v5[v7.toNat]? fun x8=>
 br (x8 !=v6) (
 some (.inr (.inr (-1)))) <|
 gd (inK .i64 (v6+1)) <|
 gd (inK .i64 (v7+1)) <|
 some (.inl (v5,v6+1,v7+1))) <|
 some (.inr (.inl v6))
def pL_heldIntS (m:Nat) (a1:List Int) (a2:Int):Option Int:=
 jn (V:=Int) (
 loopF (pL_heldIntS_b1 m) m (a1,a2,0)) fun v4=>
 some v4
theorem c212:CC (mo 212 [.row .int,jI] oI (q2 pL_heldIntS)):=mq cn ⟨[],[],[(2,true,⟨[],[eR 0 .int,eI 1,eI 5]⟩,0,⟨[],[eI 1]⟩)]⟩ Tryz.f212
def pL_heldCellS_b1 (m:Nat):Lp (List ICell×Int×Int) (Int⊕Int):=fun(v5,v6,v7)=>
 br (decide (v7<(↑v5.length:Int))) (
 gd (0<=v7/\v7<(↑v5.length:Int)) <|
 bd v5[v7.toNat]? fun x8=>
 br (x8.R !=v6) (
 some (.inr (.inr (-1)))) <|
 gd (inK .i64 (v6+1)) <|
 gd (0<=v7/\v7<(↑v5.length:Int)) <|
 bd v5[v7.toNat]? fun x9=>
 br (x9.A.Fg !=v6+1) (
 some (.inr (.inr (-1)))) <|
 gd (inK .i64 (v6+1+1)) <|
 gd (0<=v7/\v7<(↑v5.length:Int)) <|
 bd v5[v7.toNat]? fun x10=>
 br (x10.A.Bg !=v6+1+1) (
 some (.inr (.inr (-1)))) <|
 gd (inK .i64 (v6+1+1+1)) <|
 gd (0<=v7/\v7<(↑v5.length:Int)) <|
 bd v5[v7.toNat]? fun x11=>
 gd ((3:Int)≠(0:Int)) <|
 br (!x11.A.Bold==((v6+1+1+1).tmod 3==0)) (
 some (.inr (.inr (-1)))) <|
 gd (inK .i64 (v6+1+1+1+1)) <|
 gd (0<=v7/\v7<(↑v5.length:Int)) <|
 bd v5[v7.toNat]? fun x12=>
 gd ((3:Int)≠(0:Int)) <|
 br (!x12.A.Under==((v6+1+1+1+1).tmod 3==0)) (
 some (.inr (.inr (-1)))) <|
 gd (inK .i64 (v6+1+1+1+1+1)) <|
 gd (0<=v7/\v7<(↑v5.length:Int)) <|
 bd v5[v7.toNat]? fun x13=>
 gd ((3:Int)≠(0:Int)) <|
 br (!x13.A.Turn==((v6+1+1+1+1+1).tmod 3==0)) (
 some (.inr (.inr (-1)))) <|
 gd (inK .i64 (v6+1+1+1+1+1+1)) <|
 gd (inK .i64 (v7+1)) <|
 some (.inl (v5,v6+1+1+1+1+1+1,v7+1))) <|
 some (.inr (.inl v6))
def pL_heldCellS (m:Nat) (a1:List ICell) (a2:Int):Option Int:=
 jn (V:=Int) (
 loopF (pL_heldCellS_b1 m) m (a1,a2,0)) fun v4=>
 some v4
theorem c213:CC (mo 213 [.row .iCell,jI] oI (q2 pL_heldCellS)):=mq cn ⟨[],[],[(2,true,⟨[],[eR 0 .iCell,eI 1,eI 5]⟩,0,⟨[],[eI 1]⟩)]⟩ Tryz.f213
def pL_heldRowS_b1 (m:Nat):Lp (List IRow×Int×Int) (Int⊕Int):=fun(v5,v6,v7)=>
 br (decide (v7<(↑v5.length:Int))) (
 gd (0<=v7/\v7<(↑v5.length:Int)) <|
 bd v5[v7.toNat]? fun x8=>
 bd (pL_heldCellS m x8.Cells v6) fun x9=>
 br (decide (x9<0)) (
 some (.inr (.inr (-1)))) <|
 gd (inK .i64 (v7+1)) <|
 some (.inl (v5,x9,v7+1))) <|
 some (.inr (.inl v6))
def pL_heldRowS (m:Nat) (a1:List IRow) (a2:Int):Option Int:=
 jn (V:=Int) (
 loopF (pL_heldRowS_b1 m) m (a1,a2,0)) fun v4=>
 some v4
theorem c214:CC (mo 214 [.row .iRow,jI] oI (q2 pL_heldRowS)):=mq (cs c213 cn) ⟨[],[],[(2,true,⟨[],[eR 0 .iRow,eI 1,eI 5]⟩,0,⟨[],[eI 1]⟩)]⟩ Tryz.f214
def pL_heldPaneS_b1 (m:Nat):Lp (List IPane×Int×Int) (Int⊕Int):=fun(v5,v6,v7)=>
 br (decide (v7<(↑v5.length:Int))) (
 gd (0<=v7/\v7<(↑v5.length:Int)) <|
 bd v5[v7.toNat]? fun x8=>
 br (x8.Id !=v6) (
 some (.inr (.inr (-1)))) <|
 gd (inK .i64 (v6+1)) <|
 gd (0<=v7/\v7<(↑v5.length:Int)) <|
 bd v5[v7.toNat]? fun x9=>
 bd (pL_markText m (v6+1)) fun x10=>
 br (!decide (x9.Cmd=x10)) (
 some (.inr (.inr (-1)))) <|
 gd (inK .i64 (v6+1+1)) <|
 gd (0<=v7/\v7<(↑v5.length:Int)) <|
 bd v5[v7.toNat]? fun x11=>
 bd (pL_markText m (v6+1+1)) fun x12=>
 br (!decide (x11.Dir=x12)) (
 some (.inr (.inr (-1)))) <|
 gd (inK .i64 (v6+1+1+1)) <|
 gd (0<=v7/\v7<(↑v5.length:Int)) <|
 bd v5[v7.toNat]? fun x13=>
 br (x13.Life !=v6+1+1+1) (
 some (.inr (.inr (-1)))) <|
 gd (inK .i64 (v6+1+1+1+1)) <|
 gd (0<=v7/\v7<(↑v5.length:Int)) <|
 bd v5[v7.toNat]? fun x14=>
 br (x14.Code !=v6+1+1+1+1) (
 some (.inr (.inr (-1)))) <|
 gd (inK .i64 (v6+1+1+1+1+1)) <|
 gd (0<=v7/\v7<(↑v5.length:Int)) <|
 bd v5[v7.toNat]? fun x15=>
 br (x15.Pid !=v6+1+1+1+1+1) (
 some (.inr (.inr (-1)))) <|
 gd (inK .i64 (v6+1+1+1+1+1+1)) <|
 gd (0<=v7/\v7<(↑v5.length:Int)) <|
 bd v5[v7.toNat]? fun x16=>
 br (x16.Term.P.State !=v6+1+1+1+1+1+1) (
 some (.inr (.inr (-1)))) <|
 gd (inK .i64 (v6+1+1+1+1+1+1+1)) <|
 gd (0<=v7/\v7<(↑v5.length:Int)) <|
 bd v5[v7.toNat]? fun x17=>
 gd ((3:Int)≠(0:Int)) <|
 br (!x17.Term.P.Mark==((v6+1+1+1+1+1+1+1).tmod 3==0)) (
 some (.inr (.inr (-1)))) <|
 gd (inK .i64 (v6+1+1+1+1+1+1+1+1)) <|
 gd (0<=v7/\v7<(↑v5.length:Int)) <|
 bd v5[v7.toNat]? fun x18=>
 bd (pL_heldIntS m x18.Term.P.Args (v6+1+1+1+1+1+1+1+1)) fun x19=>
 br (decide (x19<0)) (
 some (.inr (.inr (-1)))) <|
 gd (0<=v7/\v7<(↑v5.length:Int)) <|
 bd v5[v7.toNat]? fun x20=>
 bd (pL_heldByteS m x20.Term.P.Part x19) fun x21=>
 br (decide (x21<0)) (
 some (.inr (.inr (-1)))) <|
 gd (0<=v7/\v7<(↑v5.length:Int)) <|
 bd v5[v7.toNat]? fun x22=>
 br (x22.Term.S.W !=x21) (
 some (.inr (.inr (-1)))) <|
 gd (inK .i64 (x21+1)) <|
 gd (0<=v7/\v7<(↑v5.length:Int)) <|
 bd v5[v7.toNat]? fun x23=>
 br (x23.Term.S.H !=x21+1) (
 some (.inr (.inr (-1)))) <|
 gd (inK .i64 (x21+1+1)) <|
 gd (0<=v7/\v7<(↑v5.length:Int)) <|
 bd v5[v7.toNat]? fun x24=>
 br (x24.Term.S.Main.W !=x21+1+1) (
 some (.inr (.inr (-1)))) <|
 gd (inK .i64 (x21+1+1+1)) <|
 gd (0<=v7/\v7<(↑v5.length:Int)) <|
 bd v5[v7.toNat]? fun x25=>
 br (x25.Term.S.Main.H !=x21+1+1+1) (
 some (.inr (.inr (-1)))) <|
 gd (inK .i64 (x21+1+1+1+1)) <|
 gd (0<=v7/\v7<(↑v5.length:Int)) <|
 bd v5[v7.toNat]? fun x26=>
 bd (pL_heldCellS m x26.Term.S.Main.Cells (x21+1+1+1+1)) fun x27=>
 br (decide (x27<0)) (
 some (.inr (.inr (-1)))) <|
 gd (0<=v7/\v7<(↑v5.length:Int)) <|
 bd v5[v7.toNat]? fun x28=>
 br (x28.Term.S.Alt.W !=x27) (
 some (.inr (.inr (-1)))) <|
 gd (inK .i64 (x27+1)) <|
 gd (0<=v7/\v7<(↑v5.length:Int)) <|
 bd v5[v7.toNat]? fun x29=>
 br (x29.Term.S.Alt.H !=x27+1) (
 some (.inr (.inr (-1)))) <|
 gd (inK .i64 (x27+1+1)) <|
 gd (0<=v7/\v7<(↑v5.length:Int)) <|
 bd v5[v7.toNat]? fun x30=>
 bd (pL_heldCellS m x30.Term.S.Alt.Cells (x27+1+1)) fun x31=>
 br (decide (x31<0)) (
 some (.inr (.inr (-1)))) <|
 gd (0<=v7/\v7<(↑v5.length:Int)) <|
 bd v5[v7.toNat]? fun x32=>
 gd ((3:Int)≠(0:Int)) <|
 br (!x32.Term.S.OnAlt==(x31.tmod 3==0)) (
 some (.inr (.inr (-1)))) <|
 gd (inK .i64 (x31+1)) <|
 gd (0<=v7/\v7<(↑v5.length:Int)) <|
 bd v5[v7.toNat]? fun x33=>
 br (x33.Term.S.X !=x31+1) (
 some (.inr (.inr (-1)))) <|
 gd (inK .i64 (x31+1+1)) <|
 gd (0<=v7/\v7<(↑v5.length:Int)) <|
 bd v5[v7.toNat]? fun x34=>
 br (x34.Term.S.Y !=x31+1+1) (
 some (.inr (.inr (-1)))) <|
 gd (inK .i64 (x31+1+1+1)) <|
 gd (0<=v7/\v7<(↑v5.length:Int)) <|
 bd v5[v7.toNat]? fun x35=>
 gd ((3:Int)≠(0:Int)) <|
 br (!x35.Term.S.Wrap==((x31+1+1+1).tmod 3==0)) (
 some (.inr (.inr (-1)))) <|
 gd (inK .i64 (x31+1+1+1+1)) <|
 gd (0<=v7/\v7<(↑v5.length:Int)) <|
 bd v5[v7.toNat]? fun x36=>
 br (x36.Term.S.A.Fg !=x31+1+1+1+1) (
 some (.inr (.inr (-1)))) <|
 gd (inK .i64 (x31+1+1+1+1+1)) <|
 gd (0<=v7/\v7<(↑v5.length:Int)) <|
 bd v5[v7.toNat]? fun x37=>
 br (x37.Term.S.A.Bg !=x31+1+1+1+1+1) (
 some (.inr (.inr (-1)))) <|
 gd (inK .i64 (x31+1+1+1+1+1+1)) <|
 gd (0<=v7/\v7<(↑v5.length:Int)) <|
 bd v5[v7.toNat]? fun x38=>
 gd ((3:Int)≠(0:Int)) <|
 br (!x38.Term.S.A.Bold==((x31+1+1+1+1+1+1).tmod 3==0)) (
 some (.inr (.inr (-1)))) <|
 gd (inK .i64 (x31+1+1+1+1+1+1+1)) <|
 gd (0<=v7/\v7<(↑v5.length:Int)) <|
 bd v5[v7.toNat]? fun x39=>
 gd ((3:Int)≠(0:Int)) <|
 br (!x39.Term.S.A.Under==((x31+1+1+1+1+1+1+1).tmod 3==0)) (
 some (.inr (.inr (-1)))) <|
 gd (inK .i64 (x31+1+1+1+1+1+1+1+1)) <|
 gd (0<=v7/\v7<(↑v5.length:Int)) <|
 bd v5[v7.toNat]? fun x40=>
 gd ((3:Int)≠(0:Int)) <|
 br (!x40.Term.S.A.Turn==((x31+1+1+1+1+1+1+1+1).tmod 3==0)) (
 some (.inr (.inr (-1)))) <|
 gd (inK .i64 (x31+1+1+1+1+1+1+1+1+1)) <|
 gd (0<=v7/\v7<(↑v5.length:Int)) <|
 bd v5[v7.toNat]? fun x41=>
 br (x41.Term.S.Top !=x31+1+1+1+1+1+1+1+1+1) (
 some (.inr (.inr (-1)))) <|
 gd (inK .i64 (x31+1+1+1+1+1+1+1+1+1+1)) <|
 gd (0<=v7/\v7<(↑v5.length:Int)) <|
 bd v5[v7.toNat]? fun x42=>
 br (x42.Term.S.Bot !=x31+1+1+1+1+1+1+1+1+1+1) (
 some (.inr (.inr (-1)))) <|
 gd (inK .i64 (x31+1+1+1+1+1+1+1+1+1+1+1)) <|
 gd (0<=v7/\v7<(↑v5.length:Int)) <|
 bd v5[v7.toNat]? fun x43=>
 gd ((3:Int)≠(0:Int)) <|
 br (!x43.Term.S.NoWrap==((x31+1+1+1+1+1+1+1+1+1+1+1).tmod 3==0)) (
 some (.inr (.inr (-1)))) <|
 gd (inK .i64 (x31+1+1+1+1+1+1+1+1+1+1+1+1)) <|
 gd (0<=v7/\v7<(↑v5.length:Int)) <|
 bd v5[v7.toNat]? fun x44=>
 gd ((3:Int)≠(0:Int)) <|
 br (!x44.Term.S.Hide==((x31+1+1+1+1+1+1+1+1+1+1+1+1).tmod 3==0)) (
 some (.inr (.inr (-1)))) <|
 gd (inK .i64 (x31+1+1+1+1+1+1+1+1+1+1+1+1+1)) <|
 gd (0<=v7/\v7<(↑v5.length:Int)) <|
 bd v5[v7.toNat]? fun x45=>
 br (x45.Term.S.SaveX !=x31+1+1+1+1+1+1+1+1+1+1+1+1+1) (
 some (.inr (.inr (-1)))) <|
 gd (inK .i64 (x31+1+1+1+1+1+1+1+1+1+1+1+1+1+1)) <|
 gd (0<=v7/\v7<(↑v5.length:Int)) <|
 bd v5[v7.toNat]? fun x46=>
 br (x46.Term.S.SaveY !=x31+1+1+1+1+1+1+1+1+1+1+1+1+1+1) (
 some (.inr (.inr (-1)))) <|
 gd (inK .i64 (x31+1+1+1+1+1+1+1+1+1+1+1+1+1+1+1)) <|
 gd (0<=v7/\v7<(↑v5.length:Int)) <|
 bd v5[v7.toNat]? fun x47=>
 br (x47.Term.S.SaveA.Fg !=x31+1+1+1+1+1+1+1+1+1+1+1+1+1+1+1) (
 some (.inr (.inr (-1)))) <|
 gd (inK .i64 (x31+1+1+1+1+1+1+1+1+1+1+1+1+1+1+1+1)) <|
 gd (0<=v7/\v7<(↑v5.length:Int)) <|
 bd v5[v7.toNat]? fun x48=>
 br (x48.Term.S.SaveA.Bg !=x31+1+1+1+1+1+1+1+1+1+1+1+1+1+1+1+1) (
 some (.inr (.inr (-1)))) <|
 gd (inK .i64 (x31+1+1+1+1+1+1+1+1+1+1+1+1+1+1+1+1+1)) <|
 gd (0<=v7/\v7<(↑v5.length:Int)) <|
 bd v5[v7.toNat]? fun x49=>
 gd ((3:Int)≠(0:Int)) <|
 br (!x49.Term.S.SaveA.Bold==((x31+1+1+1+1+1+1+1+1+1+1+1+1+1+1+1+1+1).tmod 3==0)) (
 some (.inr (.inr (-1)))) <|
 gd (inK .i64 (x31+1+1+1+1+1+1+1+1+1+1+1+1+1+1+1+1+1+1)) <|
 gd (0<=v7/\v7<(↑v5.length:Int)) <|
 bd v5[v7.toNat]? fun x50=>
 gd ((3:Int)≠(0:Int)) <|
 br (!x50.Term.S.SaveA.Under==((x31+1+1+1+1+1+1+1+1+1+1+1+1+1+1+1+1+1+1).tmod 3==0)) (
 some (.inr (.inr (-1)))) <|
 gd (inK .i64 (x31+1+1+1+1+1+1+1+1+1+1+1+1+1+1+1+1+1+1+1)) <|
 gd (0<=v7/\v7<(↑v5.length:Int)) <|
 bd v5[v7.toNat]? fun x51=>
 gd ((3:Int)≠(0:Int)) <|
 br (!x51.Term.S.SaveA.Turn==((x31+1+1+1+1+1+1+1+1+1+1+1+1+1+1+1+1+1+1+1).tmod 3==0)) (
 some (.inr (.inr (-1)))) <|
 gd (inK .i64 (x31+1+1+1+1+1+1+1+1+1+1+1+1+1+1+1+1+1+1+1+1)) <|
 gd (0<=v7/\v7<(↑v5.length:Int)) <|
 bd v5[v7.toNat]? fun x52=>
 bd (pL_heldIntS m x52.Term.S.Tabs (x31+1+1+1+1+1+1+1+1+1+1+1+1+1+1+1+1+1+1+1+1)) fun x53=>
 br (decide (x53<0)) (
 some (.inr (.inr (-1)))) <|
 gd (0<=v7/\v7<(↑v5.length:Int)) <|
 bd v5[v7.toNat]? fun x54=>
 br (x54.Term.S.Limit !=x53) (
 some (.inr (.inr (-1)))) <|
 gd (inK .i64 (x53+1)) <|
 gd (0<=v7/\v7<(↑v5.length:Int)) <|
 bd v5[v7.toNat]? fun x55=>
 bd (pL_heldRowS m x55.Term.S.Back (x53+1)) fun x56=>
 br (decide (x56<0)) (
 some (.inr (.inr (-1)))) <|
 gd (inK .i64 (v7+1)) <|
 some (.inl (v5,x56,v7+1))) <|
 some (.inr (.inl v6))
def pL_heldPaneS (m:Nat) (a1:List IPane) (a2:Int):Option Int:=
 jn (V:=Int) (
 loopF (pL_heldPaneS_b1 m) m (a1,a2,0)) fun v4=>
 some v4
theorem c133:CC (mo 133 [.row .iPane,jI] oI (q2 pL_heldPaneS)):=mq (cs c131 (cs c212 (cs c141 (cs c213 (cs c214 cn))))) ⟨[],[],[(2,true,⟨[],[eR 0 .iPane,eI 1,eI 5]⟩,0,⟨[],[eI 1]⟩)]⟩ Tryz.f133
def pL_heldNodeS_b1 (m:Nat):Lp (List INode×Int×Int) (Int⊕Int):=fun(v5,v6,v7)=>
 br (decide (v7<(↑v5.length:Int))) (
 gd (0<=v7/\v7<(↑v5.length:Int)) <|
 bd v5[v7.toNat]? fun x8=>
 br (x8.Pane !=v6) (
 some (.inr (.inr (-1)))) <|
 gd (inK .i64 (v6+1)) <|
 gd (0<=v7/\v7<(↑v5.length:Int)) <|
 bd v5[v7.toNat]? fun x9=>
 gd ((3:Int)≠(0:Int)) <|
 br (!x9.Down==((v6+1).tmod 3==0)) (
 some (.inr (.inr (-1)))) <|
 gd (inK .i64 (v6+1+1)) <|
 gd (0<=v7/\v7<(↑v5.length:Int)) <|
 bd v5[v7.toNat]? fun x10=>
 br (x10.First !=v6+1+1) (
 some (.inr (.inr (-1)))) <|
 gd (inK .i64 (v6+1+1+1)) <|
 gd (inK .i64 (v7+1)) <|
 some (.inl (v5,v6+1+1+1,v7+1))) <|
 some (.inr (.inl v6))
def pL_heldNodeS (m:Nat) (a1:List INode) (a2:Int):Option Int:=
 jn (V:=Int) (
 loopF (pL_heldNodeS_b1 m) m (a1,a2,0)) fun v4=>
 some v4
theorem c215:CC (mo 215 [.row .iNode,jI] oI (q2 pL_heldNodeS)):=mq cn ⟨[],[],[(2,true,⟨[],[eR 0 .iNode,eI 1,eI 5]⟩,0,⟨[],[eI 1]⟩)]⟩ Tryz.f215
def pL_heldWinS_b1 (m:Nat):Lp (List IWin×Int×Int) (Int⊕Int):=fun(v5,v6,v7)=>
 br (decide (v7<(↑v5.length:Int))) (
 gd (0<=v7/\v7<(↑v5.length:Int)) <|
 bd v5[v7.toNat]? fun x8=>
 br (x8.Id !=v6) (
 some (.inr (.inr (-1)))) <|
 gd (inK .i64 (v6+1)) <|
 gd (0<=v7/\v7<(↑v5.length:Int)) <|
 bd v5[v7.toNat]? fun x9=>
 bd (pL_markText m (v6+1)) fun x10=>
 br (!decide (x9.Name=x10)) (
 some (.inr (.inr (-1)))) <|
 gd (inK .i64 (v6+1+1)) <|
 gd (0<=v7/\v7<(↑v5.length:Int)) <|
 bd v5[v7.toNat]? fun x11=>
 bd (pL_heldNodeS m x11.Tree (v6+1+1)) fun x12=>
 br (decide (x12<0)) (
 some (.inr (.inr (-1)))) <|
 gd (0<=v7/\v7<(↑v5.length:Int)) <|
 bd v5[v7.toNat]? fun x13=>
 br (x13.Active !=x12) (
 some (.inr (.inr (-1)))) <|
 gd (inK .i64 (x12+1)) <|
 gd (0<=v7/\v7<(↑v5.length:Int)) <|
 bd v5[v7.toNat]? fun x14=>
 gd ((3:Int)≠(0:Int)) <|
 br (!x14.Zoom==((x12+1).tmod 3==0)) (
 some (.inr (.inr (-1)))) <|
 gd (inK .i64 (x12+1+1)) <|
 gd (inK .i64 (v7+1)) <|
 some (.inl (v5,x12+1+1,v7+1))) <|
 some (.inr (.inl v6))
def pL_heldWinS (m:Nat) (a1:List IWin) (a2:Int):Option Int:=
 jn (V:=Int) (
 loopF (pL_heldWinS_b1 m) m (a1,a2,0)) fun v4=>
 some v4
theorem c134:CC (mo 134 [.row .iWin,jI] oI (q2 pL_heldWinS)):=mq (cs c131 (cs c215 cn)) ⟨[],[],[(2,true,⟨[],[eR 0 .iWin,eI 1,eI 5]⟩,0,⟨[],[eI 1]⟩)]⟩ Tryz.f134
def pL_heldSessS_b1 (m:Nat):Lp (List ISess×Int×Int) (Int⊕Int):=fun(v5,v6,v7)=>
 br (decide (v7<(↑v5.length:Int))) (
 gd (0<=v7/\v7<(↑v5.length:Int)) <|
 bd v5[v7.toNat]? fun x8=>
 bd (pL_markText m v6) fun x9=>
 br (!decide (x8.Name=x9)) (
 some (.inr (.inr (-1)))) <|
 gd (inK .i64 (v6+1)) <|
 gd (0<=v7/\v7<(↑v5.length:Int)) <|
 bd v5[v7.toNat]? fun x10=>
 bd (pL_heldIntS m x10.Wins (v6+1)) fun x11=>
 br (decide (x11<0)) (
 some (.inr (.inr (-1)))) <|
 gd (0<=v7/\v7<(↑v5.length:Int)) <|
 bd v5[v7.toNat]? fun x12=>
 br (x12.Active !=x11) (
 some (.inr (.inr (-1)))) <|
 gd (inK .i64 (x11+1)) <|
 gd (inK .i64 (v7+1)) <|
 some (.inl (v5,x11+1,v7+1))) <|
 some (.inr (.inl v6))
def pL_heldSessS (m:Nat) (a1:List ISess) (a2:Int):Option Int:=
 jn (V:=Int) (
 loopF (pL_heldSessS_b1 m) m (a1,a2,0)) fun v4=>
 some v4
theorem c135:CC (mo 135 [.row .iSess,jI] oI (q2 pL_heldSessS)):=mq (cs c131 (cs c212 cn)) ⟨[],[],[(2,true,⟨[],[eR 0 .iSess,eI 1,eI 5]⟩,0,⟨[],[eI 1]⟩)]⟩ Tryz.f135
def pL_heldState (m:Nat) (a1:IState) (a2:Int):Option Int:=
 bd (pL_heldPaneS m a1.Panes a2) fun x3=>
 br (decide (x3<0)) (
 some (-1)) <|
 bd (pL_heldWinS m a1.Wins x3) fun x4=>
 br (decide (x4<0)) (
 some (-1)) <|
 bd (pL_heldSessS m a1.Sess x4) fun x5=>
 br (decide (x5<0)) (
 some (-1)) <|
 some x5
theorem c59:CC (mo 59 [jS .iState,jI] oI (q2 pL_heldState)):=mq (cs c133 (cs c134 (cs c135 cn))) tn Tryz.f59
def pL_heldFileS_b1 (m:Nat):Lp (List IFile×Int×Int) (Int⊕Int):=fun(v5,v6,v7)=>
 br (decide (v7<(↑v5.length:Int))) (
 gd (0<=v7/\v7<(↑v5.length:Int)) <|
 bd v5[v7.toNat]? fun x8=>
 br (x8.Id !=v6) (
 some (.inr (.inr (-1)))) <|
 gd (inK .i64 (v6+1)) <|
 gd (0<=v7/\v7<(↑v5.length:Int)) <|
 bd v5[v7.toNat]? fun x9=>
 bd (pL_heldByteS m x9.Body (v6+1)) fun x10=>
 br (decide (x10<0)) (
 some (.inr (.inr (-1)))) <|
 gd (0<=v7/\v7<(↑v5.length:Int)) <|
 bd v5[v7.toNat]? fun x11=>
 br (x11.Safe !=x10) (
 some (.inr (.inr (-1)))) <|
 gd (inK .i64 (x10+1)) <|
 gd (inK .i64 (v7+1)) <|
 some (.inl (v5,x10+1,v7+1))) <|
 some (.inr (.inl v6))
def pL_heldFileS (m:Nat) (a1:List IFile) (a2:Int):Option Int:=
 jn (V:=Int) (
 loopF (pL_heldFileS_b1 m) m (a1,a2,0)) fun v4=>
 some v4
theorem c136:CC (mo 136 [.row .iFile,jI] oI (q2 pL_heldFileS)):=mq (cs c141 cn) ⟨[],[],[(2,true,⟨[],[eR 0 .iFile,eI 1,eI 5]⟩,0,⟨[],[eI 1]⟩)]⟩ Tryz.f136
def pL_heldLinkS_b1 (m:Nat):Lp (List ILink×Int×Int) (Int⊕Int):=fun(v5,v6,v7)=>
 br (decide (v7<(↑v5.length:Int))) (
 gd (0<=v7/\v7<(↑v5.length:Int)) <|
 bd v5[v7.toNat]? fun x8=>
 bd (pL_markText m v6) fun x9=>
 br (!decide (x8.Name=x9)) (
 some (.inr (.inr (-1)))) <|
 gd (inK .i64 (v6+1)) <|
 gd (0<=v7/\v7<(↑v5.length:Int)) <|
 bd v5[v7.toNat]? fun x10=>
 br (x10.Id !=v6+1) (
 some (.inr (.inr (-1)))) <|
 gd (inK .i64 (v6+1+1)) <|
 gd (inK .i64 (v7+1)) <|
 some (.inl (v5,v6+1+1,v7+1))) <|
 some (.inr (.inl v6))
def pL_heldLinkS (m:Nat) (a1:List ILink) (a2:Int):Option Int:=
 jn (V:=Int) (
 loopF (pL_heldLinkS_b1 m) m (a1,a2,0)) fun v4=>
 some v4
theorem c137:CC (mo 137 [.row .iLink,jI] oI (q2 pL_heldLinkS)):=mq (cs c131 cn) ⟨[],[],[(2,true,⟨[],[eR 0 .iLink,eI 1,eI 5]⟩,0,⟨[],[eI 1]⟩)]⟩ Tryz.f137
def pL_heldTurnS_b1 (m:Nat):Lp (List ITurn×Int×Int) (Int⊕Int):=fun(v5,v6,v7)=>
 br (decide (v7<(↑v5.length:Int))) (
 gd (0<=v7/\v7<(↑v5.length:Int)) <|
 bd v5[v7.toNat]? fun x8=>
 br (x8.Kind !=v6) (
 some (.inr (.inr (-1)))) <|
 gd (inK .i64 (v6+1)) <|
 gd (0<=v7/\v7<(↑v5.length:Int)) <|
 bd v5[v7.toNat]? fun x9=>
 bd (pL_markText m (v6+1)) fun x10=>
 br (!decide (x9.Name=x10)) (
 some (.inr (.inr (-1)))) <|
 gd (inK .i64 (v6+1+1)) <|
 gd (0<=v7/\v7<(↑v5.length:Int)) <|
 bd v5[v7.toNat]? fun x11=>
 bd (pL_markText m (v6+1+1)) fun x12=>
 br (!decide (x11.To=x12)) (
 some (.inr (.inr (-1)))) <|
 gd (inK .i64 (v6+1+1+1)) <|
 gd (0<=v7/\v7<(↑v5.length:Int)) <|
 bd v5[v7.toNat]? fun x13=>
 br (x13.Id !=v6+1+1+1) (
 some (.inr (.inr (-1)))) <|
 gd (inK .i64 (v6+1+1+1+1)) <|
 gd (inK .i64 (v7+1)) <|
 some (.inl (v5,v6+1+1+1+1,v7+1))) <|
 some (.inr (.inl v6))
def pL_heldTurnS (m:Nat) (a1:List ITurn) (a2:Int):Option Int:=
 jn (V:=Int) (
 loopF (pL_heldTurnS_b1 m) m (a1,a2,0)) fun v4=>
 some v4
theorem c138:CC (mo 138 [.row .iTurn,jI] oI (q2 pL_heldTurnS)):=mq (cs c131 cn) ⟨[],[],[(2,true,⟨[],[eR 0 .iTurn,eI 1,eI 5]⟩,0,⟨[],[eI 1]⟩)]⟩ Tryz.f138
def pL_heldDisk (m:Nat) (a1:IDisk) (a2:Int):Option Int:=
 bd (pL_heldFileS m a1.Files a2) fun x3=>
 br (decide (x3<0)) (
 some (-1)) <|
 bd (pL_heldLinkS m a1.Kept x3) fun x4=>
 br (decide (x4<0)) (
 some (-1)) <|
 bd (pL_heldTurnS m a1.Turns x4) fun x5=>
 br (decide (x5<0)) (
 some (-1)) <|
 some x5
theorem c61:CC (mo 61 [jS .iDisk,jI] oI (q2 pL_heldDisk)):=mq (cs c136 (cs c137 (cs c138 cn))) tn Tryz.f61
def pL_heldDepot (m:Nat) (a1:IDepot) (a2:Int):Option Int:=
 bd (pL_heldDisk m a1.Disk a2) fun x3=>
 br (decide (x3<0)) (
 some (-1)) <|
 some x3
theorem c60:CC (mo 60 [jS .iDepot,jI] oI (q2 pL_heldDepot)):=mq (cs c61 cn) tn Tryz.f60
def pL_heldProcS_b1 (m:Nat):Lp (List IProc×Int×Int) (Int⊕Int):=fun(v5,v6,v7)=>
 br (decide (v7<(↑v5.length:Int))) (
 gd (0<=v7/\v7<(↑v5.length:Int)) <|
 bd v5[v7.toNat]? fun x8=>
 br (x8.Pid !=v6) (
 some (.inr (.inr (-1)))) <|
 gd (inK .i64 (v6+1)) <|
 gd (0<=v7/\v7<(↑v5.length:Int)) <|
 bd v5[v7.toNat]? fun x9=>
 br (x9.Pane !=v6+1) (
 some (.inr (.inr (-1)))) <|
 gd (inK .i64 (v6+1+1)) <|
 gd (inK .i64 (v7+1)) <|
 some (.inl (v5,v6+1+1,v7+1))) <|
 some (.inr (.inl v6))
def pL_heldProcS (m:Nat) (a1:List IProc) (a2:Int):Option Int:=
 jn (V:=Int) (
 loopF (pL_heldProcS_b1 m) m (a1,a2,0)) fun v4=>
 some v4
theorem c139:CC (mo 139 [.row .iProc,jI] oI (q2 pL_heldProcS)):=mq cn ⟨[],[],[(2,true,⟨[],[eR 0 .iProc,eI 1,eI 5]⟩,0,⟨[],[eI 1]⟩)]⟩ Tryz.f139
def pL_heldAskS_b1 (m:Nat):Lp (List IAsk×Int×Int) (Int⊕Int):=fun(v5,v6,v7)=>
 br (decide (v7<(↑v5.length:Int))) (
 gd (0<=v7/\v7<(↑v5.length:Int)) <|
 bd v5[v7.toNat]? fun x8=>
 br (x8.Pane !=v6) (
 some (.inr (.inr (-1)))) <|
 gd (inK .i64 (v6+1)) <|
 gd (0<=v7/\v7<(↑v5.length:Int)) <|
 bd v5[v7.toNat]? fun x9=>
 bd (pL_markText m (v6+1)) fun x10=>
 br (!decide (x9.Cmd=x10)) (
 some (.inr (.inr (-1)))) <|
 gd (inK .i64 (v6+1+1)) <|
 gd (0<=v7/\v7<(↑v5.length:Int)) <|
 bd v5[v7.toNat]? fun x11=>
 bd (pL_markText m (v6+1+1)) fun x12=>
 br (!decide (x11.Dir=x12)) (
 some (.inr (.inr (-1)))) <|
 gd (inK .i64 (v6+1+1+1)) <|
 gd (0<=v7/\v7<(↑v5.length:Int)) <|
 bd v5[v7.toNat]? fun x13=>
 br (x13.W !=v6+1+1+1) (
 some (.inr (.inr (-1)))) <|
 gd (inK .i64 (v6+1+1+1+1)) <|
 gd (0<=v7/\v7<(↑v5.length:Int)) <|
 bd v5[v7.toNat]? fun x14=>
 br (x14.H !=v6+1+1+1+1) (
 some (.inr (.inr (-1)))) <|
 gd (inK .i64 (v6+1+1+1+1+1)) <|
 gd (0<=v7/\v7<(↑v5.length:Int)) <|
 bd v5[v7.toNat]? fun x15=>
 br (x15.Pid !=v6+1+1+1+1+1) (
 some (.inr (.inr (-1)))) <|
 gd (inK .i64 (v6+1+1+1+1+1+1)) <|
 gd (inK .i64 (v7+1)) <|
 some (.inl (v5,v6+1+1+1+1+1+1,v7+1))) <|
 some (.inr (.inl v6))
def pL_heldAskS (m:Nat) (a1:List IAsk) (a2:Int):Option Int:=
 jn (V:=Int) (
 loopF (pL_heldAskS_b1 m) m (a1,a2,0)) fun v4=>
 some v4
theorem c140:CC (mo 140 [.row .iAsk,jI] oI (q2 pL_heldAskS)):=mq (cs c131 cn) ⟨[],[],[(2,true,⟨[],[eR 0 .iAsk,eI 1,eI 5]⟩,0,⟨[],[eI 1]⟩)]⟩ Tryz.f140
def pL_heldTable (m:Nat) (a1:ITable) (a2:Int):Option Int:=
 bd (pL_heldProcS m a1.Live a2) fun x3=>
 br (decide (x3<0)) (
 some (-1)) <|
 bd (pL_heldAskS m a1.Asked x3) fun x4=>
 br (decide (x4<0)) (
 some (-1)) <|
 some x4
theorem c62:CC (mo 62 [jS .iTable,jI] oI (q2 pL_heldTable)):=mq (cs c139 (cs c140 cn)) tn Tryz.f62
def pL_heldHistS_b1 (m:Nat):Lp (List IHist×Int×Int) (Int⊕Int):=fun(v5,v6,v7)=>
 br (decide (v7<(↑v5.length:Int))) (
 gd (0<=v7/\v7<(↑v5.length:Int)) <|
 bd v5[v7.toNat]? fun x8=>
 gd ((3:Int)≠(0:Int)) <|
 br (!x8.Lost==(v6.tmod 3==0)) (
 some (.inr (.inr (-1)))) <|
 gd (inK .i64 (v6+1)) <|
 gd (0<=v7/\v7<(↑v5.length:Int)) <|
 bd v5[v7.toNat]? fun x9=>
 br (x9.Op.Kind !=v6+1) (
 some (.inr (.inr (-1)))) <|
 gd (inK .i64 (v6+1+1)) <|
 gd (0<=v7/\v7<(↑v5.length:Int)) <|
 bd v5[v7.toNat]? fun x10=>
 br (x10.Op.A !=v6+1+1) (
 some (.inr (.inr (-1)))) <|
 gd (inK .i64 (v6+1+1+1)) <|
 gd (0<=v7/\v7<(↑v5.length:Int)) <|
 bd v5[v7.toNat]? fun x11=>
 br (x11.Op.B !=v6+1+1+1) (
 some (.inr (.inr (-1)))) <|
 gd (inK .i64 (v6+1+1+1+1)) <|
 gd (0<=v7/\v7<(↑v5.length:Int)) <|
 bd v5[v7.toNat]? fun x12=>
 br (x12.Op.C !=v6+1+1+1+1) (
 some (.inr (.inr (-1)))) <|
 gd (inK .i64 (v6+1+1+1+1+1)) <|
 gd (0<=v7/\v7<(↑v5.length:Int)) <|
 bd v5[v7.toNat]? fun x13=>
 bd (pL_markText m (v6+1+1+1+1+1)) fun x14=>
 br (!decide (x13.Op.Name=x14)) (
 some (.inr (.inr (-1)))) <|
 gd (inK .i64 (v6+1+1+1+1+1+1)) <|
 gd (0<=v7/\v7<(↑v5.length:Int)) <|
 bd v5[v7.toNat]? fun x15=>
 bd (pL_markText m (v6+1+1+1+1+1+1)) fun x16=>
 br (!decide (x15.Op.Text=x16)) (
 some (.inr (.inr (-1)))) <|
 gd (inK .i64 (v6+1+1+1+1+1+1+1)) <|
 gd (0<=v7/\v7<(↑v5.length:Int)) <|
 bd v5[v7.toNat]? fun x17=>
 bd (pL_markText m (v6+1+1+1+1+1+1+1)) fun x18=>
 br (!decide (x17.Op.Dir=x18)) (
 some (.inr (.inr (-1)))) <|
 gd (inK .i64 (v6+1+1+1+1+1+1+1+1)) <|
 gd (0<=v7/\v7<(↑v5.length:Int)) <|
 bd v5[v7.toNat]? fun x19=>
 bd (pL_heldByteS m x19.Op.Data (v6+1+1+1+1+1+1+1+1)) fun x20=>
 br (decide (x20<0)) (
 some (.inr (.inr (-1)))) <|
 gd (inK .i64 (v7+1)) <|
 some (.inl (v5,x20,v7+1))) <|
 some (.inr (.inl v6))
def pL_heldHistS (m:Nat) (a1:List IHist) (a2:Int):Option Int:=
 jn (V:=Int) (
 loopF (pL_heldHistS_b1 m) m (a1,a2,0)) fun v4=>
 some v4
theorem c63:CC (mo 63 [.row .iHist,jI] oI (q2 pL_heldHistS)):=mq (cs c131 (cs c141 cn)) ⟨[],[],[(2,true,⟨[],[eR 0 .iHist,eI 1,eI 5]⟩,0,⟨[],[eI 1]⟩)]⟩ Tryz.f63
def pL_heldSrv (m:Nat) (a1:ISrv) (a2:Int):Option Int:=
 bd (pL_heldState m a1.Base a2) fun x3=>
 br (decide (x3<0)) (
 some (-1)) <|
 bd (pL_heldState m a1.St x3) fun x4=>
 br (decide (x4<0)) (
 some (-1)) <|
 bd (pL_heldDepot m a1.Dep x4) fun x5=>
 br (decide (x5<0)) (
 some (-1)) <|
 bd (pL_heldDisk m a1.Disk x5) fun x6=>
 br (decide (x6<0)) (
 some (-1)) <|
 bd (pL_heldTable m a1.Tab x6) fun x7=>
 br (decide (x7<0)) (
 some (-1)) <|
 bd (pL_heldHistS m a1.Done x7) fun x8=>
 br (decide (x8<0)) (
 some (-1)) <|
 some x8
theorem c13:CC (mo 13 [jS .iSrv,jI] oI (q2 pL_heldSrv)):=mq (cs c59 (cs c60 (cs c61 (cs c62 (cs c63 cn))))) tn Tryz.f13
def pL_FnExactSrvNew (m:Nat) (a1 a2 a3 a4 a5:Int):Option Bool:=
 bd (pS_SrvNew m a1 a2 a3 a4 a5) fun(x6,x7)=>
 bd (pI_SrvNew m a1 a2 a3 a4 a5) fun(x8,x9)=>
 bd (α:=ISrv×ISrv×Int×Int×Int×Int×Int×Bool×Bool) (
 bd (pL_eqSrv m x8 x6) fun x10=>
 br (!x10) (
 some (x6,x8,a1,a2,a3,a4,a5,x7,true)) <|
 some (x6,x8,a1,a2,a3,a4,a5,x7,!x9==x7)) fun(x11,x12,x13,x14,x15,x16,x17,x18,x19)=>
 br x19 (
 some false) <|
 bd (pL_markSrv m x12 1) fun(x20,x21,x22,x23,x24,x25,x26,x27,x28,x29,x30,x31,x32,x33,x34,x35)=>
 bd (pL_heldSrv m (ISrv.mk (IState.mk x12.Base.W x12.Base.H x12.Base.Limit x12.Base.Next x21 x22 x23) x12.Top x12.Up (IState.mk x12.St.W x12.St.H x12.St.Limit x12.St.Next x24 x25 x26) (IDepot.mk (IDisk.mk x12.Dep.Disk.Room x12.Dep.Disk.Fuse x12.Dep.Disk.Next x27 x28 x29) x12.Dep.Gen x12.Dep.Seq x12.Dep.Size x12.Dep.Stuck) (IDisk.mk x12.Disk.Room x12.Disk.Fuse x12.Disk.Next x30 x31 x32) (ITable.mk x12.Tab.Next x33 x34) x12.Sure x35) 1) fun x36=>
 br (decide (x36<0)) (
 some false) <|
 br (x36 !=x20) (
 some false) <|
 bd (pI_SrvNew m x13 x14 x15 x16 x17) fun(x37,x38)=>
 bd (α:=ISrv×Int×Bool) (
 bd (pL_eqSrv m x37 x11) fun x39=>
 br (!x39) (
 some (ISrv.mk (IState.mk x12.Base.W x12.Base.H x12.Base.Limit x12.Base.Next x21 x22 x23) x12.Top x12.Up (IState.mk x12.St.W x12.St.H x12.St.Limit x12.St.Next x24 x25 x26) (IDepot.mk (IDisk.mk x12.Dep.Disk.Room x12.Dep.Disk.Fuse x12.Dep.Disk.Next x27 x28 x29) x12.Dep.Gen x12.Dep.Seq x12.Dep.Size x12.Dep.Stuck) (IDisk.mk x12.Disk.Room x12.Disk.Fuse x12.Disk.Next x30 x31 x32) (ITable.mk x12.Tab.Next x33 x34) x12.Sure x35,x20,true)) <|
 some (ISrv.mk (IState.mk x12.Base.W x12.Base.H x12.Base.Limit x12.Base.Next x21 x22 x23) x12.Top x12.Up (IState.mk x12.St.W x12.St.H x12.St.Limit x12.St.Next x24 x25 x26) (IDepot.mk (IDisk.mk x12.Dep.Disk.Room x12.Dep.Disk.Fuse x12.Dep.Disk.Next x27 x28 x29) x12.Dep.Gen x12.Dep.Seq x12.Dep.Size x12.Dep.Stuck) (IDisk.mk x12.Disk.Room x12.Disk.Fuse x12.Disk.Next x30 x31 x32) (ITable.mk x12.Tab.Next x33 x34) x12.Sure x35,x20,!x38==x18)) fun(x40,x41,x42)=>
 br x42 (
 some false) <|
 bd (pL_heldSrv m x40 1) fun x43=>
 br (decide (x43<0)) (
 some false) <|
 br (x43 !=x41) (
 some false) <|
 some true
theorem c4:CC (mo 4 [jI,jI,jI,jI,jI] oB (q5 pL_FnExactSrvNew)):=mq (cs c10 (cs c11 (cs c9 (cs c12 (cs c13 cn))))) ⟨[(3,⟨[(11,.ptr 1200 0),(13,.ptr 1400 0)],[.sto 1200 .iSrv [(4,1026000004),(5,1026000005),(6,1026000006),(13,1026000013),(14,1026000014),(15,1026000015),(19,1026000019),(20,26000020),(21,26000021),(29,1026000029),(30,26000030),(31,26000031),(33,26000033),(34,26000034),(36,1026000036)],.sto 1400 .iSrv [(4,1035000004),(5,1035000005),(6,1035000006),(13,1035000013),(14,1035000014),(15,1035000015),(19,1035000019),(20,35000020),(21,35000021),(29,1035000029),(30,35000030),(31,35000031),(33,35000033),(34,35000034),(36,1035000036)],eI 0,eI 1,eI 2,eI 3,eI 4,eB 12,eB 45]⟩),(14,⟨[(13,.ptr 1400 0)],[.sto 1400 .iSrv [(4,1035000004),(5,1035000005),(6,1035000006),(13,1035000013),(14,1035000014),(15,1035000015),(19,1035000019),(20,35000020),(21,35000021),(29,1035000029),(30,35000030),(31,35000031),(33,35000033),(34,35000034),(36,1035000036)],eI 15,eB 74]⟩)],[],[]⟩ Tryz.f4
end
open Go.RowKit Go.Deep
def shp:Leaf->Leaf->Prop
 | .sc (.int k _),.sc (.int k' _)=>k'=k
 | .sc (.string _),.sc (.string _)=>True
 | .sc (.bool _),.sc (.bool _)=>True
 | .nest k _,.nest k' _=>k'=k
 | _,_=>False
theorem shp_int {k:IntKind} {lf:Leaf} (h:shp (.sc (.int k n)) lf):∃m,lf= .sc (.int k m):=by
 cases lf with
 | sc v=>cases v<;>first|exact h.elim|(obtain rfl:_=_:=h;exact⟨_,rfl⟩)
 | nest=>exact h.elim
theorem shp_str {s:ByteArray} {lf:Leaf} (h:shp (.sc (.string s)) lf):∃m,lf= .sc (.string m):=by
 cases lf with
 | sc v=>cases v<;>first|exact⟨_,rfl⟩ | exact h.elim
 | nest=>exact h.elim
theorem shp_bool {s:Bool} {lf:Leaf} (h:shp (.sc (.bool s)) lf):∃m,lf= .sc (.bool m):=by
 cases lf with
 | sc v=>cases v<;>first|exact⟨_,rfl⟩ | exact h.elim
 | nest=>exact h.elim
theorem shp_nest {k:K} {l:List (ty k)} {lf:Leaf} (h:shp (.nest k l) lf):∃m,lf= .nest k m:=by
 cases lf with
 | sc v=>exact h.elim
 | nest k' l'=>obtain rfl:k'=k:=h;exact⟨_,rfl⟩
theorem shp_cons {z:Leaf} {zs:List Leaf} (h:All2 shp (z::zs) lfs):∃l t,lfs=l::t/\shp z l/\All2 shp zs t:=by
 cases lfs with
 | nil=>exact h.elim
 | cons l t=>exact⟨l,t,rfl,h.1,h.2⟩
theorem shp_nil (h:All2 shp [] lfs):lfs=[]:=by
 cases lfs with
 | nil=>rfl
 | cons=>exact h.elim
set_option maxRecDepth 20000 in
theorem leaves_of:∀{k:K} {lfs:List Leaf},All2 shp (leaves (zK k)) lfs->∃x,ofLeaves k (lfs.map leafIn)=some x:=by
 intro k lfs h
 cases k
 all_goals
  repeat
   obtain⟨_,_,e0,h0,h'⟩:=shp_cons h
   clear h
   subst e0
   have h:=h'
   clear h'
   first
    | (obtain⟨_,rfl⟩:=shp_int h0;clear h0)
    | (obtain⟨_,rfl⟩:=shp_str h0;clear h0)
    | (obtain⟨_,rfl⟩:=shp_bool h0;clear h0)
    | (obtain⟨_,rfl⟩:=shp_nest h0;clear h0)
  obtain rfl:=shp_nil h
  exact⟨_,rfl⟩
def RdL (w:World) (zs:List Leaf) (cs:List Value):Prop:=∃lfs,All2 shp zs lfs/\All2 (LeafV (fun b=>b<w.heap.size) w) lfs cs
theorem RdL.app {w:World}:∀{z1 z2:List Leaf} {c1 c2:List Value},RdL w z1 c1->RdL w z2 c2->RdL w (z1++z2) (c1++c2)
 | z1,z2,c1,c2,⟨l1,a1,b1⟩,⟨l2,a2,b2⟩=>⟨l1++l2,All2.app a1 a2,All2.app b1 b2⟩
theorem RdL.len {w:World} {zs:List Leaf} {cs:List Value} (h:RdL w zs cs):cs.length=zs.length:=by
 obtain⟨l,a,b⟩:=h
 rw[<-b.len,<-a.len]
theorem leafIn_InL {ls:List Leaf} {w:World} {S:Nat->Prop}:∀{cs:List Value},All2 InL (lfs.map leafIn) ls->All2 (LeafV S w) lfs cs->ls=lfs:=by
 induction lfs generalizing ls with
 | nil=>intro cs h _;cases ls with
  | nil=>rfl
  | cons=>exact h.elim
 | cons a lfs ih=>
  intro cs h hv
  cases ls with
  | nil=>exact h.elim
  | cons b ls=>
   cases cs with
   | nil=>exact hv.elim
   | cons c cs=>
    rw[ih h.2 hv.2]
    congr 1
    cases a with
    | sc v=>exact h.1 hv.1.2
    | nest k l=>exact h.1
theorem RdL.elem {w:World} {k:K} {cs:List Value} (h:RdL w (leaves (zK k)) cs):∃x:ty k,All2 (LeafV (fun b=>b<w.heap.size) w) (leaves x) cs:=by
 obtain⟨lfs,a,b⟩:=h
 obtain⟨x,hx⟩:=leaves_of a
 refine⟨x,?_⟩
 rw[leafIn_InL (ofLeaves_spec hx) b]
 exact b
section
variable {P:Program}
theorem wf_lit {k:IntKind} (h:(Lit.int k n).wf=true):wfV (.int k n):=by
 refine(wrap_iff k n).2 ?_
 cases k<;>simp[Lit.wf,IntKind.min,IntKind.max,IntKind.signed,IntKind.bits,loK,hiK]at h⊢<;>omega
end
open Go.RowKit
section
variable {S:Nat->Prop} {w:World} {J:Nat->Option (Nat×Nat)} {σ:Sto}
end
@[simp] theorem bd_s {α J:Type} (a:α) (f:α->Option J):bd (some a) f=f a:=rfl
@[simp] theorem bd_n {α J:Type} (f:α->Option J):bd (none:Option α) f=none:=rfl
@[simp] theorem br_t {α:Type} (x y:α):br true x y=x:=rfl
@[simp] theorem br_f {α:Type} (x y:α):br false x y=y:=rfl
@[simp] theorem jn_l {V J:Type} (v:V) (f:V->Option J):jn (some (.inl v)) f=f v:=rfl
@[simp] theorem jn_r {V J:Type} (r:J) (f:V->Option J):jn (some (.inr r)) f=some r:=rfl
theorem bd_br (b:Bool) (x y:Option α) (f:α->Option J):bd (br b x y) f=br b (bd x f) (bd y f):=by cases b<;>rfl
theorem br_ss (b:Bool) (x y:α):br b (some x) (some y)=some (br b x y):=by cases b<;>rfl
theorem br_pp (b:Bool) (a:α) (x y:J):br b (a,x) (a,y)=(a,br b x y):=by cases b<;>rfl
theorem gd_t {p:Prop} [Decidable p] (h:p) (x:Option J):gd p x=x:=if_pos h
theorem br_if (b:Bool) (x y:α):br b x y=if b then x else y:=by cases b<;>rfl
theorem loopF_drop {V O α:Type} {B:V->Option (V⊕O)} {f:Nat->V} {l:List α} {q:α->Bool} {R E:O} (h:∀i x,l[i]?=some x->B (f i)=if q x then some (.inr R)else some (.inl (f (i+1)))) (he:B (f l.length)=some (.inr E)) :
  ∀(n fuel i:Nat),l.length-i=n->i<=l.length->n<fuel->loopF B fuel (f i)=some (if(l.drop i).any q then R else E)
 | n,0,i,_,_,hf=>by omega
 | 0,fuel+1,i,hn,hi,_=>by
  obtain rfl:i=l.length:=by omega
  unfold loopF
  rw[he]
  simp
 | n+1,fuel+1,i,hn,hi,hf=>by
  have hlt:i<l.length:=by omega
  have hx:l[i]?=some l[i]:=qE1 hlt
  unfold loopF
  rw[h i _ hx,List.drop_eq_getElem_cons hlt,List.any_cons]
  by_cases hq:q l[i]=true
  ·simp[hq]
  ·simp only[hq,if_false,Bool.false_eq_true,Bool.false_or]
   exact loopF_drop h he n fuel (i+1) (by omega) (by omega) (by omega)
theorem loopF_any {V:Type} {B:V->Option (V⊕O)} (f:Nat->V) (l:List α) (q:α->Bool) (R E:O) {fuel:Nat} {v:V} (hv:v=f 0) (h:∀i x,l[i]?=some x->B (f i)=if q x then some (.inr R)else some (.inl (f (i+1)))) (he:B (f l.length)=some (.inr E)) (hf:l.length<fuel):loopF B fuel v=some (if l.any q then R else E):=by
 subst hv
 have:=loopF_drop h he l.length fuel 0 rfl (Nat.zero_le _) hf
 rwa[List.drop_zero]at this
theorem loopF_find {V:Type} {B:V->Option (V⊕O)} (f:Nat->V) (l:List α) (q:α->Bool) (R:Nat->O) (E:O) {fuel:Nat} {v:V} (hv:v=f 0) (h:∀i x,l[i]?=some x->B (f i)=if q x then some (.inr (R i))else some (.inl (f (i+1)))) (he:B (f l.length)=some (.inr E)) (hf:l.length<fuel) :
  (∃(i:Nat) (x:α),l[i]?=some x/\q x=true/\(∀(j:Nat) y,j<i->l[j]?=some y->q y=false)/\loopF B fuel v=some (R i))∨((∀x∈l,q x=false)/\loopF B fuel v=some E):=by
 subst hv
 have key:∀(n fuel i:Nat),l.length-i=n->i<=l.length->n<fuel->(∀(j:Nat) y,j<i->l[j]?=some y->q y=false)->
   (∃(i':Nat) (x:α),l[i']?=some x/\q x=true/\(∀(j:Nat) y,j<i'->l[j]?=some y->q y=false)/\loopF B fuel (f i)=some (R i'))∨((∀(j:Nat) y,l[j]?=some y->q y=false)/\loopF B fuel (f i)=some E):=by
  intro n
  induction n with
  | zero=>
   intro fuel i hn hi hf hq
   cases fuel with
   | zero=>omega
   | succ fuel=>
    obtain rfl:i=l.length:=by omega
    refine .inr ⟨fun j y hj=>hq j y (qS1.1 hj).1 hj,?_⟩
    unfold loopF;rw[he]
  | succ n ih=>
   intro fuel i hn hi hf hq
   cases fuel with
   | zero=>omega
   | succ fuel=>
    have hlt:i<l.length:=by omega
    have hx:l[i]?=some l[i]:=qE1 hlt
    by_cases hqx:q l[i]=true
    ·refine .inl ⟨i,_,hx,hqx,hq,?_⟩
     unfold loopF;rw[h i _ hx,hqx];rfl
    ·have hqx:q l[i]=false:=by simpa using hqx
     have hstep:loopF B (fuel+1) (f i)=loopF B fuel (f (i+1)):=by
      conv=>lhs;unfold loopF
      rw[h i _ hx,hqx];rfl
     rw[hstep]
     refine ih fuel (i+1) (by omega) (by omega) (by omega) fun j y hj hy=> ?_
     rcases Nat.lt_succ_iff_lt_or_eq.1 hj with h1|h1
     ·exact hq j y h1 hy
     ·subst h1;rw[hx]at hy;cases hy;exact hqx
 rcases key l.length fuel 0 rfl (Nat.zero_le _) hf (fun j y hj=>by omega)with h1|⟨h1,h2⟩
 ·exact .inl h1
 ·exact .inr ⟨fun x hx=>by obtain⟨j,hj⟩:=List.getElem?_of_mem hx;exact h1 j x hj,h2⟩
theorem loopF_anyI {V:Type} {B:V->Option (V⊕O)} (f:Nat->V) (l:List α) (q:Nat->α->Bool) (R E:O) {fuel:Nat} {v:V} (hv:v=f 0) (h:∀i x,l[i]?=some x->B (f i)=if q i x then some (.inr R)else some (.inl (f (i+1)))) (he:B (f l.length)=some (.inr E)) (hf:l.length<fuel) :
  loopF B fuel v=some (if l.zipIdx.any (fun p=>q p.2 p.1)then R else E):=by
 have hl:l.zipIdx.length=l.length:=List.length_zipIdx
 refine loopF_any f l.zipIdx (fun p=>q p.2 p.1) R E hv (fun i p hp=> ?_) (by rw[hl];exact he) (by rw[hl];exact hf)
 rw[List.getElem?_zipIdx]at hp
 cases hx:l[i]? with
 | none=>rw[hx]at hp;cases hp
 | some x=>rw[hx]at hp;simp at hp;subst hp;exact h i x hx
theorem inK64 {v:Int} (h1: -9223372036854775808<=v) (h2:v<=9223372036854775807):inK .i64 v:=by
 show(if(true&&decide (v % 18446744073709551616≥9223372036854775808))=true then v % 18446744073709551616-18446744073709551616 else v % 18446744073709551616)=v
 simp only[Bool.true_and,decide_eq_true_eq]
 split<;>omega
@[simp] theorem pI_within_eq (fuel:Nat) (a b c:Int):pI_within fuel a b c=some (decide (b<=a)&&decide (a<=c)):=by
 unfold pI_within
 by_cases h:b<=a<;>simp[h]
@[simp] theorem pI_isId_eq (fuel:Nat) (a:Int):pI_isId fuel a=some (decide (1<=a)&&decide (a<=1000000)):=by
 unfold pI_isId;simp
@[simp] theorem pI_isCmd_eq (fuel:Nat) (a:ByteArray):pI_isCmd fuel a=some (decide ((↑a.size:Int)<=60)):=rfl
def showsB (a:Int):Bool:=(decide (32<=a)&&decide (a<=126))||(decide (160<=a)&&decide (a<=65535)&& !(decide (55296<=a)&&decide (a<=57343)))
@[simp] theorem pI_Shows_eq (fuel:Nat) (a:Int):pI_Shows fuel a=some (showsB a):=by
 unfold pI_Shows showsB
 simp only[pI_within_eq,bd_s,br_if]
 cases decide (32<=a)&&decide (a<=126)<;>cases decide (160<=a)&&decide (a<=65535)<;>simp
@[simp] theorem pS_Shows_eq (fuel:Nat) (a:Int):pS_Shows fuel a=some (showsB a):=by
 unfold pS_Shows showsB
 by_cases h1:32<=a<;>by_cases h2:a<=126<;>by_cases h3:160<=a<;>by_cases h4:a<=65535<;>by_cases h5:a<55296<;>simp[h1,h2,h3,h4,h5]<;>(try simp[show¬55296<=a by omega])<;>(try simp[show 55296<=a by omega])<;>(try (by_cases h6:a<=57343<;>simp[h6]<;>omega))<;>(try omega)
def attrOkB (x:IAttr):Bool:=(decide (0<=x.Fg)&&decide (x.Fg<=8))&&(decide (0<=x.Bg)&&decide (x.Bg<=8))
@[simp] theorem pI_AttrOk_eq (fuel:Nat) (x:IAttr):pI_AttrOk fuel x=some (attrOkB x):=by
 unfold pI_AttrOk attrOkB
 simp only[pI_within_eq,bd_s]
 cases decide (0<=x.Fg)&&decide (x.Fg<=8)<;>simp
@[simp] theorem pS_AttrOk_eq (fuel:Nat) (x:IAttr):pS_AttrOk fuel x=some (attrOkB x):=by
 unfold pS_AttrOk attrOkB
 cases decide (0<=x.Fg)<;>cases decide (x.Fg<=8)<;>cases decide (0<=x.Bg)<;>simp
def cellOkB (x:ICell):Bool:=showsB x.R&&attrOkB x.A
@[simp] theorem pI_CellOk_eq (fuel:Nat) (x:ICell):pI_CellOk fuel x=some (cellOkB x):=by
 unfold pI_CellOk cellOkB
 simp only[pI_Shows_eq,bd_s]
 cases showsB x.R<;>simp
@[simp] theorem pS_CellOk_eq (fuel:Nat) (x:ICell):pS_CellOk fuel x=some (cellOkB x):=by
 unfold pS_CellOk cellOkB
 simp only[pS_Shows_eq,bd_s]
 cases showsB x.R<;>simp
theorem idx_facts {l:List α} {i:Nat} {x:α} (h:l[i]?=some x) (hl:l.length<=9223372036854775807):decide ((i:Int)<(l.length:Int))=true/\((0:Int)<=i/\(i:Int)<(l.length:Int))/\l[(i:Int).toNat]?=some x/\inK .i64 ((i+1:Nat):Int)/\((i:Int)+1=((i+1:Nat):Int)):=by
 have hi:=(qS1.1 h).1
 exact⟨by simp;omega,⟨by omega,by omega⟩,by simpa using h,inK64 (by omega) (by omega),by simp⟩
theorem areCells_loop (fuel:Nat) (l:List ICell) (hl:l.length<=9223372036854775807) (hf:l.length<fuel):∃n:Int,pG_slices_IndexFunc_ICell_I_areCells_1 fuel l=some n/\(decide (0<=n)=l.any fun x=> !cellOkB x):=by
 unfold pG_slices_IndexFunc_ICell_I_areCells_1
 rcases loopF_find (B:=pG_slices_IndexFunc_ICell_I_areCells_1_b1 fuel) (fun i=>(l,(l.length:Int),(i:Int))) l (fun x=> !cellOkB x) (fun i=> .inr (i:Int)) (.inl ()) (fuel:=fuel) (v:=(l,(l.length:Int),0)) rfl (fun i x hx=>by
  obtain⟨h1,h2,h3,h4,h5⟩:=idx_facts hx hl
  unfold pG_slices_IndexFunc_ICell_I_areCells_1_b1 pI_areCells_1
  simp only[h1,br_t,gd_t h2,h3,bd_s,pI_CellOk_eq,h5,gd_t h4]
  cases cellOkB x<;>rfl) (by
  unfold pG_slices_IndexFunc_ICell_I_areCells_1_b1
  simp) hf with⟨i,x,h1,h2,_,h3⟩ |⟨h1,h2⟩
 ·refine⟨i,by rw[h3];rfl,?_⟩
  have:(l.any fun x=> !cellOkB x)=true:=List.any_eq_true.2 ⟨x,qM1 h1,h2⟩
  rw[this];simp
 ·refine⟨-1,by rw[h2];rfl,?_⟩
  have:(l.any fun x=> !cellOkB x)=false:=List.any_eq_false.2 fun x hx=>by rw[h1 x hx];simp
  rw[this];rfl
theorem pI_areCells_eq {fuel:Nat} {l:List ICell} (hl:l.length<=9223372036854775807) (hf:l.length<fuel):pI_areCells fuel l=some (l.all cellOkB):=by
 obtain⟨n,h1,h2⟩:=areCells_loop fuel l hl hf
 unfold pI_areCells pG_slices_ContainsFunc_ICell_I_areCells_1
 simp only[h1,bd_s,h2]
 rw[List.all_eq_not_any_not]
theorem mul_small {a b:Int} (h1:1<=a) (h2:a<=120) (h3:1<=b) (h4:b<=120):0<=a*b/\a*b<=14400:=by
 constructor
 ·exact Int.mul_nonneg (by omega) (by omega)
 ·calc a*b<=120*b:=Int.mul_le_mul_of_nonneg_right h2 (by omega)
   _<=14400:=by omega
def isSizeB (w h:Int):Bool:=((decide (1<=w)&&decide (w<=120))&&(decide (1<=h)&&decide (h<=120)))&&decide (w*h<=4000)
theorem isSizeB_true {w h:Int}:isSizeB w h=true↔1<=w/\w<=120/\1<=h/\h<=120/\w*h<=4000:=by
 unfold isSizeB;simp[and_assoc]
@[simp] theorem pI_isSize_eq (fuel:Nat) (w h:Int):pI_isSize fuel w h=some (isSizeB w h):=by
 unfold pI_isSize isSizeB
 simp only[pI_within_eq,bd_s]
 by_cases h1:1<=w<;>by_cases h2:w<=120<;>by_cases h3:1<=h<;>by_cases h4:h<=120<;>simp[h1,h2,h3,h4]
 have:=mul_small h1 h2 h3 h4
 rw[gd_t (inK64 (by omega) (by omega))]
 rfl
def gridOkB (x:IGrid):Bool:=isSizeB x.W x.H&&(((x.Cells.length:Int)==x.W*x.H)&&x.Cells.all cellOkB)
theorem pI_GridOk_eq {fuel:Nat} {x:IGrid} (hl:x.Cells.length<=9223372036854775807) (hf:x.Cells.length<fuel):pI_GridOk fuel x=some (gridOkB x):=by
 unfold pI_GridOk gridOkB
 simp only[pI_isSize_eq,bd_s,pI_areCells_eq hl hf]
 cases hs:isSizeB x.W x.H with
 | false=>simp
 | true=>
  obtain⟨h1,h2,h3,h4,_⟩:=isSizeB_true.1 hs
  have:=mul_small h1 h2 h3 h4
  rw[br_t,gd_t (inK64 (by omega) (by omega))]
  cases((x.Cells.length:Int)==x.W*x.H)<;>simp
theorem pS_GridOk_loop {fuel:Nat} {l:List ICell} (hl:l.length<=9223372036854775807) (hf:l.length<fuel):loopF (pS_GridOk_b1 fuel) fuel (l,(l.length:Int),0)=some (if l.all cellOkB then .inl ()else .inr false):=by
 refine(loopF_any (B:=pS_GridOk_b1 fuel) (fun i=>(l,(l.length:Int),(i:Int))) l (fun x=> !cellOkB x) (.inr false) (.inl ()) (v:=(l,(l.length:Int),0)) rfl (fun i x hx=>by
  obtain⟨h1,h2,h3,h4,h5⟩:=idx_facts hx hl
  unfold pS_GridOk_b1
  simp only[h1,br_t,gd_t h2,h3,bd_s,pS_CellOk_eq,h5,gd_t h4]
  cases cellOkB x<;>rfl) (by
  unfold pS_GridOk_b1
  simp) hf).trans ?_
 rw[List.all_eq_not_any_not]
 cases l.any fun x=> !cellOkB x<;>rfl
theorem pS_GridOk_eq {fuel:Nat} {x:IGrid} (hl:x.Cells.length<=9223372036854775807) (hf:x.Cells.length<fuel):pS_GridOk fuel x=some (gridOkB x):=by
 unfold pS_GridOk gridOkB isSizeB
 by_cases h1:x.W<1
 ·simp[h1,show¬1<=x.W by omega]
 by_cases h2:120<x.W
 ·simp[h1,h2,show¬x.W<=120 by omega]
 by_cases h3:x.H<1
 ·simp[h1,h2,h3,show¬1<=x.H by omega]
 by_cases h4:120<x.H
 ·simp[h1,h2,h3,h4,show¬x.H<=120 by omega]
 have:=mul_small (show 1<=x.W by omega) (show x.W<=120 by omega) (show 1<=x.H by omega) (show x.H<=120 by omega)
 have hk:inK .i64 (x.W*x.H):=inK64 (by omega) (by omega)
 by_cases h5:4000<x.W*x.H
 ·simp[h1,h2,h3,h4,h5,gd_t hk,show¬x.W*x.H<=4000 by omega]
 by_cases h6:(x.Cells.length:Int)=x.W*x.H
 ·simp only[h1,h2,h3,h4,h5,decide_false,br_f,gd_t hk,bd_s,h6,bne_self_eq_false]
  rw[<-h6,pS_GridOk_loop hl hf]
  generalize x.Cells.all cellOkB=c
  simp[show 1<=x.W by omega,show x.W<=120 by omega,show 1<=x.H by omega,show x.H<=120 by omega,show x.W*x.H<=4000 by omega,h6]
  cases c<;>rfl
 ·have hb:((x.Cells.length:Int) !=x.W*x.H)=true:=by simp[h6]
  simp[h1,h2,h3,h4,h5,h6,hb,gd_t hk,show 1<=x.W by omega,show x.W<=120 by omega,show 1<=x.H by omega,show x.H<=120 by omega,show x.W*x.H<=4000 by omega]
theorem pI_Grid_has_eq {fuel:Nat} {g:IGrid} {x y:Int} (hg:isSizeB g.W g.H=true):pI_Grid_has fuel g x y=some ((decide (0<=x)&&decide (x<=g.W-1))&&(decide (0<=y)&&decide (y<=g.H-1))):=by
 obtain⟨h1,h2,h3,h4,_⟩:=isSizeB_true.1 hg
 unfold pI_Grid_has
 rw[gd_t (inK64 (by omega) (by omega))]
 simp only[pI_within_eq,bd_s,gd_t (inK64 (v:=g.H-1) (by omega) (by omega))]
 cases(decide (0<=x)&&decide (x<=g.W-1))<;>simp
def ascQ (l : List Int) (lo hi : Int) (i : Nat) (x : Int) : Bool := !(decide (lo <= x) && decide (x <= hi)) || (match i with
 | 0 => false
 | j + 1 => match l[j]? with
  | some y => decide (x <= y)
  | none => false)
def ascB (l:List Int) (lo hi:Int):Bool:= !(l.zipIdx.any fun p=>ascQ l lo hi p.2 p.1)
theorem prev_facts {l:List α} {j:Nat} {x:α} (h:l[j+1]?=some x) (hl:l.length<=9223372036854775807):∃y,l[j]?=some y/\decide ((0:Int)<((j+1:Nat):Int))=true/\inK .i64 (((j+1:Nat):Int)-1)/\((0:Int)<=((j+1:Nat):Int)-1/\((j+1:Nat):Int)-1<(l.length:Int))/\l[(((j+1:Nat):Int)-1).toNat]?=some y:=by
 have hi:=(qS1.1 h).1
 have e:(((j+1:Nat):Int)-1).toNat=j:=by omega
 exact⟨l[j]'(by omega),qE1 (by omega),qT1 (by omega),inK64 (by omega) (by omega),⟨by omega,by omega⟩,by rw[e];exact qE1 (by omega)⟩
theorem pI_isAscending_eq {fuel:Nat} {l:List Int} {lo hi:Int} (hl:l.length<=9223372036854775807) (hf:l.length<fuel):pI_isAscending fuel l lo hi=some (ascB l lo hi):=by
 have h:=loopF_anyI (B:=pI_isAscending_b1 fuel) (fun i=>(l,lo,hi,l,(l.length:Int),(i:Int))) l (ascQ l lo hi) (.inr false) (.inl ()) (v:=(l,lo,hi,l,(l.length:Int),0)) rfl (fun i x hx=>by
  obtain⟨h1,h2,h3,h4,h5⟩:=idx_facts hx hl
  unfold pI_isAscending_b1 ascQ
  simp only[h1,br_t,gd_t h2,h3,bd_s,pI_within_eq]
  cases hw:(decide (lo<=x)&&decide (x<=hi))with
  | false=>simp
  | true=>
   cases i with
   | zero=>simp only[Bool.not_true,br_f];simp[gd_t (inK64 (v:=1) (by omega) (by omega))]
   | succ j=>
    obtain⟨y,p1,p2,p3,p4,p5⟩:=prev_facts hx hl
    simp only[Bool.not_true,br_f,p2,br_t,gd_t p3,gd_t p4,p5,bd_s,p1,Bool.false_or,h5,gd_t h4]
    cases decide (x<=y)<;>rfl) (by
  unfold pI_isAscending_b1
  simp) hf
 unfold pI_isAscending ascB
 rw[h]
 cases l.zipIdx.any fun p=>ascQ l lo hi p.2 p.1<;>rfl
def rowOkB (x:IRow):Bool:=(decide (1<=(x.Cells.length:Int))&&decide ((x.Cells.length:Int)<=120))&&x.Cells.all cellOkB
theorem pI_backOk_1_eq {fuel:Nat} {x:IRow} (hl:x.Cells.length<=9223372036854775807) (hf:x.Cells.length<fuel):pI_backOk_1 fuel x=some (!rowOkB x):=by
 unfold pI_backOk_1 rowOkB
 simp only[pI_within_eq,bd_s,pI_areCells_eq hl hf]
 cases(decide (1<=(x.Cells.length:Int))&&decide ((x.Cells.length:Int)<=120))<;>simp
theorem backOk_loop (fuel:Nat) (l:List IRow) (hl:l.length<=9223372036854775807) (hf:l.length<fuel) (hr:∀x∈l,x.Cells.length<=9223372036854775807/\x.Cells.length<fuel):∃n:Int,pG_slices_IndexFunc_IRow_I_backOk_1 fuel l=some n/\(decide (0<=n)=l.any fun x=> !rowOkB x):=by
 unfold pG_slices_IndexFunc_IRow_I_backOk_1
 rcases loopF_find (B:=pG_slices_IndexFunc_IRow_I_backOk_1_b1 fuel) (fun i=>(l,(l.length:Int),(i:Int))) l (fun x=> !rowOkB x) (fun i=> .inr (i:Int)) (.inl ()) (fuel:=fuel) (v:=(l,(l.length:Int),0)) rfl (fun i x hx=>by
  obtain⟨h1,h2,h3,h4,h5⟩:=idx_facts hx hl
  obtain⟨r1,r2⟩:=hr x (qM1 hx)
  unfold pG_slices_IndexFunc_IRow_I_backOk_1_b1
  simp only[h1,br_t,gd_t h2,h3,bd_s,pI_backOk_1_eq r1 r2,h5,gd_t h4]
  cases rowOkB x<;>rfl) (by
  unfold pG_slices_IndexFunc_IRow_I_backOk_1_b1
  simp) hf with⟨i,x,h1,h2,_,h3⟩ |⟨h1,h2⟩
 ·refine⟨i,by rw[h3];rfl,?_⟩
  have:(l.any fun x=> !rowOkB x)=true:=List.any_eq_true.2 ⟨x,qM1 h1,h2⟩
  rw[this];simp
 ·refine⟨-1,by rw[h2];rfl,?_⟩
  have:(l.any fun x=> !rowOkB x)=false:=List.any_eq_false.2 fun x hx=>by rw[h1 x hx];simp
  rw[this];rfl
theorem pI_backOk_eq {fuel:Nat} {l:List IRow} (hl:l.length<=9223372036854775807) (hf:l.length<fuel) (hr:∀x∈l,x.Cells.length<=9223372036854775807/\x.Cells.length<fuel):pI_backOk fuel l n=some (decide ((l.length:Int)<=n)&&l.all rowOkB):=by
 obtain⟨m,h1,h2⟩:=backOk_loop fuel l hl hf hr
 unfold pI_backOk pG_slices_ContainsFunc_IRow_I_backOk_1
 simp only[h1,bd_s,h2]
 rw[List.all_eq_not_any_not]
 cases decide ((l.length:Int)<=n)<;>simp
theorem pS_l09Row_eq {fuel:Nat} {x:IRow} (hl:x.Cells.length<=9223372036854775807) (hf:x.Cells.length<fuel):pS_l09Row fuel x=some (rowOkB x):=by
 have h:=loopF_any (B:=pS_l09Row_b1 fuel) (fun i=>(x,x.Cells,(x.Cells.length:Int),(i:Int))) x.Cells (fun c=> !cellOkB c) (.inr false) (.inl x) (v:=(x,x.Cells,(x.Cells.length:Int),0)) rfl (fun i c hx=>by
  obtain⟨h1,h2,h3,h4,h5⟩:=idx_facts hx hl
  unfold pS_l09Row_b1
  simp only[h1,br_t,gd_t h2,h3,bd_s,pS_CellOk_eq,h5,gd_t h4]
  cases cellOkB c<;>rfl) (by
  unfold pS_l09Row_b1
  simp) hf
 unfold pS_l09Row rowOkB
 rw[h,List.all_eq_not_any_not]
 cases(x.Cells.any fun c=> !cellOkB c)<;>by_cases h1:1<=(x.Cells.length:Int)<;>simp[h1]
theorem pS_back_loop {fuel:Nat} {l:List IRow} (hl:l.length<=9223372036854775807) (hf:l.length<fuel) (hr:∀x∈l,x.Cells.length<=9223372036854775807/\x.Cells.length<fuel):loopF (pS_ScrOk_b2 fuel) fuel (l,(l.length:Int),0)=some (if l.all rowOkB then .inl ()else .inr false):=by
 refine(loopF_any (B:=pS_ScrOk_b2 fuel) (fun i=>(l,(l.length:Int),(i:Int))) l (fun x=> !rowOkB x) (.inr false) (.inl ()) (v:=(l,(l.length:Int),0)) rfl (fun i x hx=>by
  obtain⟨h1,h2,h3,h4,h5⟩:=idx_facts hx hl
  obtain⟨r1,r2⟩:=hr x (qM1 hx)
  unfold pS_ScrOk_b2
  simp only[h1,br_t,gd_t h2,h3,bd_s,pS_l09Row_eq r1 r2,h5,gd_t h4]
  cases rowOkB x<;>rfl) (by
  unfold pS_ScrOk_b2
  simp) hf).trans ?_
 rw[List.all_eq_not_any_not]
 cases l.any fun x=> !rowOkB x<;>rfl
theorem pS_tabs_loop {fuel:Nat} (hl:s.Tabs.length<=9223372036854775807) (hf:s.Tabs.length<fuel):loopF (pS_ScrOk_b1 fuel) fuel (s,s.Tabs,(s.Tabs.length:Int),0)=some (if ascB s.Tabs 0 (s.W-1)then .inl s else .inr false):=by
 have h:=loopF_anyI (B:=pS_ScrOk_b1 fuel) (fun i=>(s,s.Tabs,(s.Tabs.length:Int),(i:Int))) s.Tabs (ascQ s.Tabs 0 (s.W-1)) (.inr false) (.inl s) (v:=(s,s.Tabs,(s.Tabs.length:Int),0)) rfl (fun i x hx=>by
  obtain⟨h1,h2,h3,h4,h5⟩:=idx_facts hx hl
  unfold pS_ScrOk_b1 ascQ
  simp only[h1,br_t,gd_t h2,h3,bd_s]
  by_cases w1:x<0
  ·simp[w1,show¬0<=x by omega]
  by_cases w2:s.W<=x
  ·simp[w1,w2,show¬x<=s.W-1 by omega]
  have w3:(decide (0<=x)&&decide (x<=s.W-1))=true:=by simp;omega
  cases i with
  | zero=>simp only[w1,w2,w3,decide_false,br_f];simp[gd_t (inK64 (v:=1) (by omega) (by omega))]
  | succ j=>
   obtain⟨y,p1,p2,p3,p4,p5⟩:=prev_facts hx hl
   simp only[w1,w2,w3,decide_false,br_f,p2,br_t,gd_t p3,gd_t p4,p5,bd_s,p1,Bool.not_true,Bool.false_or,h5,gd_t h4]
   cases decide (x<=y)<;>rfl) (by
  unfold pS_ScrOk_b1
  simp) hf
 rw[h]
 unfold ascB
 cases s.Tabs.zipIdx.any fun p=>ascQ s.Tabs 0 (s.W-1) p.2 p.1<;>rfl
def hasB (w h x y:Int):Bool:=(decide (0<=x)&&decide (x<=w-1))&&(decide (0<=y)&&decide (y<=h-1))
def gridsB (s:IScr):Bool:=[s.Main,s.Alt].all fun g=>gridOkB g&&((g.W==s.W)&&(g.H==s.H))
def scrRestB (s:IScr):Bool:=
 hasB s.W s.H s.X s.Y&&(hasB s.W s.H s.SaveX s.SaveY&&((!s.Wrap||s.X==s.W-1)&&(attrOkB s.A&&(attrOkB s.SaveA&&(decide (0<=s.Top)&&(decide (s.Top<=s.Bot)&&(decide (s.Bot<s.H)&&((!(s.Top==s.Bot)||s.H==1) &&
 (ascB s.Tabs 0 (s.W-1)&&((decide (0<=s.Limit)&&decide (s.Limit<=100))&&(decide ((s.Back.length:Int)<=s.Limit)&&s.Back.all rowOkB)))))))))))
def scrOkB (s:IScr):Bool:=gridsB s&&scrRestB s
structure ScrF (fuel:Nat) (s:IScr):Prop where
 m:s.Main.Cells.length<=9223372036854775807/\s.Main.Cells.length<fuel
 a:s.Alt.Cells.length<=9223372036854775807/\s.Alt.Cells.length<fuel
 t:s.Tabs.length<=9223372036854775807/\s.Tabs.length<fuel
 b:s.Back.length<=9223372036854775807/\s.Back.length<fuel
 r:∀x∈s.Back,x.Cells.length<=9223372036854775807/\x.Cells.length<fuel
 f:2<fuel
theorem pI_grids_loop {fuel:Nat} (hf:ScrF fuel s):loopF (pI_ScrOk_b1 fuel) fuel (s,[s.Main,s.Alt],((2:Nat):Int),0)=some (if gridsB s then .inl s else .inr false):=by
 have h:=loopF_any (B:=pI_ScrOk_b1 fuel) (fun i=>(s,[s.Main,s.Alt],((2:Nat):Int),(i:Int))) [s.Main,s.Alt] (fun g=> !(gridOkB g&&((g.W==s.W)&&(g.H==s.H)))) (.inr false) (.inl s) (v:=(s,[s.Main,s.Alt],((2:Nat):Int),0)) rfl (fun i g hx=>by
  obtain⟨h1,h2,h3,h4,h5⟩:=idx_facts hx (by simp)
  have h1:decide ((i:Int)<((2:Nat):Int))=true:=h1
  have h3:[s.Main,s.Alt][0+(i:Int).toNat]?=some g:=by rw[Nat.zero_add];exact h3
  have hg:pI_GridOk fuel g=some (gridOkB g):=by
   have hm:=qM1 hx
   simp at hm
   rcases hm with rfl|rfl
   ·exact pI_GridOk_eq hf.m.1 hf.m.2
   ·exact pI_GridOk_eq hf.a.1 hf.a.2
  unfold pI_ScrOk_b1
  simp only[h1,br_t,gd_t h2,h3,bd_s,hg]
  cases gridOkB g
  ·simp
  ·cases hw:(g.W==s.W)
   ·simp[bne,hw]
   ·cases hh:(g.H==s.H)
    ·simp[bne,hw,hh]
    ·simp only[bne,hw,hh,Bool.not_true,br_f,bd_s,h5,gd_t h4];rfl) (by
  unfold pI_ScrOk_b1
  simp) hf.f
 rw[h]
 unfold gridsB
 rw[List.all_eq_not_any_not]
 cases([s.Main,s.Alt].any fun g=> !(gridOkB g&&((g.W==s.W)&&(g.H==s.H))))<;>rfl
theorem gridsB_size (h:gridsB s=true):isSizeB s.W s.H=true/\s.Main.W=s.W/\s.Main.H=s.H/\s.Alt.W=s.W/\s.Alt.H=s.H/\gridOkB s.Main=true/\gridOkB s.Alt=true:=by
 unfold gridsB at h
 simp at h
 obtain⟨⟨h1,h2,h3⟩,h4,h5,h6⟩:=h
 refine⟨?_,h2,h3,h5,h6,h1,h4⟩
 unfold gridOkB at h1
 rw[Bool.and_eq_true]at h1
 rw[<-h2,<-h3];exact h1.1
theorem pI_ScrOk_eq {fuel:Nat} (hf:ScrF fuel s):pI_ScrOk fuel s=some (scrOkB s):=by
 unfold pI_ScrOk scrOkB
 have:=pI_grids_loop hf
 rw[show((↑2:Int))=((2:Nat):Int)from rfl]at *
 rw[this]
 cases hg:gridsB s with
 | false=>rfl
 | true=>
  obtain⟨z,e1,e2,e3,e4,g1,g2⟩:=gridsB_size hg
  obtain⟨z1,z2,z3,z4,_⟩:=isSizeB_true.1 z
  have zm:isSizeB s.Main.W s.Main.H=true:=by rw[e1,e2];exact z
  have k1:inK .i64 (s.W-1):=inK64 (by omega) (by omega)
  simp only[if_true,jn_l,pI_Grid_has_eq zm,e1,e2,bd_s,pI_AttrOk_eq,gd_t k1,pI_isAscending_eq hf.t.1 hf.t.2,pI_within_eq,pI_backOk_eq hf.b.1 hf.b.2 hf.r,Bool.true_and,br_ss,br_pp]
  unfold scrRestB
  rw[show((decide (0<=s.X)&&decide (s.X<=s.W-1))&&(decide (0<=s.Y)&&decide (s.Y<=s.H-1)))=hasB s.W s.H s.X s.Y from rfl,show((decide (0<=s.SaveX)&&decide (s.SaveX<=s.W-1))&&(decide (0<=s.SaveY)&&decide (s.SaveY<=s.H-1)))=hasB s.W s.H s.SaveX s.SaveY from rfl]
  generalize hasB s.W s.H s.X s.Y=p1
  generalize hasB s.W s.H s.SaveX s.SaveY=p2
  generalize attrOkB s.A=p4
  generalize attrOkB s.SaveA=p5
  generalize ascB s.Tabs 0 (s.W-1)=p10
  generalize (decide ((s.Back.length:Int)<=s.Limit)&&s.Back.all rowOkB)=p12
  generalize (decide (0<=s.Limit)&&decide (s.Limit<=100))=p11
  simp only[bne]
  generalize (s.X==s.W-1)=p3
  generalize (s.H==1)=p9
  generalize (s.Top==s.Bot)=p13
  cases p1;· simp
  cases p2;· simp
  have q6:decide (s.Top<0)= !decide (0<=s.Top):=by by_cases h:0<=s.Top<;>simp[h]<;>omega
  have q7:decide (s.Bot<s.Top)= !decide (s.Top<=s.Bot):=by by_cases h:s.Top<=s.Bot<;>simp[h]<;>omega
  have q8:decide (s.H<=s.Bot)= !decide (s.Bot<s.H):=by by_cases h:s.Bot<s.H<;>simp[h]<;>omega
  rw[q6,q7,q8]
  generalize decide (0<=s.Top)=p6
  generalize decide (s.Top<=s.Bot)=p7
  generalize decide (s.Bot<s.H)=p8
  generalize s.Wrap=wr
  cases wr<;>cases p3<;>cases p4<;>cases p5<;>cases p6<;>cases p7<;>cases p8<;>cases p13<;>cases p9<;>cases p10<;>cases p11<;>rfl
theorem pS_ScrOk_eq {fuel:Nat} (hf:ScrF fuel s):pS_ScrOk fuel s=some (scrOkB s):=by
 unfold pS_ScrOk scrOkB
 simp only[pS_GridOk_eq hf.m.1 hf.m.2,pS_GridOk_eq hf.a.1 hf.a.2,bd_s,br_ss,br_pp]
 have hx:(br (!gridOkB s.Main) true (br (!gridOkB s.Alt) true (br (s.Main.W !=s.W) true (br (s.Main.H !=s.H) true (br (s.Alt.W !=s.W) true (s.Alt.H !=s.H))))))= !gridsB s:=by
  unfold gridsB
  simp only[List.all_cons,List.all_nil,bne]
  cases gridOkB s.Main<;>cases gridOkB s.Alt<;>cases(s.Main.W==s.W)<;>cases(s.Main.H==s.H)<;>cases(s.Alt.W==s.W)<;>cases(s.Alt.H==s.H)<;>rfl
 rw[hx]
 cases hg:gridsB s with
 | false=>rfl
 | true=>
  obtain⟨z,-⟩:=gridsB_size hg
  obtain⟨z1,z2,z3,z4,_⟩:=isSizeB_true.1 z
  have k1:inK .i64 (s.W-1):=inK64 (by omega) (by omega)
  simp only[Bool.not_true,br_f,gd_t k1,pS_AttrOk_eq,bd_s,br_ss,br_pp,pS_tabs_loop hf.t.1 hf.t.2,Bool.true_and]
  unfold scrRestB hasB
  have n1:∀x:Int,decide (x<0)= !decide (0<=x):=fun x=>by by_cases h:0<=x<;>simp[h]<;>omega
  have n2:∀x:Int,decide (s.W<=x)= !decide (x<=s.W-1):=fun x=>by by_cases h:x<=s.W-1<;>simp[h]<;>omega
  have n3:∀x:Int,decide (s.H<=x)= !decide (x<=s.H-1):=fun x=>by by_cases h:x<=s.H-1<;>simp[h]<;>omega
  have n4:decide (s.Bot<s.Top)= !decide (s.Top<=s.Bot):=by by_cases h:s.Top<=s.Bot<;>simp[h]<;>omega
  have n5:decide (s.Bot<s.H)=decide (s.Bot<=s.H-1):=by by_cases h:s.Bot<s.H<;>simp[h]<;>omega
  have n6:decide (100<s.Limit)= !decide (s.Limit<=100):=by by_cases h:s.Limit<=100<;>simp[h]<;>omega
  have n7:decide (s.Limit<(s.Back.length:Int))= !decide ((s.Back.length:Int)<=s.Limit):=by by_cases h:(s.Back.length:Int)<=s.Limit<;>simp[h]<;>omega
  simp only[n1,n2,n3,n4,n5,n6,n7,bne]
  generalize decide (0<=s.X)=a1
  generalize decide (s.X<=s.W-1)=a2
  generalize decide (0<=s.Y)=a3
  generalize decide (s.Y<=s.H-1)=a4
  generalize decide (0<=s.SaveX)=a5
  generalize decide (s.SaveX<=s.W-1)=a6
  generalize decide (0<=s.SaveY)=a7
  generalize decide (s.SaveY<=s.H-1)=a8
  generalize attrOkB s.A=b1
  generalize attrOkB s.SaveA=b2
  generalize (s.X==s.W-1)=b3
  generalize (s.H==1)=b4
  generalize (s.Top==s.Bot)=b5
  generalize decide (0<=s.Top)=b6
  generalize decide (s.Top<=s.Bot)=b7
  generalize decide (s.Bot<=s.H-1)=b8
  generalize decide (0<=s.Limit)=b9
  generalize decide (s.Limit<=100)=c1
  generalize decide ((s.Back.length:Int)<=s.Limit)=c2
  generalize ascB s.Tabs 0 (s.W-1)=c3
  have e1:(br (!a1) true (br (!a2) true (br (!a3) true (br (!a4) true (br s.Wrap (br (!b3) true (br (!a5) true (br (!a6) true (br (!a7) true (br (!a8) true (br (!b1) true (!b2))))))) (br (!a5) true (br (!a6) true (br (!a7) true (br (!a8) true (br (!b1) true (!b2)))))))))))
    = !(((a1&&a2)&&(a3&&a4))&&(((a5&&a6)&&(a7&&a8))&&((!s.Wrap||b3)&&(b1&&b2)))):=by
   generalize s.Wrap=w
   cases a1<;>cases a2<;>cases a3<;>cases a4<;>try rfl
   cases w<;>cases b3<;>cases a5<;>cases a6<;>cases a7<;>cases a8<;>cases b1<;>rfl
  rw[e1]
  generalize ((!s.Wrap||b3))=w
  have e2:(((a1&&a2)&&(a3&&a4))&&(((a5&&a6)&&(a7&&a8))&&(w&&(b1&&(b2&&(b6&&(b7&&(b8&&((!b5||b4)&&(c3&&((b9&&c1)&&(c2&&s.Back.all rowOkB))))))))))))=((((a1&&a2)&&(a3&&a4))&&(((a5&&a6)&&(a7&&a8))&&(w&&(b1&&b2))))&&((b6&&(b7&&(b8&&((!b5||b4)&&(b9&&(c1&&c2))))))&&(c3&&s.Back.all rowOkB))):=by
   simp only[Bool.and_assoc]
   cases c3<;>cases b9<;>cases c1<;>cases c2<;>simp
  rw[e2]
  generalize (((a1&&a2)&&(a3&&a4))&&(((a5&&a6)&&(a7&&a8))&&(w&&(b1&&b2))))=m
  cases m;· rfl
  simp only[Bool.not_true,br_f,bd_s,br_ss,br_pp]
  have e3:(br (!b6) true (br (!b8) true (br (!b7) true (br b5 (br (!b4) true (br (!b9) true (br (!c1) true (!c2)))) (br (!b9) true (br (!c1) true (!c2)))))))= !(b6&&(b7&&(b8&&((!b5||b4)&&(b9&&(c1&&c2)))))):=by
   cases b6<;>cases b8<;>cases b7<;>cases b5<;>cases b4<;>cases b9<;>cases c1<;>rfl
  rw[e3]
  generalize (b6&&(b7&&(b8&&((!b5||b4)&&(b9&&(c1&&c2))))))=m2
  cases m2;· rfl
  simp only[Bool.not_true,br_f,bd_s]
  cases c3;· rfl
  simp only[if_true,jn_l,pS_back_loop hf.b.1 hf.b.2 hf.r]
  cases s.Back.all rowOkB<;>rfl
theorem cmpN_eq {l:List α} {x y:Option J} {r:J} (hy:y=some r) (hx:l=[]->x=some r):cmpN l x y=some r:=by
 unfold cmpN
 cases l with
 | nil=>rw[hx rfl,hy];simp
 | cons a l=>simp[hy]
theorem clone_int {fuel:Nat} {l:List Int} (h:roomB K.int l.length):pG_slices_Clone_int fuel l=some l:=by
 unfold pG_slices_Clone_int
 refine cmpN_eq (by rw[List.nil_append,gd_t h]) fun e=>by rw[e]
theorem hasInt_eq {fuel:Nat} {l:List Int} (hl:l.length<=9223372036854775807) (hf:l.length<fuel):pS_l02HasInt fuel l n=some (l.any fun x=>x==n):=by
 have h:=loopF_any (B:=pS_l02HasInt_b1 fuel) (fun i=>(n,l,(l.length:Int),(i:Int))) l (fun x=>x==n) (.inr true) (.inl ()) (v:=(n,l,(l.length:Int),0)) rfl (fun i x hx=>by
  obtain⟨h1,h2,h3,h4,h5⟩:=idx_facts hx hl
  unfold pS_l02HasInt_b1
  simp only[h1,br_t,gd_t h2,h3,bd_s,h5,gd_t h4]
  cases x==n<;>rfl) (by
  unfold pS_l02HasInt_b1
  simp) hf
 unfold pS_l02HasInt
 rw[h]
 cases l.any fun x=>x==n<;>rfl
def argB (x:Int):Bool:=decide (0<=x)&&decide (x<=9999)
theorem areArgs_loop (fuel:Nat) (l:List Int) (hl:l.length<=9223372036854775807) (hf:l.length<fuel):∃n:Int,pG_slices_IndexFunc_int_I_areArgs_1 fuel l=some n/\(decide (0<=n)=l.any fun x=> !argB x):=by
 unfold pG_slices_IndexFunc_int_I_areArgs_1
 rcases loopF_find (B:=pG_slices_IndexFunc_int_I_areArgs_1_b1 fuel) (fun i=>(l,(l.length:Int),(i:Int))) l (fun x=> !argB x) (fun i=> .inr (i:Int)) (.inl ()) (fuel:=fuel) (v:=(l,(l.length:Int),0)) rfl (fun i x hx=>by
  obtain⟨h1,h2,h3,h4,h5⟩:=idx_facts hx hl
  unfold pG_slices_IndexFunc_int_I_areArgs_1_b1 pI_areArgs_1 argB
  simp only[h1,br_t,gd_t h2,h3,bd_s,pI_within_eq,h5,gd_t h4]
  cases(decide (0<=x)&&decide (x<=9999))<;>rfl) (by
  unfold pG_slices_IndexFunc_int_I_areArgs_1_b1
  simp) hf with⟨i,x,h1,h2,_,h3⟩ |⟨h1,h2⟩
 ·refine⟨i,by rw[h3];rfl,?_⟩
  have:(l.any fun x=> !argB x)=true:=List.any_eq_true.2 ⟨x,qM1 h1,h2⟩
  rw[this];simp
 ·refine⟨-1,by rw[h2];rfl,?_⟩
  have:(l.any fun x=> !argB x)=false:=List.any_eq_false.2 fun x hx=>by rw[h1 x hx];simp
  rw[this];rfl
theorem pI_areArgs_eq {fuel:Nat} {l:List Int} (hl:l.length<=9223372036854775807) (hf:l.length<fuel):pI_areArgs fuel l=some (decide ((l.length:Int)<=8)&&l.all argB):=by
 obtain⟨n,h1,h2⟩:=areArgs_loop fuel l hl hf
 unfold pI_areArgs pG_slices_ContainsFunc_int_I_areArgs_1
 simp only[h1,bd_s,h2]
 rw[List.all_eq_not_any_not]
 cases decide ((l.length:Int)<=8)<;>simp
theorem pS_args_loop {fuel:Nat} {s:IVp} (hl:s.Args.length<=9223372036854775807) (hf:s.Args.length<fuel):loopF (pS_VpOk_b1 fuel) fuel (s,s.Args,(s.Args.length:Int),0)=some (if s.Args.all argB then .inl s else .inr false):=by
 refine(loopF_any (B:=pS_VpOk_b1 fuel) (fun i=>(s,s.Args,(s.Args.length:Int),(i:Int))) s.Args (fun x=> !argB x) (.inr false) (.inl s) (v:=(s,s.Args,(s.Args.length:Int),0)) rfl (fun i x hx=>by
  obtain⟨h1,h2,h3,h4,h5⟩:=idx_facts hx hl
  unfold pS_VpOk_b1 argB
  simp only[h1,br_t,gd_t h2,h3,bd_s,br_ss,br_pp]
  by_cases w1:x<0
  ·simp[w1,show¬0<=x by omega]
  by_cases w2:9999<x
  ·simp[w1,w2,show¬x<=9999 by omega]
  simp only[w1,w2,decide_false,br_f,h5,gd_t h4]
  simp[show 0<=x by omega,show x<=9999 by omega]) (by
  unfold pS_VpOk_b1
  simp) hf).trans ?_
 rw[List.all_eq_not_any_not]
 cases s.Args.any fun x=> !argB x<;>rfl
def vpOkB (s:IVp) (b:Bool):Bool:=
 if s.State=0 then !s.Mark&&(((s.Args.length:Int)==0)&&(((s.Part.length:Int)==0)||b))
 else if s.State=1 then !s.Mark&&(((s.Args.length:Int)==0)&&((s.Part.length:Int)==0))
 else if s.State=2∨s.State=3 then(decide ((s.Args.length:Int)<=8)&&s.Args.all argB)&&((s.Part.length:Int)==0)
 else false
theorem pI_VpOk_eq {fuel:Nat} {s:IVp} (hl:s.Args.length<=9223372036854775807) (hf:s.Args.length<fuel) (hb:pI_RuneBegin fuel s.Part=some b):pI_VpOk fuel s=some (vpOkB s b):=by
 unfold pI_VpOk vpOkB
 simp only[hb,pI_areArgs_eq hl hf,bd_s,br_ss,br_pp]
 by_cases h0:s.State=0
 ·simp only[h0,if_true]
  cases s.Mark<;>cases((s.Args.length:Int)==0)<;>cases((s.Part.length:Int)==0)<;>cases b<;>rfl
 by_cases h1:s.State=1
 ·simp only[h1]
  cases s.Mark<;>cases((s.Args.length:Int)==0)<;>cases((s.Part.length:Int)==0)<;>rfl
 by_cases h2:s.State=2
 ·simp only[h2]
  generalize (decide ((s.Args.length:Int)<=8)&&s.Args.all argB)=c
  cases c<;>cases((s.Part.length:Int)==0)<;>rfl
 by_cases h3:s.State=3
 ·simp only[h3]
  generalize (decide ((s.Args.length:Int)<=8)&&s.Args.all argB)=c
  cases c<;>cases((s.Part.length:Int)==0)<;>rfl
 ·have e0:(s.State==0)=false:=by simp[h0]
  have e1:(s.State==1)=false:=by simp[h1]
  have e2:(s.State==2)=false:=by simp[h2]
  have e3:(s.State==3)=false:=by simp[h3]
  simp[e0,e1,e2,e3,h0,h1,h2,h3]
theorem pS_VpOk_eq {fuel:Nat} {s:IVp} (hl:s.Args.length<=9223372036854775807) (hf:s.Args.length<fuel) (hb:pS_RuneBegin fuel s.Part=some b):pS_VpOk fuel s=some (vpOkB s b):=by
 unfold pS_VpOk vpOkB pS_l08Keeps
 simp only[hb,bd_s,br_ss,br_pp]
 by_cases a0:s.State<0
 ·simp[a0,show¬s.State=0 by omega,show¬s.State=1 by omega,show¬s.State=2 by omega,show¬s.State=3 by omega]
 by_cases a3:3<s.State
 ·simp[a0,a3,show¬s.State=0 by omega,show¬s.State=1 by omega,show¬s.State=2 by omega,show¬s.State=3 by omega]
 have hn:decide (0<(s.Args.length:Int))= !((s.Args.length:Int)==0):=by
  cases hs:s.Args<;>simp
  omega
 have h8:decide (8<(s.Args.length:Int))= !decide ((s.Args.length:Int)<=8):=by by_cases h:(s.Args.length:Int)<=8<;>simp[h]<;>omega
 rw[hn,h8]
 have he:((s.Args.length:Int)==0)=true->s.Args.all argB=true/\decide ((s.Args.length:Int)<=8)=true:=fun h=>by
  have:s.Args=[]:=by
   cases hs:s.Args with
   | nil=>rfl
   | cons a l=>rw[hs]at h;simp at h;omega
  rw[this];simp
 have hc:s.State=0∨s.State=1∨s.State=2∨s.State=3:=by omega
 simp only[a0,a3,decide_false,br_f,br_ss,br_pp,bd_s,pS_args_loop hl hf]
 cases hL:((s.Args.length:Int)==0)with
 | true=>
  obtain⟨e1,e2⟩:=he hL
  rw[e1,e2]
  rcases hc with h|h|h|h<;>simp only[h]<;>cases s.Mark<;>cases hp:((s.Part.length:Int)==0)<;>cases b<;>simp[pS_args_loop hl hf,e1,h,hp,hb]
 | false=>
  rcases hc with h|h|h|h<;>simp only[h]<;>cases s.Mark<;>cases hp:((s.Part.length:Int)==0)<;>cases hz:decide ((s.Args.length:Int)<=8)<;>cases hy:s.Args.all argB<;>simp[pS_args_loop hl hf,hy,h,hp,hb]
def termOkB (x:ITerm) (b:Bool):Bool:=vpOkB x.P b&&scrOkB x.S
theorem pI_TermOk_eq {fuel:Nat} {x:ITerm} (hl:x.P.Args.length<=9223372036854775807) (hf:x.P.Args.length<fuel) (hs:ScrF fuel x.S) (hb:pI_RuneBegin fuel x.P.Part=some b):pI_TermOk fuel x=some (termOkB x b):=by
 unfold pI_TermOk termOkB
 rw[pI_VpOk_eq hl hf hb,bd_s,pI_ScrOk_eq hs,bd_s]
 cases vpOkB x.P b<;>rfl
theorem pS_TermOk_eq {fuel:Nat} {x:ITerm} (hl:x.P.Args.length<=9223372036854775807) (hf:x.P.Args.length<fuel) (hs:ScrF fuel x.S) (hb:pS_RuneBegin fuel x.P.Part=some b):pS_TermOk fuel x=some (termOkB x b):=by
 unfold pS_TermOk termOkB
 rw[pS_VpOk_eq hl hf hb,bd_s,pS_ScrOk_eq hs,bd_s]
 cases vpOkB x.P b<;>rfl
def lifeB (x:IPane):Bool:=
 if x.Life=1 then(decide (1<=x.Pid)&&decide (x.Pid<=1000000))&&(x.Code==0)
 else if x.Life=2 then(x.Pid==0)&&(decide (0<=x.Code)&&decide (x.Code<=255))
 else if x.Life=3 then(x.Pid==0)&&(x.Code==0)else false
def paneOkB (x:IPane) (b:Bool):Bool:=(decide (1<=x.Id)&&decide (x.Id<=1000000))&&(decide ((x.Cmd.size:Int)<=60)&&(decide ((x.Dir.size:Int)<=60)&&(termOkB x.Term b&&lifeB x)))
theorem pI_PaneOk_eq {fuel:Nat} {x:IPane} (ht:pI_TermOk fuel x.Term=some (termOkB x.Term b)):pI_PaneOk fuel x=some (paneOkB x b):=by
 unfold pI_PaneOk paneOkB lifeB
 simp only[pI_isId_eq,pI_isCmd_eq,ht,bd_s,br_ss,br_pp,pI_within_eq]
 cases(decide (1<=x.Id)&&decide (x.Id<=1000000))<;>cases decide ((x.Cmd.size:Int)<=60)<;>cases decide ((x.Dir.size:Int)<=60)<;>cases termOkB x.Term b<;>try rfl
 by_cases h1:x.Life=1
 ·simp only[h1]
  cases(decide (1<=x.Pid)&&decide (x.Pid<=1000000))<;>rfl
 by_cases h2:x.Life=2
 ·simp only[h2]
  cases(decide (0<=x.Code)&&decide (x.Code<=255))<;>cases(x.Pid==0)<;>rfl
 by_cases h3:x.Life=3
 ·simp only[h3]
  cases(x.Code==0)<;>cases(x.Pid==0)<;>rfl
 ·have e1:(x.Life==1)=false:=by simp[h1]
  have e2:(x.Life==2)=false:=by simp[h2]
  have e3:(x.Life==3)=false:=by simp[h3]
  simp[e1,e2,e3,h1,h2,h3]
theorem pS_PaneOk_eq {fuel:Nat} {x:IPane} (ht:pS_TermOk fuel x.Term=some (termOkB x.Term b)):pS_PaneOk fuel x=some (paneOkB x b):=by
 unfold pS_PaneOk paneOkB lifeB
 have n1:decide (x.Id<1)= !decide (1<=x.Id):=by by_cases h:1<=x.Id<;>simp[h]<;>omega
 have n2:decide (1000000<x.Id)= !decide (x.Id<=1000000):=by by_cases h:x.Id<=1000000<;>simp[h]<;>omega
 have n3:decide (60<(x.Cmd.size:Int))= !decide ((x.Cmd.size:Int)<=60):=by by_cases h:(x.Cmd.size:Int)<=60<;>simp[h]<;>omega
 have n4:decide (60<(x.Dir.size:Int))= !decide ((x.Dir.size:Int)<=60):=by by_cases h:(x.Dir.size:Int)<=60<;>simp[h]<;>omega
 simp only[n1,n2,n3,n4,ht,bd_s,br_ss,br_pp]
 cases decide (1<=x.Id)<;>cases decide (x.Id<=1000000)<;>cases decide ((x.Cmd.size:Int)<=60)<;>cases decide ((x.Dir.size:Int)<=60)<;>cases termOkB x.Term b<;>try rfl
 by_cases h1:x.Life=1
 ·simp only[h1]
  cases decide (1<=x.Pid)<;>cases decide (x.Pid<=1000000)<;>rfl
 by_cases h2:x.Life=2
 ·simp only[h2]
  cases decide (0<=x.Code)<;>cases decide (x.Code<=255)<;>cases(x.Pid==0)<;>rfl
 by_cases h3:x.Life=3
 ·simp only[h3]
  cases(x.Code==0)<;>cases(x.Pid==0)<;>rfl
 ·have e1:(x.Life==1)=false:=by simp[h1]
  have e2:(x.Life==2)=false:=by simp[h2]
  have e3:(x.Life==3)=false:=by simp[h3]
  simp[e1,e2,e3,h1,h2,h3]
def runeBytes (r:Int):List UInt8:=
 if showsB r then(if r<128 then [UInt8.ofNat r.toNat]else if r<2048 then [UInt8.ofNat (192+r / 64).toNat,UInt8.ofNat (128+r % 64).toNat]
  else [UInt8.ofNat (224+r / 4096).toNat,UInt8.ofNat (128+r / 64 % 64).toNat,UInt8.ofNat (128+r % 64).toNat])else []
theorem showsB_iff (r:Int):showsB r=true↔(32<=r/\r<=126)∨(160<=r/\r<=65535/\(r<55296∨57343<r)):=by
 unfold showsB
 simp only[Bool.or_eq_true,Bool.and_eq_true,decide_eq_true_eq,Bool.not_eq_true',Bool.and_eq_false_iff,decide_eq_false_iff_not]
 omega
theorem u8wrap {v:Int} (h1:0<=v) (h2:v<=255):IntKind.u8.wrap v=v:=by
 show v % 256=v
 omega
theorem pS_RuneBytes_eq (fuel:Nat) (r:Int):pS_RuneBytes fuel r=some (runeBytes r):=by
 unfold pS_RuneBytes runeBytes
 simp only[pS_Shows_eq,bd_s]
 cases hs:showsB r with
 | false=>rfl
 | true=>
  have h:=(showsB_iff r).1 hs
  have e1:r.tdiv 64=r / 64:=Int.tdiv_eq_ediv_of_nonneg (by omega)
  have e2:r.tmod 64=r % 64:=Int.tmod_eq_emod_of_nonneg (by omega)
  have e3:r.tdiv 4096=r / 4096:=Int.tdiv_eq_ediv_of_nonneg (by omega)
  have e4:(r / 64).tmod 64=r / 64 % 64:=Int.tmod_eq_emod_of_nonneg (by omega)
  simp only[Bool.not_true,br_f,if_true,e1,e2,e3,e4]
  by_cases h1:r<128
  ·rw[qT1 h1,br_t,if_pos h1,u8wrap (by omega) (by omega)]
  rw[qF1 h1,br_f,if_neg h1]
  by_cases h2:r<2048
  ·rw[qT1 h2,br_t,if_pos h2,gd_t (by omega),gd_t (inK64 (by omega) (by omega)),gd_t (inK64 (by omega) (by omega)),gd_t (by omega),gd_t (inK64 (by omega) (by omega)),u8wrap (by omega) (by omega),u8wrap (by omega) (by omega)]
  rw[qF1 h2,br_f,if_neg h2,gd_t (by omega),gd_t (inK64 (by omega) (by omega)),gd_t (inK64 (by omega) (by omega)),gd_t (by omega),gd_t (inK64 (by omega) (by omega)),gd_t (by omega),gd_t (inK64 (by omega) (by omega)),gd_t (by omega),gd_t (inK64 (by omega) (by omega)),u8wrap (by omega) (by omega),u8wrap (by omega) (by omega),u8wrap (by omega) (by omega)]
def run1 (x:UInt8):Int:=x.toNat
def run2 (x y:UInt8):Int:=(x.toNat-192)*64+y.toNat-128
def run3 (x y z:UInt8):Int:=(((x.toNat:Int)-224)*64+y.toNat-128)*64+z.toNat-128
def runeRead:List UInt8->Int×Int
 | []=>(0,0)
 | x::t=>if runeBytes (run1 x)=[x]then(run1 x,1)else match t with
  | []=>(0,0)
  | y::t=>if runeBytes (run2 x y)=[x,y]then(run2 x y,2)else match t with
   | []=>(0,0)
   | z::_=>if runeBytes (run3 x y z)=[x,y,z]then(run3 x y z,3)else(0,0)
theorem u8_lt (x:UInt8):(x.toNat:Int)<256:=by
 have:=x.toNat_lt
 omega
theorem ofNat_eq {n:Nat} {x:UInt8} (h:n<256):UInt8.ofNat n=x↔n=x.toNat:=by
 constructor
 ·rintro rfl
  exact(UInt8.toNat_ofNat_of_lt' h).symm
 ·rintro rfl
  exact UInt8.ofNat_toNat
theorem run1_iff (x:UInt8):runeBytes (run1 x)=[x]↔32<=x.toNat/\x.toNat<=126:=by
 have hx:=u8_lt x
 unfold runeBytes run1
 cases hs:showsB x.toNat with
 | false=>
  have:=(not_congr (showsB_iff x.toNat)).1 (by rw[hs];simp)
  simp
  omega
 | true=>
  have:=(showsB_iff x.toNat).1 hs
  by_cases h1:(x.toNat:Int)<128
  ·simp[h1];omega
  ·simp[h1]
   split<;>simp<;>omega
theorem run2_iff (x y:UInt8):runeBytes (run2 x y)=[x,y]↔194<=x.toNat/\x.toNat<=223/\128<=y.toNat/\y.toNat<=191/\(x.toNat=194->160<=y.toNat):=by
 have hx:=u8_lt x
 have hy:=u8_lt y
 unfold runeBytes run2
 generalize hr:(x.toNat-192:Int)*64+y.toNat-128=r
 cases hs:showsB r with
 | false=>
  have:=(not_congr (showsB_iff r)).1 (by rw[hs];simp)
  simp
  omega
 | true=>
  have:=(showsB_iff r).1 hs
  by_cases h1:r<128
  ·simp[h1];omega
  by_cases h2:r<2048
  ·simp only[h1,h2,if_true,if_false,List.cons.injEq,and_true]
   rw[ofNat_eq (by omega),ofNat_eq (by omega)]
   omega
  ·simp[h1,h2];omega
theorem run3_iff (x y z:UInt8):runeBytes (run3 x y z)=[x,y,z]↔224<=x.toNat/\x.toNat<=239/\128<=y.toNat/\y.toNat<=191/\128<=z.toNat/\z.toNat<=191/\(x.toNat=224->160<=y.toNat)/\(x.toNat=237->y.toNat<160):=by
 have hx:=u8_lt x
 have hy:=u8_lt y
 have hz:=u8_lt z
 unfold runeBytes run3
 generalize hr:(((x.toNat:Int)-224)*64+y.toNat-128)*64+z.toNat-128=r
 cases hs:showsB r with
 | false=>
  have:=(not_congr (showsB_iff r)).1 (by rw[hs];simp)
  simp
  omega
 | true=>
  have:=(showsB_iff r).1 hs
  by_cases h1:r<128
  ·simp[h1];omega
  by_cases h2:r<2048
  ·simp[h1,h2];omega
  ·simp only[h1,h2,if_true,if_false,List.cons.injEq,and_true]
   rw[ofNat_eq (by omega),ofNat_eq (by omega),ofNat_eq (by omega)]
   omega
end Go.Px
