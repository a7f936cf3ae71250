/- What a call may hold, as plain values and a store: a small machine over them, the functions of this program as its contracts, and the plain laws: texts Uni0 to Px23. -/
import Derived.WalkKit
import Derived.Lib.Hide
import Derived.WalkSmall
import Derived.Deep.LoopGhost
import Derived.Orders
import Derived.Laws.Cells
import Derived.Laws.OwnMore
import Derived.Maps.AppendAt
set_option linter.unusedSimpArgs false
set_option linter.unusedVariables false
set_option linter.constructorNameAsVariable false
namespace Go.Px
variable {α:Type} {b cap d g i j m n off ver:Nat} {w w':World} {S S':Nat->Prop} {u:Value} {us xs:List Value} {L r wr:List Nat} {N N':Nat->List Nat} {J J':Nat->Option (Nat×Nat)} {o:Oper} {c:Code} {x y:Operand} {a:Int}
theorem qS1 {l:List α} {a:α}:l[i]?=some a↔∃h:i<l.length,l[i]=a:=List.getElem?_eq_some_iff
theorem qE1 {l:List α} (h:i<l.length):l[i]?=some l[i]:=List.getElem?_eq_getElem h
theorem qM1 {l:List α} {a:α} (h:l[i]?=some a):a∈l:=List.mem_of_getElem? h
theorem qF1 {p:Prop} [Decidable p] (h:¬p):decide p=false:=decide_eq_false h
theorem qT1 {p:Prop} [Decidable p] (h:p):decide p=true:=decide_eq_true h
open Go.RowKit
structure LVp where
 State:Int
 Mark:Bool
 Args:List Int
 Part:List UInt8
structure LAttr where
 Fg:Int
 Bg:Int
 Bold:Bool
 Under:Bool
 Turn:Bool
structure LCell where
 R:Int
 A:LAttr
structure LGrid where
 W:Int
 H:Int
 Cells:List LCell
structure LRow where
 Cells:List LCell
structure LScr where
 W:Int
 H:Int
 Main:LGrid
 Alt:LGrid
 OnAlt:Bool
 X:Int
 Y:Int
 Wrap:Bool
 A:LAttr
 Top:Int
 Bot:Int
 NoWrap:Bool
 Hide:Bool
 SaveX:Int
 SaveY:Int
 SaveA:LAttr
 Tabs:List Int
 Limit:Int
 Back:List LRow
structure LTerm where
 P:LVp
 S:LScr
structure LPane where
 Id:Int
 Cmd:ByteArray
 Dir:ByteArray
 Life:Int
 Code:Int
 Pid:Int
 Term:LTerm
structure LNode where
 Pane:Int
 Down:Bool
 First:Int
structure LWin where
 Id:Int
 Name:ByteArray
 Tree:List LNode
 Active:Int
 Zoom:Bool
structure LSess where
 Name:ByteArray
 Wins:List Int
 Active:Int
structure LState where
 W:Int
 H:Int
 Limit:Int
 Next:Int
 Panes:List LPane
 Wins:List LWin
 Sess:List LSess
structure LFile where
 Id:Int
 Body:List UInt8
 Safe:Int
structure LLink where
 Name:ByteArray
 Id:Int
structure LTurn where
 Kind:Int
 Name:ByteArray
 To:ByteArray
 Id:Int
structure LDisk where
 Room:Int
 Fuse:Int
 Next:Int
 Files:List LFile
 Kept:List LLink
 Turns:List LTurn
structure LDepot where
 Disk:LDisk
 Gen:Int
 Seq:Int
 Size:Int
 Stuck:Bool
structure LProc where
 Pid:Int
 Pane:Int
structure LAsk where
 Pane:Int
 Cmd:ByteArray
 Dir:ByteArray
 W:Int
 H:Int
 Pid:Int
structure LTable where
 Next:Int
 Live:List LProc
 Asked:List LAsk
structure LOp where
 Kind:Int
 A:Int
 B:Int
 C:Int
 Name:ByteArray
 Text:ByteArray
 Dir:ByteArray
 Data:List UInt8
structure LHist where
 Lost:Bool
 Op:LOp
structure LSrv where
 Base:LState
 Top:Int
 Up:Bool
 St:LState
 Dep:LDepot
 Disk:LDisk
 Tab:LTable
 Sure:Int
 Done:List LHist
structure IVp where
 State:Int
 Mark:Bool
 Args:List Int
 Part:List UInt8
structure IAttr where
 Fg:Int
 Bg:Int
 Bold:Bool
 Under:Bool
 Turn:Bool
structure ICell where
 R:Int
 A:IAttr
structure IGrid where
 W:Int
 H:Int
 Cells:List ICell
structure IRow where
 Cells:List ICell
structure IScr where
 W:Int
 H:Int
 Main:IGrid
 Alt:IGrid
 OnAlt:Bool
 X:Int
 Y:Int
 Wrap:Bool
 A:IAttr
 Top:Int
 Bot:Int
 NoWrap:Bool
 Hide:Bool
 SaveX:Int
 SaveY:Int
 SaveA:IAttr
 Tabs:List Int
 Limit:Int
 Back:List IRow
structure ITerm where
 P:IVp
 S:IScr
structure IPane where
 Id:Int
 Cmd:ByteArray
 Dir:ByteArray
 Life:Int
 Code:Int
 Pid:Int
 Term:ITerm
structure INode where
 Pane:Int
 Down:Bool
 First:Int
structure IWin where
 Id:Int
 Name:ByteArray
 Tree:List INode
 Active:Int
 Zoom:Bool
structure ISess where
 Name:ByteArray
 Wins:List Int
 Active:Int
structure IState where
 W:Int
 H:Int
 Limit:Int
 Next:Int
 Panes:List IPane
 Wins:List IWin
 Sess:List ISess
structure IFile where
 Id:Int
 Body:List UInt8
 Safe:Int
structure ILink where
 Name:ByteArray
 Id:Int
structure ITurn where
 Kind:Int
 Name:ByteArray
 To:ByteArray
 Id:Int
structure IDisk where
 Room:Int
 Fuse:Int
 Next:Int
 Files:List IFile
 Kept:List ILink
 Turns:List ITurn
structure IDepot where
 Disk:IDisk
 Gen:Int
 Seq:Int
 Size:Int
 Stuck:Bool
structure IProc where
 Pid:Int
 Pane:Int
structure IAsk where
 Pane:Int
 Cmd:ByteArray
 Dir:ByteArray
 W:Int
 H:Int
 Pid:Int
structure ITable where
 Next:Int
 Live:List IProc
 Asked:List IAsk
structure IOp where
 Kind:Int
 A:Int
 B:Int
 C:Int
 Name:ByteArray
 Text:ByteArray
 Dir:ByteArray
 Data:List UInt8
structure IHist where
 Lost:Bool
 Op:IOp
structure ISrv where
 Base:IState
 Top:Int
 Up:Bool
 St:IState
 Dep:IDepot
 Disk:IDisk
 Tab:ITable
 Sure:Int
 Done:List IHist
structure IRect where
 Pane:Int
 X:Int
 Y:Int
 W:Int
 H:Int
inductive K|int|bool|u8|str|iProc|iLink|iTurn|iAttr|lAttr|lLink|lTurn|lAsk|iCell|lProc|iAsk|iRect|iNode|lNode|lCell|lTable|iTable|iOp|iHist|lOp|lHist|iGrid|iFile|iVp|lVp|lGrid|lWin|lSess|lFile|iWin|iSess|iRow|lRow|lDisk|lDepot|iDisk|iDepot|iScr|iTerm|iPane|lScr|lTerm|lPane|lState|lSrv|iState|iSrv
deriving DecidableEq
variable {k k':K}
abbrev ty:K->Type
 | .int=>Int
 | .bool=>Bool
 | .u8=>UInt8
 | .str=>ByteArray
 | .iProc=>IProc
 | .iLink=>ILink
 | .iTurn=>ITurn
 | .iAttr=>IAttr
 | .lAttr=>LAttr
 | .lLink=>LLink
 | .lTurn=>LTurn
 | .lAsk=>LAsk
 | .iCell=>ICell
 | .lProc=>LProc
 | .iAsk=>IAsk
 | .iRect=>IRect
 | .iNode=>INode
 | .lNode=>LNode
 | .lCell=>LCell
 | .lTable=>LTable
 | .iTable=>ITable
 | .iOp=>IOp
 | .iHist=>IHist
 | .lOp=>LOp
 | .lHist=>LHist
 | .iGrid=>IGrid
 | .iFile=>IFile
 | .iVp=>IVp
 | .lVp=>LVp
 | .lGrid=>LGrid
 | .lWin=>LWin
 | .lSess=>LSess
 | .lFile=>LFile
 | .iWin=>IWin
 | .iSess=>ISess
 | .iRow=>IRow
 | .lRow=>LRow
 | .lDisk=>LDisk
 | .lDepot=>LDepot
 | .iDisk=>IDisk
 | .iDepot=>IDepot
 | .iScr=>IScr
 | .iTerm=>ITerm
 | .iPane=>IPane
 | .lScr=>LScr
 | .lTerm=>LTerm
 | .lPane=>LPane
 | .lState=>LState
 | .lSrv=>LSrv
 | .iState=>IState
 | .iSrv=>ISrv
inductive Leaf where
 | sc (v:Value)
 | nest (k:K) (l:List (ty k))
inductive LeafI where
 | sc (v:Value)
 | nest (k:K) (l:List (ty k))
 | nl
def size:K->Nat
 | .int=>1
 | .bool=>1
 | .u8=>1
 | .str=>1
 | .iProc=>2
 | .iLink=>2
 | .iTurn=>4
 | .iAttr=>5
 | .lAttr=>5
 | .lLink=>2
 | .lTurn=>4
 | .lAsk=>6
 | .iCell=>6
 | .lProc=>2
 | .iAsk=>6
 | .iRect=>5
 | .iNode=>3
 | .lNode=>3
 | .lCell=>6
 | .lTable=>3
 | .iTable=>3
 | .iOp=>8
 | .iHist=>9
 | .lOp=>8
 | .lHist=>9
 | .iGrid=>3
 | .iFile=>3
 | .iVp=>4
 | .lVp=>4
 | .lGrid=>3
 | .lWin=>5
 | .lSess=>3
 | .lFile=>3
 | .iWin=>5
 | .iSess=>3
 | .iRow=>1
 | .lRow=>1
 | .lDisk=>6
 | .lDepot=>10
 | .iDisk=>6
 | .iDepot=>10
 | .iScr=>31
 | .iTerm=>35
 | .iPane=>41
 | .lScr=>31
 | .lTerm=>35
 | .lPane=>41
 | .lState=>7
 | .lSrv=>37
 | .iState=>7
 | .iSrv=>37
def rank:K->Nat
 | .int=>0
 | .bool=>0
 | .u8=>0
 | .str=>0
 | .iProc=>0
 | .iLink=>0
 | .iTurn=>0
 | .iAttr=>0
 | .lAttr=>0
 | .lLink=>0
 | .lTurn=>0
 | .lAsk=>0
 | .iCell=>0
 | .lProc=>0
 | .iAsk=>0
 | .iRect=>0
 | .iNode=>0
 | .lNode=>0
 | .lCell=>0
 | .lTable=>1
 | .iTable=>1
 | .iOp=>1
 | .iHist=>1
 | .lOp=>1
 | .lHist=>1
 | .iGrid=>1
 | .iFile=>1
 | .iVp=>1
 | .lVp=>1
 | .lGrid=>1
 | .lWin=>1
 | .lSess=>1
 | .lFile=>1
 | .iWin=>1
 | .iSess=>1
 | .iRow=>1
 | .lRow=>1
 | .lDisk=>2
 | .lDepot=>2
 | .iDisk=>2
 | .iDepot=>2
 | .iScr=>2
 | .iTerm=>2
 | .iPane=>2
 | .lScr=>2
 | .lTerm=>2
 | .lPane=>2
 | .lState=>3
 | .lSrv=>3
 | .iState=>3
 | .iSrv=>3
def tid:K->TypeId
 | .int=>3
 | .bool=>4
 | .u8=>5
 | .str=>9
 | .iProc=>126
 | .iLink=>139
 | .iTurn=>142
 | .iAttr=>161
 | .lAttr=>197
 | .lLink=>215
 | .lTurn=>217
 | .lAsk=>220
 | .iCell=>223
 | .lProc=>246
 | .iAsk=>247
 | .iRect=>254
 | .iNode=>286
 | .lNode=>320
 | .lCell=>395
 | .lTable=>37
 | .iTable=>58
 | .iOp=>79
 | .iHist=>81
 | .lOp=>116
 | .lHist=>118
 | .iGrid=>121
 | .iFile=>137
 | .iVp=>159
 | .lVp=>193
 | .lGrid=>196
 | .lWin=>208
 | .lSess=>211
 | .lFile=>213
 | .iWin=>227
 | .iSess=>232
 | .iRow=>311
 | .lRow=>375
 | .lDisk=>31
 | .lDepot=>33
 | .iDisk=>52
 | .iDepot=>54
 | .iScr=>164
 | .iTerm=>166
 | .iPane=>168
 | .lScr=>200
 | .lTerm=>202
 | .lPane=>204
 | .lState=>26
 | .lSrv=>40
 | .iState=>47
 | .iSrv=>61
def byt:K->Nat
 | .int=>8
 | .bool=>1
 | .u8=>1
 | .str=>16
 | .iProc=>16
 | .iLink=>24
 | .iTurn=>48
 | .iAttr=>24
 | .lAttr=>24
 | .lLink=>24
 | .lTurn=>48
 | .lAsk=>64
 | .iCell=>32
 | .lProc=>16
 | .iAsk=>64
 | .iRect=>40
 | .iNode=>24
 | .lNode=>24
 | .lCell=>32
 | .lTable=>56
 | .iTable=>56
 | .iOp=>104
 | .iHist=>112
 | .lOp=>104
 | .lHist=>112
 | .iGrid=>40
 | .iFile=>40
 | .iVp=>64
 | .lVp=>64
 | .lGrid=>40
 | .lWin=>64
 | .lSess=>48
 | .lFile=>40
 | .iWin=>64
 | .iSess=>48
 | .iRow=>24
 | .lRow=>24
 | .lDisk=>96
 | .lDepot=>128
 | .iDisk=>96
 | .iDepot=>128
 | .iScr=>272
 | .iTerm=>336
 | .iPane=>400
 | .lScr=>272
 | .lTerm=>336
 | .lPane=>400
 | .lState=>104
 | .lSrv=>536
 | .iState=>104
 | .iSrv=>536
abbrev sI (n:Int):Leaf:= .sc (.int .i64 n)
abbrev sB (n:Bool):Leaf:= .sc (.bool n)
abbrev sS (n:ByteArray):Leaf:= .sc (.string n)
def leaves: {k:K}->ty k->List Leaf
 | .int,x=> [sI x]
 | .bool,x=> [sB x]
 | .u8,x=> [.sc (.int .u8 x.toNat)]
 | .str,x=> [sS x]
 | .iProc,x=> [sI x.Pid,sI x.Pane]
 | .iLink,x=> [sS x.Name,sI x.Id]
 | .iTurn,x=> [sI x.Kind,sS x.Name,sS x.To,sI x.Id]
 | .iAttr,x=> [sI x.Fg,sI x.Bg,sB x.Bold,sB x.Under,sB x.Turn]
 | .lAttr,x=> [sI x.Fg,sI x.Bg,sB x.Bold,sB x.Under,sB x.Turn]
 | .lLink,x=> [sS x.Name,sI x.Id]
 | .lTurn,x=> [sI x.Kind,sS x.Name,sS x.To,sI x.Id]
 | .lAsk,x=> [sI x.Pane,sS x.Cmd,sS x.Dir,sI x.W,sI x.H,sI x.Pid]
 | .iCell,x=> [sI x.R,sI x.A.Fg,sI x.A.Bg,sB x.A.Bold,sB x.A.Under,sB x.A.Turn]
 | .lProc,x=> [sI x.Pid,sI x.Pane]
 | .iAsk,x=> [sI x.Pane,sS x.Cmd,sS x.Dir,sI x.W,sI x.H,sI x.Pid]
 | .iRect,x=> [sI x.Pane,sI x.X,sI x.Y,sI x.W,sI x.H]
 | .iNode,x=> [sI x.Pane,sB x.Down,sI x.First]
 | .lNode,x=> [sI x.Pane,sB x.Down,sI x.First]
 | .lCell,x=> [sI x.R,sI x.A.Fg,sI x.A.Bg,sB x.A.Bold,sB x.A.Under,sB x.A.Turn]
 | .lTable,x=> [sI x.Next,.nest .lProc x.Live,.nest .lAsk x.Asked]
 | .iTable,x=> [sI x.Next,.nest .iProc x.Live,.nest .iAsk x.Asked]
 | .iOp,x=> [sI x.Kind,sI x.A,sI x.B,sI x.C,sS x.Name,sS x.Text,sS x.Dir,.nest .u8 x.Data]
 | .iHist,x=> [sB x.Lost,sI x.Op.Kind,sI x.Op.A,sI x.Op.B,sI x.Op.C,sS x.Op.Name,sS x.Op.Text,sS x.Op.Dir,.nest .u8 x.Op.Data]
 | .lOp,x=> [sI x.Kind,sI x.A,sI x.B,sI x.C,sS x.Name,sS x.Text,sS x.Dir,.nest .u8 x.Data]
 | .lHist,x=> [sB x.Lost,sI x.Op.Kind,sI x.Op.A,sI x.Op.B,sI x.Op.C,sS x.Op.Name,sS x.Op.Text,sS x.Op.Dir,.nest .u8 x.Op.Data]
 | .iGrid,x=> [sI x.W,sI x.H,.nest .iCell x.Cells]
 | .iFile,x=> [sI x.Id,.nest .u8 x.Body,sI x.Safe]
 | .iVp,x=> [sI x.State,sB x.Mark,.nest .int x.Args,.nest .u8 x.Part]
 | .lVp,x=> [sI x.State,sB x.Mark,.nest .int x.Args,.nest .u8 x.Part]
 | .lGrid,x=> [sI x.W,sI x.H,.nest .lCell x.Cells]
 | .lWin,x=> [sI x.Id,sS x.Name,.nest .lNode x.Tree,sI x.Active,sB x.Zoom]
 | .lSess,x=> [sS x.Name,.nest .int x.Wins,sI x.Active]
 | .lFile,x=> [sI x.Id,.nest .u8 x.Body,sI x.Safe]
 | .iWin,x=> [sI x.Id,sS x.Name,.nest .iNode x.Tree,sI x.Active,sB x.Zoom]
 | .iSess,x=> [sS x.Name,.nest .int x.Wins,sI x.Active]
 | .iRow,x=> [.nest .iCell x.Cells]
 | .lRow,x=> [.nest .lCell x.Cells]
 | .lDisk,x=> [sI x.Room,sI x.Fuse,sI x.Next,.nest .lFile x.Files,.nest .lLink x.Kept,.nest .lTurn x.Turns]
 | .lDepot,x=> [sI x.Disk.Room,sI x.Disk.Fuse,sI x.Disk.Next,.nest .lFile x.Disk.Files,.nest .lLink x.Disk.Kept,.nest .lTurn x.Disk.Turns,sI x.Gen,sI x.Seq,sI x.Size,sB x.Stuck]
 | .iDisk,x=> [sI x.Room,sI x.Fuse,sI x.Next,.nest .iFile x.Files,.nest .iLink x.Kept,.nest .iTurn x.Turns]
 | .iDepot,x=> [sI x.Disk.Room,sI x.Disk.Fuse,sI x.Disk.Next,.nest .iFile x.Disk.Files,.nest .iLink x.Disk.Kept,.nest .iTurn x.Disk.Turns,sI x.Gen,sI x.Seq,sI x.Size,sB x.Stuck]
 | .iScr,x=> [sI x.W,sI x.H,sI x.Main.W,sI x.Main.H,.nest .iCell x.Main.Cells,sI x.Alt.W,sI x.Alt.H,.nest .iCell x.Alt.Cells,sB x.OnAlt,sI x.X,sI x.Y,sB x.Wrap,sI x.A.Fg,sI x.A.Bg,sB x.A.Bold,sB x.A.Under,sB x.A.Turn,sI x.Top,sI x.Bot,sB x.NoWrap,sB x.Hide,sI x.SaveX,sI x.SaveY,sI x.SaveA.Fg,sI x.SaveA.Bg,sB x.SaveA.Bold,sB x.SaveA.Under,sB x.SaveA.Turn,.nest .int x.Tabs,sI x.Limit,.nest .iRow x.Back]
 | .iTerm,x=> [sI x.P.State,sB x.P.Mark,.nest .int x.P.Args,.nest .u8 x.P.Part,sI x.S.W,sI x.S.H,sI x.S.Main.W,sI x.S.Main.H,.nest .iCell x.S.Main.Cells,sI x.S.Alt.W,sI x.S.Alt.H,.nest .iCell x.S.Alt.Cells,sB x.S.OnAlt,sI x.S.X,sI x.S.Y,sB x.S.Wrap,sI x.S.A.Fg,sI x.S.A.Bg,sB x.S.A.Bold,sB x.S.A.Under,sB x.S.A.Turn,sI x.S.Top,sI x.S.Bot,sB x.S.NoWrap,sB x.S.Hide,sI x.S.SaveX,sI x.S.SaveY,sI x.S.SaveA.Fg,sI x.S.SaveA.Bg,sB x.S.SaveA.Bold,sB x.S.SaveA.Under,sB x.S.SaveA.Turn,.nest .int x.S.Tabs,sI x.S.Limit,.nest .iRow x.S.Back]
 | .iPane,x=> [sI x.Id,sS x.Cmd,sS x.Dir,sI x.Life,sI x.Code,sI x.Pid,sI x.Term.P.State,sB x.Term.P.Mark,.nest .int x.Term.P.Args,.nest .u8 x.Term.P.Part,sI x.Term.S.W,sI x.Term.S.H,sI x.Term.S.Main.W,sI x.Term.S.Main.H,.nest .iCell x.Term.S.Main.Cells,sI x.Term.S.Alt.W,sI x.Term.S.Alt.H,.nest .iCell x.Term.S.Alt.Cells,sB x.Term.S.OnAlt,sI x.Term.S.X,sI x.Term.S.Y,sB x.Term.S.Wrap,sI x.Term.S.A.Fg,sI x.Term.S.A.Bg,sB x.Term.S.A.Bold,sB x.Term.S.A.Under,sB x.Term.S.A.Turn,sI x.Term.S.Top,sI x.Term.S.Bot,sB x.Term.S.NoWrap,sB x.Term.S.Hide,sI x.Term.S.SaveX,sI x.Term.S.SaveY,sI x.Term.S.SaveA.Fg,sI x.Term.S.SaveA.Bg,sB x.Term.S.SaveA.Bold,sB x.Term.S.SaveA.Under,sB x.Term.S.SaveA.Turn,.nest .int x.Term.S.Tabs,sI x.Term.S.Limit,.nest .iRow x.Term.S.Back]
 | .lScr,x=> [sI x.W,sI x.H,sI x.Main.W,sI x.Main.H,.nest .lCell x.Main.Cells,sI x.Alt.W,sI x.Alt.H,.nest .lCell x.Alt.Cells,sB x.OnAlt,sI x.X,sI x.Y,sB x.Wrap,sI x.A.Fg,sI x.A.Bg,sB x.A.Bold,sB x.A.Under,sB x.A.Turn,sI x.Top,sI x.Bot,sB x.NoWrap,sB x.Hide,sI x.SaveX,sI x.SaveY,sI x.SaveA.Fg,sI x.SaveA.Bg,sB x.SaveA.Bold,sB x.SaveA.Under,sB x.SaveA.Turn,.nest .int x.Tabs,sI x.Limit,.nest .lRow x.Back]
 | .lTerm,x=> [sI x.P.State,sB x.P.Mark,.nest .int x.P.Args,.nest .u8 x.P.Part,sI x.S.W,sI x.S.H,sI x.S.Main.W,sI x.S.Main.H,.nest .lCell x.S.Main.Cells,sI x.S.Alt.W,sI x.S.Alt.H,.nest .lCell x.S.Alt.Cells,sB x.S.OnAlt,sI x.S.X,sI x.S.Y,sB x.S.Wrap,sI x.S.A.Fg,sI x.S.A.Bg,sB x.S.A.Bold,sB x.S.A.Under,sB x.S.A.Turn,sI x.S.Top,sI x.S.Bot,sB x.S.NoWrap,sB x.S.Hide,sI x.S.SaveX,sI x.S.SaveY,sI x.S.SaveA.Fg,sI x.S.SaveA.Bg,sB x.S.SaveA.Bold,sB x.S.SaveA.Under,sB x.S.SaveA.Turn,.nest .int x.S.Tabs,sI x.S.Limit,.nest .lRow x.S.Back]
 | .lPane,x=> [sI x.Id,sS x.Cmd,sS x.Dir,sI x.Life,sI x.Code,sI x.Pid,sI x.Term.P.State,sB x.Term.P.Mark,.nest .int x.Term.P.Args,.nest .u8 x.Term.P.Part,sI x.Term.S.W,sI x.Term.S.H,sI x.Term.S.Main.W,sI x.Term.S.Main.H,.nest .lCell x.Term.S.Main.Cells,sI x.Term.S.Alt.W,sI x.Term.S.Alt.H,.nest .lCell x.Term.S.Alt.Cells,sB x.Term.S.OnAlt,sI x.Term.S.X,sI x.Term.S.Y,sB x.Term.S.Wrap,sI x.Term.S.A.Fg,sI x.Term.S.A.Bg,sB x.Term.S.A.Bold,sB x.Term.S.A.Under,sB x.Term.S.A.Turn,sI x.Term.S.Top,sI x.Term.S.Bot,sB x.Term.S.NoWrap,sB x.Term.S.Hide,sI x.Term.S.SaveX,sI x.Term.S.SaveY,sI x.Term.S.SaveA.Fg,sI x.Term.S.SaveA.Bg,sB x.Term.S.SaveA.Bold,sB x.Term.S.SaveA.Under,sB x.Term.S.SaveA.Turn,.nest .int x.Term.S.Tabs,sI x.Term.S.Limit,.nest .lRow x.Term.S.Back]
 | .lState,x=> [sI x.W,sI x.H,sI x.Limit,sI x.Next,.nest .lPane x.Panes,.nest .lWin x.Wins,.nest .lSess x.Sess]
 | .lSrv,x=> [sI x.Base.W,sI x.Base.H,sI x.Base.Limit,sI x.Base.Next,.nest .lPane x.Base.Panes,.nest .lWin x.Base.Wins,.nest .lSess x.Base.Sess,sI x.Top,sB x.Up,sI x.St.W,sI x.St.H,sI x.St.Limit,sI x.St.Next,.nest .lPane x.St.Panes,.nest .lWin x.St.Wins,.nest .lSess x.St.Sess,sI x.Dep.Disk.Room,sI x.Dep.Disk.Fuse,sI x.Dep.Disk.Next,.nest .lFile x.Dep.Disk.Files,.nest .lLink x.Dep.Disk.Kept,.nest .lTurn x.Dep.Disk.Turns,sI x.Dep.Gen,sI x.Dep.Seq,sI x.Dep.Size,sB x.Dep.Stuck,sI x.Disk.Room,sI x.Disk.Fuse,sI x.Disk.Next,.nest .lFile x.Disk.Files,.nest .lLink x.Disk.Kept,.nest .lTurn x.Disk.Turns,sI x.Tab.Next,.nest .lProc x.Tab.Live,.nest .lAsk x.Tab.Asked,sI x.Sure,.nest .lHist x.Done]
 | .iState,x=> [sI x.W,sI x.H,sI x.Limit,sI x.Next,.nest .iPane x.Panes,.nest .iWin x.Wins,.nest .iSess x.Sess]
 | .iSrv,x=> [sI x.Base.W,sI x.Base.H,sI x.Base.Limit,sI x.Base.Next,.nest .iPane x.Base.Panes,.nest .iWin x.Base.Wins,.nest .iSess x.Base.Sess,sI x.Top,sB x.Up,sI x.St.W,sI x.St.H,sI x.St.Limit,sI x.St.Next,.nest .iPane x.St.Panes,.nest .iWin x.St.Wins,.nest .iSess x.St.Sess,sI x.Dep.Disk.Room,sI x.Dep.Disk.Fuse,sI x.Dep.Disk.Next,.nest .iFile x.Dep.Disk.Files,.nest .iLink x.Dep.Disk.Kept,.nest .iTurn x.Dep.Disk.Turns,sI x.Dep.Gen,sI x.Dep.Seq,sI x.Dep.Size,sB x.Dep.Stuck,sI x.Disk.Room,sI x.Disk.Fuse,sI x.Disk.Next,.nest .iFile x.Disk.Files,.nest .iLink x.Disk.Kept,.nest .iTurn x.Disk.Turns,sI x.Tab.Next,.nest .iProc x.Tab.Live,.nest .iAsk x.Tab.Asked,sI x.Sure,.nest .iHist x.Done]
theorem leaves_len:∀{k:K} (x:ty k),(leaves x).length=size k
 | .int,_| .bool,_| .u8,_| .str,_| .iProc,_| .iLink,_| .iTurn,_| .iAttr,_| .lAttr,_| .lLink,_| .lTurn,_| .lAsk,_| .iCell,_| .lProc,_| .iAsk,_| .iRect,_| .iNode,_| .lNode,_| .lCell,_| .lTable,_| .iTable,_| .iOp,_| .iHist,_| .lOp,_| .lHist,_| .iGrid,_| .iFile,_| .iVp,_| .lVp,_| .lGrid,_| .lWin,_| .lSess,_| .lFile,_| .iWin,_| .iSess,_| .iRow,_| .lRow,_| .lDisk,_| .lDepot,_| .iDisk,_| .iDepot,_| .iScr,_| .iTerm,_| .iPane,_| .lScr,_| .lTerm,_| .lPane,_| .lState,_| .lSrv,_| .iState,_| .iSrv,_=>rfl
theorem size_pos:∀k,0<size k| .int| .bool| .u8| .str| .iProc| .iLink| .iTurn| .iAttr| .lAttr| .lLink| .lTurn| .lAsk| .iCell| .lProc| .iAsk| .iRect| .iNode| .lNode| .lCell| .lTable| .iTable| .iOp| .iHist| .lOp| .lHist| .iGrid| .iFile| .iVp| .lVp| .lGrid| .lWin| .lSess| .lFile| .iWin| .iSess| .iRow| .lRow| .lDisk| .lDepot| .iDisk| .iDepot| .iScr| .iTerm| .iPane| .lScr| .lTerm| .lPane| .lState| .lSrv| .iState| .iSrv=>by decide
def isNest:Leaf->Option K
 | .sc _=>none
 | .nest k _=>some k
theorem rank_lt:∀{k:K} (x:ty k) (j:Nat) (k':K) (l:List (ty k')),(leaves x)[j]?=some (.nest k' l)->rank k'<rank k:=by
 intro k x j k' l h
 have h2:((leaves x).map isNest)[j]?=some (some k'):=by rw[List.getElem?_map,h];rfl
 have h3:some k'∈(leaves x).map isNest:=qM1 h2
 cases k<;>simp only[leaves,isNest,List.map_cons,List.map_nil,List.mem_cons,List.not_mem_nil,or_false,reduceCtorEq,false_or,Option.some.injEq]at h3
 all_goals (first|(rcases h3 with h3|h3|h3|h3|h3|h3|h3|h3|h3|h3|h3|h3|h3|h3|h3|h3<;>subst h3<;>decide)|(rcases h3 with h3|h3|h3|h3|h3|h3|h3|h3|h3|h3|h3|h3|h3|h3|h3<;>subst h3<;>decide)|(rcases h3 with h3|h3|h3|h3|h3|h3|h3|h3|h3|h3|h3|h3|h3|h3<;>subst h3<;>decide)|(rcases h3 with h3|h3|h3|h3|h3|h3|h3|h3|h3|h3|h3|h3|h3<;>subst h3<;>decide)|(rcases h3 with h3|h3|h3|h3|h3|h3|h3|h3|h3|h3|h3|h3<;>subst h3<;>decide)|(rcases h3 with h3|h3|h3|h3|h3|h3|h3|h3|h3|h3|h3<;>subst h3<;>decide)|(rcases h3 with h3|h3|h3|h3|h3|h3|h3|h3|h3|h3<;>subst h3<;>decide)|(rcases h3 with h3|h3|h3|h3|h3|h3|h3|h3|h3<;>subst h3<;>decide)|(rcases h3 with h3|h3|h3|h3|h3|h3|h3|h3<;>subst h3<;>decide)|(rcases h3 with h3|h3|h3|h3|h3|h3|h3<;>subst h3<;>decide)|(rcases h3 with h3|h3|h3|h3|h3|h3<;>subst h3<;>decide)|(rcases h3 with h3|h3|h3|h3|h3<;>subst h3<;>decide)|(rcases h3 with h3|h3|h3|h3<;>subst h3<;>decide)|(rcases h3 with h3|h3|h3<;>subst h3<;>decide)|(rcases h3 with h3|h3<;>subst h3<;>decide)|(subst h3;decide))
def flat:K->Bool
 | .int=>true
 | .bool=>true
 | .u8=>true
 | .str=>true
 | .iProc=>true
 | .iLink=>true
 | .iTurn=>true
 | .iAttr=>true
 | .lAttr=>true
 | .lLink=>true
 | .lTurn=>true
 | .lAsk=>true
 | .iCell=>true
 | .lProc=>true
 | .iAsk=>true
 | .iRect=>true
 | .iNode=>true
 | .lNode=>true
 | .lCell=>true
 | .lTable=>false
 | .iTable=>false
 | .iOp=>false
 | .iHist=>false
 | .lOp=>false
 | .lHist=>false
 | .iGrid=>false
 | .iFile=>false
 | .iVp=>false
 | .lVp=>false
 | .lGrid=>false
 | .lWin=>false
 | .lSess=>false
 | .lFile=>false
 | .iWin=>false
 | .iSess=>false
 | .iRow=>false
 | .lRow=>false
 | .lDisk=>false
 | .lDepot=>false
 | .iDisk=>false
 | .iDepot=>false
 | .iScr=>false
 | .iTerm=>false
 | .iPane=>false
 | .lScr=>false
 | .lTerm=>false
 | .lPane=>false
 | .lState=>false
 | .lSrv=>false
 | .iState=>false
 | .iSrv=>false
theorem flat_sc:∀{k:K},flat k=true->∀(x:ty k) (lf:Leaf),lf∈leaves x->∃v,lf= .sc v:=by
 intro k hk x lf h
 have h2:((leaves x).map isNest).all (·.isNone)=true:=by cases k<;>first|rfl|cases hk
 have h3:=List.all_eq_true.1 h2 _ (List.mem_map.2 ⟨lf,h,rfl⟩)
 cases lf with
 | sc v=>exact⟨v,rfl⟩
 | nest k l=>cases h3
def LeafI.list (k:K):LeafI->Option (List (ty k))
 | .nest k' l=>if h:k'=k then some (h▸l)else none
 | .nl=>some []
 | .sc _=>none
def LeafI.int (k:IntKind):LeafI->Option Int| .sc (.int k' n)=>if k'=k then some n else none|_=>none
def LeafI.u8:LeafI->Option UInt8| .sc (.int .u8 n)=>some (UInt8.ofNat n.toNat)|_=>none
def LeafI.str:LeafI->Option ByteArray| .sc (.string n)=>some n|_=>none
def LeafI.bool:LeafI->Option Bool| .sc (.bool n)=>some n|_=>none
def of_int:List LeafI->Option (ty .int)
 | c0:: []=>(c0.int .i64).bind fun vc0=>some (vc0:ty .int)
 | _=>none
def of_bool:List LeafI->Option (ty .bool)
 | c0:: []=>(c0.bool).bind fun vc0=>some (vc0:ty .bool)
 | _=>none
def of_u8:List LeafI->Option (ty .u8)
 | c0:: []=>(c0.u8).bind fun vc0=>some (vc0:ty .u8)
 | _=>none
def of_str:List LeafI->Option (ty .str)
 | c0:: []=>(c0.str).bind fun vc0=>some (vc0:ty .str)
 | _=>none
def of_iProc:List LeafI->Option (ty .iProc)
 | c0::c1:: []=>(c0.int .i64).bind fun vc0=>(c1.int .i64).bind fun vc1=>some (⟨vc0,vc1⟩:ty .iProc)
 | _=>none
def of_iLink:List LeafI->Option (ty .iLink)
 | c0::c1:: []=>(c0.str).bind fun vc0=>(c1.int .i64).bind fun vc1=>some (⟨vc0,vc1⟩:ty .iLink)
 | _=>none
def of_iTurn:List LeafI->Option (ty .iTurn)
 | c0::c1::c2::c3:: []=>(c0.int .i64).bind fun vc0=>(c1.str).bind fun vc1=>(c2.str).bind fun vc2=>(c3.int .i64).bind fun vc3=>some (⟨vc0,vc1,vc2,vc3⟩:ty .iTurn)
 | _=>none
def of_iAttr:List LeafI->Option (ty .iAttr)
 | c0::c1::c2::c3::c4:: []=>(c0.int .i64).bind fun vc0=>(c1.int .i64).bind fun vc1=>(c2.bool).bind fun vc2=>(c3.bool).bind fun vc3=>(c4.bool).bind fun vc4=>some (⟨vc0,vc1,vc2,vc3,vc4⟩:ty .iAttr)
 | _=>none
def of_lAttr:List LeafI->Option (ty .lAttr)
 | c0::c1::c2::c3::c4:: []=>(c0.int .i64).bind fun vc0=>(c1.int .i64).bind fun vc1=>(c2.bool).bind fun vc2=>(c3.bool).bind fun vc3=>(c4.bool).bind fun vc4=>some (⟨vc0,vc1,vc2,vc3,vc4⟩:ty .lAttr)
 | _=>none
def of_lLink:List LeafI->Option (ty .lLink)
 | c0::c1:: []=>(c0.str).bind fun vc0=>(c1.int .i64).bind fun vc1=>some (⟨vc0,vc1⟩:ty .lLink)
 | _=>none
def of_lTurn:List LeafI->Option (ty .lTurn)
 | c0::c1::c2::c3:: []=>(c0.int .i64).bind fun vc0=>(c1.str).bind fun vc1=>(c2.str).bind fun vc2=>(c3.int .i64).bind fun vc3=>some (⟨vc0,vc1,vc2,vc3⟩:ty .lTurn)
 | _=>none
def of_lAsk:List LeafI->Option (ty .lAsk)
 | c0::c1::c2::c3::c4::c5:: []=>(c0.int .i64).bind fun vc0=>(c1.str).bind fun vc1=>(c2.str).bind fun vc2=>(c3.int .i64).bind fun vc3=>(c4.int .i64).bind fun vc4=>(c5.int .i64).bind fun vc5=>some (⟨vc0,vc1,vc2,vc3,vc4,vc5⟩:ty .lAsk)
 | _=>none
def of_iCell:List LeafI->Option (ty .iCell)
 | c0::c1::c2::c3::c4::c5:: []=>(c0.int .i64).bind fun vc0=>(c1.int .i64).bind fun vc1=>(c2.int .i64).bind fun vc2=>(c3.bool).bind fun vc3=>(c4.bool).bind fun vc4=>(c5.bool).bind fun vc5=>some (⟨vc0,⟨vc1,vc2,vc3,vc4,vc5⟩⟩:ty .iCell)
 | _=>none
def of_lProc:List LeafI->Option (ty .lProc)
 | c0::c1:: []=>(c0.int .i64).bind fun vc0=>(c1.int .i64).bind fun vc1=>some (⟨vc0,vc1⟩:ty .lProc)
 | _=>none
def of_iAsk:List LeafI->Option (ty .iAsk)
 | c0::c1::c2::c3::c4::c5:: []=>(c0.int .i64).bind fun vc0=>(c1.str).bind fun vc1=>(c2.str).bind fun vc2=>(c3.int .i64).bind fun vc3=>(c4.int .i64).bind fun vc4=>(c5.int .i64).bind fun vc5=>some (⟨vc0,vc1,vc2,vc3,vc4,vc5⟩:ty .iAsk)
 | _=>none
def of_iRect:List LeafI->Option (ty .iRect)
 | c0::c1::c2::c3::c4:: []=>(c0.int .i64).bind fun vc0=>(c1.int .i64).bind fun vc1=>(c2.int .i64).bind fun vc2=>(c3.int .i64).bind fun vc3=>(c4.int .i64).bind fun vc4=>some (⟨vc0,vc1,vc2,vc3,vc4⟩:ty .iRect)
 | _=>none
def of_iNode:List LeafI->Option (ty .iNode)
 | c0::c1::c2:: []=>(c0.int .i64).bind fun vc0=>(c1.bool).bind fun vc1=>(c2.int .i64).bind fun vc2=>some (⟨vc0,vc1,vc2⟩:ty .iNode)
 | _=>none
def of_lNode:List LeafI->Option (ty .lNode)
 | c0::c1::c2:: []=>(c0.int .i64).bind fun vc0=>(c1.bool).bind fun vc1=>(c2.int .i64).bind fun vc2=>some (⟨vc0,vc1,vc2⟩:ty .lNode)
 | _=>none
def of_lCell:List LeafI->Option (ty .lCell)
 | c0::c1::c2::c3::c4::c5:: []=>(c0.int .i64).bind fun vc0=>(c1.int .i64).bind fun vc1=>(c2.int .i64).bind fun vc2=>(c3.bool).bind fun vc3=>(c4.bool).bind fun vc4=>(c5.bool).bind fun vc5=>some (⟨vc0,⟨vc1,vc2,vc3,vc4,vc5⟩⟩:ty .lCell)
 | _=>none
def of_lTable:List LeafI->Option (ty .lTable)
 | c0::c1::c2:: []=>(c0.int .i64).bind fun vc0=>(c1.list .lProc).bind fun vc1=>(c2.list .lAsk).bind fun vc2=>some (⟨vc0,vc1,vc2⟩:ty .lTable)
 | _=>none
def of_iTable:List LeafI->Option (ty .iTable)
 | c0::c1::c2:: []=>(c0.int .i64).bind fun vc0=>(c1.list .iProc).bind fun vc1=>(c2.list .iAsk).bind fun vc2=>some (⟨vc0,vc1,vc2⟩:ty .iTable)
 | _=>none
def of_iOp:List LeafI->Option (ty .iOp)
 | c0::c1::c2::c3::c4::c5::c6::c7:: []=>(c0.int .i64).bind fun vc0=>(c1.int .i64).bind fun vc1=>(c2.int .i64).bind fun vc2=>(c3.int .i64).bind fun vc3=>(c4.str).bind fun vc4=>(c5.str).bind fun vc5=>(c6.str).bind fun vc6=>(c7.list .u8).bind fun vc7=>some (⟨vc0,vc1,vc2,vc3,vc4,vc5,vc6,vc7⟩:ty .iOp)
 | _=>none
def of_iHist:List LeafI->Option (ty .iHist)
 | c0::c1::c2::c3::c4::c5::c6::c7::c8:: []=>(c0.bool).bind fun vc0=>(c1.int .i64).bind fun vc1=>(c2.int .i64).bind fun vc2=>(c3.int .i64).bind fun vc3=>(c4.int .i64).bind fun vc4=>(c5.str).bind fun vc5=>(c6.str).bind fun vc6=>(c7.str).bind fun vc7=>(c8.list .u8).bind fun vc8=>some (⟨vc0,⟨vc1,vc2,vc3,vc4,vc5,vc6,vc7,vc8⟩⟩:ty .iHist)
 | _=>none
def of_lOp:List LeafI->Option (ty .lOp)
 | c0::c1::c2::c3::c4::c5::c6::c7:: []=>(c0.int .i64).bind fun vc0=>(c1.int .i64).bind fun vc1=>(c2.int .i64).bind fun vc2=>(c3.int .i64).bind fun vc3=>(c4.str).bind fun vc4=>(c5.str).bind fun vc5=>(c6.str).bind fun vc6=>(c7.list .u8).bind fun vc7=>some (⟨vc0,vc1,vc2,vc3,vc4,vc5,vc6,vc7⟩:ty .lOp)
 | _=>none
def of_lHist:List LeafI->Option (ty .lHist)
 | c0::c1::c2::c3::c4::c5::c6::c7::c8:: []=>(c0.bool).bind fun vc0=>(c1.int .i64).bind fun vc1=>(c2.int .i64).bind fun vc2=>(c3.int .i64).bind fun vc3=>(c4.int .i64).bind fun vc4=>(c5.str).bind fun vc5=>(c6.str).bind fun vc6=>(c7.str).bind fun vc7=>(c8.list .u8).bind fun vc8=>some (⟨vc0,⟨vc1,vc2,vc3,vc4,vc5,vc6,vc7,vc8⟩⟩:ty .lHist)
 | _=>none
def of_iGrid:List LeafI->Option (ty .iGrid)
 | c0::c1::c2:: []=>(c0.int .i64).bind fun vc0=>(c1.int .i64).bind fun vc1=>(c2.list .iCell).bind fun vc2=>some (⟨vc0,vc1,vc2⟩:ty .iGrid)
 | _=>none
def of_iFile:List LeafI->Option (ty .iFile)
 | c0::c1::c2:: []=>(c0.int .i64).bind fun vc0=>(c1.list .u8).bind fun vc1=>(c2.int .i64).bind fun vc2=>some (⟨vc0,vc1,vc2⟩:ty .iFile)
 | _=>none
def of_iVp:List LeafI->Option (ty .iVp)
 | c0::c1::c2::c3:: []=>(c0.int .i64).bind fun vc0=>(c1.bool).bind fun vc1=>(c2.list .int).bind fun vc2=>(c3.list .u8).bind fun vc3=>some (⟨vc0,vc1,vc2,vc3⟩:ty .iVp)
 | _=>none
def of_lVp:List LeafI->Option (ty .lVp)
 | c0::c1::c2::c3:: []=>(c0.int .i64).bind fun vc0=>(c1.bool).bind fun vc1=>(c2.list .int).bind fun vc2=>(c3.list .u8).bind fun vc3=>some (⟨vc0,vc1,vc2,vc3⟩:ty .lVp)
 | _=>none
def of_lGrid:List LeafI->Option (ty .lGrid)
 | c0::c1::c2:: []=>(c0.int .i64).bind fun vc0=>(c1.int .i64).bind fun vc1=>(c2.list .lCell).bind fun vc2=>some (⟨vc0,vc1,vc2⟩:ty .lGrid)
 | _=>none
def of_lWin:List LeafI->Option (ty .lWin)
 | c0::c1::c2::c3::c4:: []=>(c0.int .i64).bind fun vc0=>(c1.str).bind fun vc1=>(c2.list .lNode).bind fun vc2=>(c3.int .i64).bind fun vc3=>(c4.bool).bind fun vc4=>some (⟨vc0,vc1,vc2,vc3,vc4⟩:ty .lWin)
 | _=>none
def of_lSess:List LeafI->Option (ty .lSess)
 | c0::c1::c2:: []=>(c0.str).bind fun vc0=>(c1.list .int).bind fun vc1=>(c2.int .i64).bind fun vc2=>some (⟨vc0,vc1,vc2⟩:ty .lSess)
 | _=>none
def of_lFile:List LeafI->Option (ty .lFile)
 | c0::c1::c2:: []=>(c0.int .i64).bind fun vc0=>(c1.list .u8).bind fun vc1=>(c2.int .i64).bind fun vc2=>some (⟨vc0,vc1,vc2⟩:ty .lFile)
 | _=>none
def of_iWin:List LeafI->Option (ty .iWin)
 | c0::c1::c2::c3::c4:: []=>(c0.int .i64).bind fun vc0=>(c1.str).bind fun vc1=>(c2.list .iNode).bind fun vc2=>(c3.int .i64).bind fun vc3=>(c4.bool).bind fun vc4=>some (⟨vc0,vc1,vc2,vc3,vc4⟩:ty .iWin)
 | _=>none
def of_iSess:List LeafI->Option (ty .iSess)
 | c0::c1::c2:: []=>(c0.str).bind fun vc0=>(c1.list .int).bind fun vc1=>(c2.int .i64).bind fun vc2=>some (⟨vc0,vc1,vc2⟩:ty .iSess)
 | _=>none
def of_iRow:List LeafI->Option (ty .iRow)
 | c0:: []=>(c0.list .iCell).bind fun vc0=>some (⟨vc0⟩:ty .iRow)
 | _=>none
def of_lRow:List LeafI->Option (ty .lRow)
 | c0:: []=>(c0.list .lCell).bind fun vc0=>some (⟨vc0⟩:ty .lRow)
 | _=>none
def of_lDisk:List LeafI->Option (ty .lDisk)
 | c0::c1::c2::c3::c4::c5:: []=>(c0.int .i64).bind fun vc0=>(c1.int .i64).bind fun vc1=>(c2.int .i64).bind fun vc2=>(c3.list .lFile).bind fun vc3=>(c4.list .lLink).bind fun vc4=>(c5.list .lTurn).bind fun vc5=>some (⟨vc0,vc1,vc2,vc3,vc4,vc5⟩:ty .lDisk)
 | _=>none
def of_lDepot:List LeafI->Option (ty .lDepot)
 | c0::c1::c2::c3::c4::c5::c6::c7::c8::c9:: []=>(c0.int .i64).bind fun vc0=>(c1.int .i64).bind fun vc1=>(c2.int .i64).bind fun vc2=>(c3.list .lFile).bind fun vc3=>(c4.list .lLink).bind fun vc4=>(c5.list .lTurn).bind fun vc5=>(c6.int .i64).bind fun vc6=>(c7.int .i64).bind fun vc7=>(c8.int .i64).bind fun vc8=>(c9.bool).bind fun vc9=>some (⟨⟨vc0,vc1,vc2,vc3,vc4,vc5⟩,vc6,vc7,vc8,vc9⟩:ty .lDepot)
 | _=>none
def of_iDisk:List LeafI->Option (ty .iDisk)
 | c0::c1::c2::c3::c4::c5:: []=>(c0.int .i64).bind fun vc0=>(c1.int .i64).bind fun vc1=>(c2.int .i64).bind fun vc2=>(c3.list .iFile).bind fun vc3=>(c4.list .iLink).bind fun vc4=>(c5.list .iTurn).bind fun vc5=>some (⟨vc0,vc1,vc2,vc3,vc4,vc5⟩:ty .iDisk)
 | _=>none
def of_iDepot:List LeafI->Option (ty .iDepot)
 | c0::c1::c2::c3::c4::c5::c6::c7::c8::c9:: []=>(c0.int .i64).bind fun vc0=>(c1.int .i64).bind fun vc1=>(c2.int .i64).bind fun vc2=>(c3.list .iFile).bind fun vc3=>(c4.list .iLink).bind fun vc4=>(c5.list .iTurn).bind fun vc5=>(c6.int .i64).bind fun vc6=>(c7.int .i64).bind fun vc7=>(c8.int .i64).bind fun vc8=>(c9.bool).bind fun vc9=>some (⟨⟨vc0,vc1,vc2,vc3,vc4,vc5⟩,vc6,vc7,vc8,vc9⟩:ty .iDepot)
 | _=>none
def of_iScr:List LeafI->Option (ty .iScr)
 | c0::c1::c2::c3::c4::c5::c6::c7::c8::c9::c10::c11::c12::c13::c14::c15::c16::c17::c18::c19::c20::c21::c22::c23::c24::c25::c26::c27::c28::c29::c30:: []=>(c0.int .i64).bind fun vc0=>(c1.int .i64).bind fun vc1=>(c2.int .i64).bind fun vc2=>(c3.int .i64).bind fun vc3=>(c4.list .iCell).bind fun vc4=>(c5.int .i64).bind fun vc5=>(c6.int .i64).bind fun vc6=>(c7.list .iCell).bind fun vc7=>(c8.bool).bind fun vc8=>(c9.int .i64).bind fun vc9=>(c10.int .i64).bind fun vc10=>(c11.bool).bind fun vc11=>(c12.int .i64).bind fun vc12=>(c13.int .i64).bind fun vc13=>(c14.bool).bind fun vc14=>(c15.bool).bind fun vc15=>(c16.bool).bind fun vc16=>(c17.int .i64).bind fun vc17=>(c18.int .i64).bind fun vc18=>(c19.bool).bind fun vc19=>(c20.bool).bind fun vc20=>(c21.int .i64).bind fun vc21=>(c22.int .i64).bind fun vc22=>(c23.int .i64).bind fun vc23=>(c24.int .i64).bind fun vc24=>(c25.bool).bind fun vc25=>(c26.bool).bind fun vc26=>(c27.bool).bind fun vc27=>(c28.list .int).bind fun vc28=>(c29.int .i64).bind fun vc29=>(c30.list .iRow).bind fun vc30=>some (⟨vc0,vc1,⟨vc2,vc3,vc4⟩,⟨vc5,vc6,vc7⟩,vc8,vc9,vc10,vc11,⟨vc12,vc13,vc14,vc15,vc16⟩,vc17,vc18,vc19,vc20,vc21,vc22,⟨vc23,vc24,vc25,vc26,vc27⟩,vc28,vc29,vc30⟩:ty .iScr)
 | _=>none
def of_iTerm:List LeafI->Option (ty .iTerm)
 | c0::c1::c2::c3::c4::c5::c6::c7::c8::c9::c10::c11::c12::c13::c14::c15::c16::c17::c18::c19::c20::c21::c22::c23::c24::c25::c26::c27::c28::c29::c30::c31::c32::c33::c34:: []=>(c0.int .i64).bind fun vc0=>(c1.bool).bind fun vc1=>(c2.list .int).bind fun vc2=>(c3.list .u8).bind fun vc3=>(c4.int .i64).bind fun vc4=>(c5.int .i64).bind fun vc5=>(c6.int .i64).bind fun vc6=>(c7.int .i64).bind fun vc7=>(c8.list .iCell).bind fun vc8=>(c9.int .i64).bind fun vc9=>(c10.int .i64).bind fun vc10=>(c11.list .iCell).bind fun vc11=>(c12.bool).bind fun vc12=>(c13.int .i64).bind fun vc13=>(c14.int .i64).bind fun vc14=>(c15.bool).bind fun vc15=>(c16.int .i64).bind fun vc16=>(c17.int .i64).bind fun vc17=>(c18.bool).bind fun vc18=>(c19.bool).bind fun vc19=>(c20.bool).bind fun vc20=>(c21.int .i64).bind fun vc21=>(c22.int .i64).bind fun vc22=>(c23.bool).bind fun vc23=>(c24.bool).bind fun vc24=>(c25.int .i64).bind fun vc25=>(c26.int .i64).bind fun vc26=>(c27.int .i64).bind fun vc27=>(c28.int .i64).bind fun vc28=>(c29.bool).bind fun vc29=>(c30.bool).bind fun vc30=>(c31.bool).bind fun vc31=>(c32.list .int).bind fun vc32=>(c33.int .i64).bind fun vc33=>(c34.list .iRow).bind fun vc34=>some (⟨⟨vc0,vc1,vc2,vc3⟩,⟨vc4,vc5,⟨vc6,vc7,vc8⟩,⟨vc9,vc10,vc11⟩,vc12,vc13,vc14,vc15,⟨vc16,vc17,vc18,vc19,vc20⟩,vc21,vc22,vc23,vc24,vc25,vc26,⟨vc27,vc28,vc29,vc30,vc31⟩,vc32,vc33,vc34⟩⟩:ty .iTerm)
 | _=>none
def of_iPane:List LeafI->Option (ty .iPane)
 | c0::c1::c2::c3::c4::c5::c6::c7::c8::c9::c10::c11::c12::c13::c14::c15::c16::c17::c18::c19::c20::c21::c22::c23::c24::c25::c26::c27::c28::c29::c30::c31::c32::c33::c34::c35::c36::c37::c38::c39::c40:: []=>(c0.int .i64).bind fun vc0=>(c1.str).bind fun vc1=>(c2.str).bind fun vc2=>(c3.int .i64).bind fun vc3=>(c4.int .i64).bind fun vc4=>(c5.int .i64).bind fun vc5=>(c6.int .i64).bind fun vc6=>(c7.bool).bind fun vc7=>(c8.list .int).bind fun vc8=>(c9.list .u8).bind fun vc9=>(c10.int .i64).bind fun vc10=>(c11.int .i64).bind fun vc11=>(c12.int .i64).bind fun vc12=>(c13.int .i64).bind fun vc13=>(c14.list .iCell).bind fun vc14=>(c15.int .i64).bind fun vc15=>(c16.int .i64).bind fun vc16=>(c17.list .iCell).bind fun vc17=>(c18.bool).bind fun vc18=>(c19.int .i64).bind fun vc19=>(c20.int .i64).bind fun vc20=>(c21.bool).bind fun vc21=>(c22.int .i64).bind fun vc22=>(c23.int .i64).bind fun vc23=>(c24.bool).bind fun vc24=>(c25.bool).bind fun vc25=>(c26.bool).bind fun vc26=>(c27.int .i64).bind fun vc27=>(c28.int .i64).bind fun vc28=>(c29.bool).bind fun vc29=>(c30.bool).bind fun vc30=>(c31.int .i64).bind fun vc31=>(c32.int .i64).bind fun vc32=>(c33.int .i64).bind fun vc33=>(c34.int .i64).bind fun vc34=>(c35.bool).bind fun vc35=>(c36.bool).bind fun vc36=>(c37.bool).bind fun vc37=>(c38.list .int).bind fun vc38=>(c39.int .i64).bind fun vc39=>(c40.list .iRow).bind fun vc40=>some (⟨vc0,vc1,vc2,vc3,vc4,vc5,⟨⟨vc6,vc7,vc8,vc9⟩,⟨vc10,vc11,⟨vc12,vc13,vc14⟩,⟨vc15,vc16,vc17⟩,vc18,vc19,vc20,vc21,⟨vc22,vc23,vc24,vc25,vc26⟩,vc27,vc28,vc29,vc30,vc31,vc32,⟨vc33,vc34,vc35,vc36,vc37⟩,vc38,vc39,vc40⟩⟩⟩:ty .iPane)
 | _=>none
def of_lScr:List LeafI->Option (ty .lScr)
 | c0::c1::c2::c3::c4::c5::c6::c7::c8::c9::c10::c11::c12::c13::c14::c15::c16::c17::c18::c19::c20::c21::c22::c23::c24::c25::c26::c27::c28::c29::c30:: []=>(c0.int .i64).bind fun vc0=>(c1.int .i64).bind fun vc1=>(c2.int .i64).bind fun vc2=>(c3.int .i64).bind fun vc3=>(c4.list .lCell).bind fun vc4=>(c5.int .i64).bind fun vc5=>(c6.int .i64).bind fun vc6=>(c7.list .lCell).bind fun vc7=>(c8.bool).bind fun vc8=>(c9.int .i64).bind fun vc9=>(c10.int .i64).bind fun vc10=>(c11.bool).bind fun vc11=>(c12.int .i64).bind fun vc12=>(c13.int .i64).bind fun vc13=>(c14.bool).bind fun vc14=>(c15.bool).bind fun vc15=>(c16.bool).bind fun vc16=>(c17.int .i64).bind fun vc17=>(c18.int .i64).bind fun vc18=>(c19.bool).bind fun vc19=>(c20.bool).bind fun vc20=>(c21.int .i64).bind fun vc21=>(c22.int .i64).bind fun vc22=>(c23.int .i64).bind fun vc23=>(c24.int .i64).bind fun vc24=>(c25.bool).bind fun vc25=>(c26.bool).bind fun vc26=>(c27.bool).bind fun vc27=>(c28.list .int).bind fun vc28=>(c29.int .i64).bind fun vc29=>(c30.list .lRow).bind fun vc30=>some (⟨vc0,vc1,⟨vc2,vc3,vc4⟩,⟨vc5,vc6,vc7⟩,vc8,vc9,vc10,vc11,⟨vc12,vc13,vc14,vc15,vc16⟩,vc17,vc18,vc19,vc20,vc21,vc22,⟨vc23,vc24,vc25,vc26,vc27⟩,vc28,vc29,vc30⟩:ty .lScr)
 | _=>none
def of_lTerm:List LeafI->Option (ty .lTerm)
 | c0::c1::c2::c3::c4::c5::c6::c7::c8::c9::c10::c11::c12::c13::c14::c15::c16::c17::c18::c19::c20::c21::c22::c23::c24::c25::c26::c27::c28::c29::c30::c31::c32::c33::c34:: []=>(c0.int .i64).bind fun vc0=>(c1.bool).bind fun vc1=>(c2.list .int).bind fun vc2=>(c3.list .u8).bind fun vc3=>(c4.int .i64).bind fun vc4=>(c5.int .i64).bind fun vc5=>(c6.int .i64).bind fun vc6=>(c7.int .i64).bind fun vc7=>(c8.list .lCell).bind fun vc8=>(c9.int .i64).bind fun vc9=>(c10.int .i64).bind fun vc10=>(c11.list .lCell).bind fun vc11=>(c12.bool).bind fun vc12=>(c13.int .i64).bind fun vc13=>(c14.int .i64).bind fun vc14=>(c15.bool).bind fun vc15=>(c16.int .i64).bind fun vc16=>(c17.int .i64).bind fun vc17=>(c18.bool).bind fun vc18=>(c19.bool).bind fun vc19=>(c20.bool).bind fun vc20=>(c21.int .i64).bind fun vc21=>(c22.int .i64).bind fun vc22=>(c23.bool).bind fun vc23=>(c24.bool).bind fun vc24=>(c25.int .i64).bind fun vc25=>(c26.int .i64).bind fun vc26=>(c27.int .i64).bind fun vc27=>(c28.int .i64).bind fun vc28=>(c29.bool).bind fun vc29=>(c30.bool).bind fun vc30=>(c31.bool).bind fun vc31=>(c32.list .int).bind fun vc32=>(c33.int .i64).bind fun vc33=>(c34.list .lRow).bind fun vc34=>some (⟨⟨vc0,vc1,vc2,vc3⟩,⟨vc4,vc5,⟨vc6,vc7,vc8⟩,⟨vc9,vc10,vc11⟩,vc12,vc13,vc14,vc15,⟨vc16,vc17,vc18,vc19,vc20⟩,vc21,vc22,vc23,vc24,vc25,vc26,⟨vc27,vc28,vc29,vc30,vc31⟩,vc32,vc33,vc34⟩⟩:ty .lTerm)
 | _=>none
def of_lPane:List LeafI->Option (ty .lPane)
 | c0::c1::c2::c3::c4::c5::c6::c7::c8::c9::c10::c11::c12::c13::c14::c15::c16::c17::c18::c19::c20::c21::c22::c23::c24::c25::c26::c27::c28::c29::c30::c31::c32::c33::c34::c35::c36::c37::c38::c39::c40:: []=>(c0.int .i64).bind fun vc0=>(c1.str).bind fun vc1=>(c2.str).bind fun vc2=>(c3.int .i64).bind fun vc3=>(c4.int .i64).bind fun vc4=>(c5.int .i64).bind fun vc5=>(c6.int .i64).bind fun vc6=>(c7.bool).bind fun vc7=>(c8.list .int).bind fun vc8=>(c9.list .u8).bind fun vc9=>(c10.int .i64).bind fun vc10=>(c11.int .i64).bind fun vc11=>(c12.int .i64).bind fun vc12=>(c13.int .i64).bind fun vc13=>(c14.list .lCell).bind fun vc14=>(c15.int .i64).bind fun vc15=>(c16.int .i64).bind fun vc16=>(c17.list .lCell).bind fun vc17=>(c18.bool).bind fun vc18=>(c19.int .i64).bind fun vc19=>(c20.int .i64).bind fun vc20=>(c21.bool).bind fun vc21=>(c22.int .i64).bind fun vc22=>(c23.int .i64).bind fun vc23=>(c24.bool).bind fun vc24=>(c25.bool).bind fun vc25=>(c26.bool).bind fun vc26=>(c27.int .i64).bind fun vc27=>(c28.int .i64).bind fun vc28=>(c29.bool).bind fun vc29=>(c30.bool).bind fun vc30=>(c31.int .i64).bind fun vc31=>(c32.int .i64).bind fun vc32=>(c33.int .i64).bind fun vc33=>(c34.int .i64).bind fun vc34=>(c35.bool).bind fun vc35=>(c36.bool).bind fun vc36=>(c37.bool).bind fun vc37=>(c38.list .int).bind fun vc38=>(c39.int .i64).bind fun vc39=>(c40.list .lRow).bind fun vc40=>some (⟨vc0,vc1,vc2,vc3,vc4,vc5,⟨⟨vc6,vc7,vc8,vc9⟩,⟨vc10,vc11,⟨vc12,vc13,vc14⟩,⟨vc15,vc16,vc17⟩,vc18,vc19,vc20,vc21,⟨vc22,vc23,vc24,vc25,vc26⟩,vc27,vc28,vc29,vc30,vc31,vc32,⟨vc33,vc34,vc35,vc36,vc37⟩,vc38,vc39,vc40⟩⟩⟩:ty .lPane)
 | _=>none
def of_lState:List LeafI->Option (ty .lState)
 | c0::c1::c2::c3::c4::c5::c6:: []=>(c0.int .i64).bind fun vc0=>(c1.int .i64).bind fun vc1=>(c2.int .i64).bind fun vc2=>(c3.int .i64).bind fun vc3=>(c4.list .lPane).bind fun vc4=>(c5.list .lWin).bind fun vc5=>(c6.list .lSess).bind fun vc6=>some (⟨vc0,vc1,vc2,vc3,vc4,vc5,vc6⟩:ty .lState)
 | _=>none
def of_lSrv:List LeafI->Option (ty .lSrv)
 | c0::c1::c2::c3::c4::c5::c6::c7::c8::c9::c10::c11::c12::c13::c14::c15::c16::c17::c18::c19::c20::c21::c22::c23::c24::c25::c26::c27::c28::c29::c30::c31::c32::c33::c34::c35::c36:: []=>(c0.int .i64).bind fun vc0=>(c1.int .i64).bind fun vc1=>(c2.int .i64).bind fun vc2=>(c3.int .i64).bind fun vc3=>(c4.list .lPane).bind fun vc4=>(c5.list .lWin).bind fun vc5=>(c6.list .lSess).bind fun vc6=>(c7.int .i64).bind fun vc7=>(c8.bool).bind fun vc8=>(c9.int .i64).bind fun vc9=>(c10.int .i64).bind fun vc10=>(c11.int .i64).bind fun vc11=>(c12.int .i64).bind fun vc12=>(c13.list .lPane).bind fun vc13=>(c14.list .lWin).bind fun vc14=>(c15.list .lSess).bind fun vc15=>(c16.int .i64).bind fun vc16=>(c17.int .i64).bind fun vc17=>(c18.int .i64).bind fun vc18=>(c19.list .lFile).bind fun vc19=>(c20.list .lLink).bind fun vc20=>(c21.list .lTurn).bind fun vc21=>(c22.int .i64).bind fun vc22=>(c23.int .i64).bind fun vc23=>(c24.int .i64).bind fun vc24=>(c25.bool).bind fun vc25=>(c26.int .i64).bind fun vc26=>(c27.int .i64).bind fun vc27=>(c28.int .i64).bind fun vc28=>(c29.list .lFile).bind fun vc29=>(c30.list .lLink).bind fun vc30=>(c31.list .lTurn).bind fun vc31=>(c32.int .i64).bind fun vc32=>(c33.list .lProc).bind fun vc33=>(c34.list .lAsk).bind fun vc34=>(c35.int .i64).bind fun vc35=>(c36.list .lHist).bind fun vc36=>some (⟨⟨vc0,vc1,vc2,vc3,vc4,vc5,vc6⟩,vc7,vc8,⟨vc9,vc10,vc11,vc12,vc13,vc14,vc15⟩,⟨⟨vc16,vc17,vc18,vc19,vc20,vc21⟩,vc22,vc23,vc24,vc25⟩,⟨vc26,vc27,vc28,vc29,vc30,vc31⟩,⟨vc32,vc33,vc34⟩,vc35,vc36⟩:ty .lSrv)
 | _=>none
def of_iState:List LeafI->Option (ty .iState)
 | c0::c1::c2::c3::c4::c5::c6:: []=>(c0.int .i64).bind fun vc0=>(c1.int .i64).bind fun vc1=>(c2.int .i64).bind fun vc2=>(c3.int .i64).bind fun vc3=>(c4.list .iPane).bind fun vc4=>(c5.list .iWin).bind fun vc5=>(c6.list .iSess).bind fun vc6=>some (⟨vc0,vc1,vc2,vc3,vc4,vc5,vc6⟩:ty .iState)
 | _=>none
def of_iSrv:List LeafI->Option (ty .iSrv)
 | c0::c1::c2::c3::c4::c5::c6::c7::c8::c9::c10::c11::c12::c13::c14::c15::c16::c17::c18::c19::c20::c21::c22::c23::c24::c25::c26::c27::c28::c29::c30::c31::c32::c33::c34::c35::c36:: []=>(c0.int .i64).bind fun vc0=>(c1.int .i64).bind fun vc1=>(c2.int .i64).bind fun vc2=>(c3.int .i64).bind fun vc3=>(c4.list .iPane).bind fun vc4=>(c5.list .iWin).bind fun vc5=>(c6.list .iSess).bind fun vc6=>(c7.int .i64).bind fun vc7=>(c8.bool).bind fun vc8=>(c9.int .i64).bind fun vc9=>(c10.int .i64).bind fun vc10=>(c11.int .i64).bind fun vc11=>(c12.int .i64).bind fun vc12=>(c13.list .iPane).bind fun vc13=>(c14.list .iWin).bind fun vc14=>(c15.list .iSess).bind fun vc15=>(c16.int .i64).bind fun vc16=>(c17.int .i64).bind fun vc17=>(c18.int .i64).bind fun vc18=>(c19.list .iFile).bind fun vc19=>(c20.list .iLink).bind fun vc20=>(c21.list .iTurn).bind fun vc21=>(c22.int .i64).bind fun vc22=>(c23.int .i64).bind fun vc23=>(c24.int .i64).bind fun vc24=>(c25.bool).bind fun vc25=>(c26.int .i64).bind fun vc26=>(c27.int .i64).bind fun vc27=>(c28.int .i64).bind fun vc28=>(c29.list .iFile).bind fun vc29=>(c30.list .iLink).bind fun vc30=>(c31.list .iTurn).bind fun vc31=>(c32.int .i64).bind fun vc32=>(c33.list .iProc).bind fun vc33=>(c34.list .iAsk).bind fun vc34=>(c35.int .i64).bind fun vc35=>(c36.list .iHist).bind fun vc36=>some (⟨⟨vc0,vc1,vc2,vc3,vc4,vc5,vc6⟩,vc7,vc8,⟨vc9,vc10,vc11,vc12,vc13,vc14,vc15⟩,⟨⟨vc16,vc17,vc18,vc19,vc20,vc21⟩,vc22,vc23,vc24,vc25⟩,⟨vc26,vc27,vc28,vc29,vc30,vc31⟩,⟨vc32,vc33,vc34⟩,vc35,vc36⟩:ty .iSrv)
 | _=>none
def ofLeaves:(k:K)->List LeafI->Option (ty k)
 | .int=>of_int
 | .bool=>of_bool
 | .u8=>of_u8
 | .str=>of_str
 | .iProc=>of_iProc
 | .iLink=>of_iLink
 | .iTurn=>of_iTurn
 | .iAttr=>of_iAttr
 | .lAttr=>of_lAttr
 | .lLink=>of_lLink
 | .lTurn=>of_lTurn
 | .lAsk=>of_lAsk
 | .iCell=>of_iCell
 | .lProc=>of_lProc
 | .iAsk=>of_iAsk
 | .iRect=>of_iRect
 | .iNode=>of_iNode
 | .lNode=>of_lNode
 | .lCell=>of_lCell
 | .lTable=>of_lTable
 | .iTable=>of_iTable
 | .iOp=>of_iOp
 | .iHist=>of_iHist
 | .lOp=>of_lOp
 | .lHist=>of_lHist
 | .iGrid=>of_iGrid
 | .iFile=>of_iFile
 | .iVp=>of_iVp
 | .lVp=>of_lVp
 | .lGrid=>of_lGrid
 | .lWin=>of_lWin
 | .lSess=>of_lSess
 | .lFile=>of_lFile
 | .iWin=>of_iWin
 | .iSess=>of_iSess
 | .iRow=>of_iRow
 | .lRow=>of_lRow
 | .lDisk=>of_lDisk
 | .lDepot=>of_lDepot
 | .iDisk=>of_iDisk
 | .iDepot=>of_iDepot
 | .iScr=>of_iScr
 | .iTerm=>of_iTerm
 | .iPane=>of_iPane
 | .lScr=>of_lScr
 | .lTerm=>of_lTerm
 | .lPane=>of_lPane
 | .lState=>of_lState
 | .lSrv=>of_lSrv
 | .iState=>of_iState
 | .iSrv=>of_iSrv
def look {α:Type} (t:Nat):List (Nat×α)->Option α
 | []=>none
 | (k,v)::l=>if k=t then some v else look t l
theorem look_mem {α:Type} {t:Nat} {x:α}:∀{l:List (Nat×α)},look t l=some x->(t,x)∈l
 | (k,v)::l,h=>by
  unfold look at h
  split at h
  ·rename_i e;cases h;subst e;exact List.mem_cons_self ..
  ·exact List.mem_cons_of_mem _ (look_mem h)
 | [],h=>by cases h
def slL:List (TypeId×K):=[(22,.lPane),(23,.lWin),(24,.lSess),(27,.lFile),(28,.lLink),(29,.lTurn),(34,.lProc),(35,.lAsk),(38,.lHist),(43,.iPane),(44,.iWin),(45,.iSess),(48,.iFile),(49,.iLink),(50,.iTurn),(55,.iProc),(56,.iAsk),(59,.iHist),(77,.u8),(119,.iCell),(124,.int),(128,.bool),(162,.iRow),(194,.lCell),(198,.lRow),(206,.lNode),(225,.iNode),(228,.iRect),(356,.iGrid)]
def slK (t:TypeId):Option K:=look t slL
def tyL:List (TypeId×Bool×Nat):=[(193,true,4),(197,true,5),(395,true,6),(196,true,3),(375,true,1),(200,true,31),(202,true,35),(204,true,41),(320,true,3),(208,true,5),(211,true,3),(26,true,7),(213,true,3),(215,true,2),(217,true,4),(31,true,6),(33,true,10),(246,true,2),(220,true,6),(37,true,3),(116,true,8),(118,true,9),(40,true,37),(159,true,4),(161,true,5),(223,true,6),(121,true,3),(311,true,1),(164,true,31),(166,true,35),(168,true,41),(286,true,3),(227,true,5),(232,true,3),(47,true,7),(137,true,3),(139,true,2),(142,true,4),(52,true,6),(54,true,10),(126,true,2),(247,true,6),(58,true,3),(79,true,8),(81,true,9),(61,true,37),(254,true,5),(2,false,1),(3,false,1),(4,false,1),(5,false,1),(9,false,1),(12,false,1),(21,false,1),(306,false,1),(340,false,1),(342,false,1),(22,false,1),(23,false,1),(24,false,1),(27,false,1),(28,false,1),(29,false,1),(34,false,1),(35,false,1),(38,false,1),(43,false,1),(44,false,1),(45,false,1),(48,false,1),(49,false,1),(50,false,1),(55,false,1),(56,false,1),(59,false,1),(77,false,1),(119,false,1),(124,false,1),(128,false,1),(162,false,1),(194,false,1),(198,false,1),(206,false,1),(225,false,1),(228,false,1),(356,false,1),(358,false,1)]
def tyB (t:TypeId):Option (Bool×Nat):=look t tyL
def fldL:List (TypeId×List (Nat×Bool×Nat)):=[(193,[(0,false,1),(1,false,1),(2,false,1),(3,false,1)]),(158,[(0,false,1),(1,false,1),(2,false,1),(3,false,1)]),(197,[(0,false,1),(1,false,1),(2,false,1),(3,false,1),(4,false,1)]),(160,[(0,false,1),(1,false,1),(2,false,1),(3,false,1),(4,false,1)]),(395,[(0,false,1),(1,true,5)]),(394,[(0,false,1),(1,true,5)]),(196,[(0,false,1),(1,false,1),(2,false,1)]),(195,[(0,false,1),(1,false,1),(2,false,1)]),(375,[(0,false,1)]),(374,[(0,false,1)]),(200,[(0,false,1),(1,false,1),(2,true,3),(5,true,3),(8,false,1),(9,false,1),(10,false,1),(11,false,1),(12,true,5),(17,false,1),(18,false,1),(19,false,1),(20,false,1),(21,false,1),(22,false,1),(23,true,5),(28,false,1),(29,false,1),(30,false,1)]),(199,[(0,false,1),(1,false,1),(2,true,3),(5,true,3),(8,false,1),(9,false,1),(10,false,1),(11,false,1),(12,true,5),(17,false,1),(18,false,1),(19,false,1),(20,false,1),(21,false,1),(22,false,1),(23,true,5),(28,false,1),(29,false,1),(30,false,1)]),(202,[(0,true,4),(4,true,31)]),(201,[(0,true,4),(4,true,31)]),(204,[(0,false,1),(1,false,1),(2,false,1),(3,false,1),(4,false,1),(5,false,1),(6,true,35)]),(203,[(0,false,1),(1,false,1),(2,false,1),(3,false,1),(4,false,1),(5,false,1),(6,true,35)]),(320,[(0,false,1),(1,false,1),(2,false,1)]),(285,[(0,false,1),(1,false,1),(2,false,1)]),(208,[(0,false,1),(1,false,1),(2,false,1),(3,false,1),(4,false,1)]),(207,[(0,false,1),(1,false,1),(2,false,1),(3,false,1),(4,false,1)]),(211,[(0,false,1),(1,false,1),(2,false,1)]),(210,[(0,false,1),(1,false,1),(2,false,1)]),(26,[(0,false,1),(1,false,1),(2,false,1),(3,false,1),(4,false,1),(5,false,1),(6,false,1)]),(25,[(0,false,1),(1,false,1),(2,false,1),(3,false,1),(4,false,1),(5,false,1),(6,false,1)]),(213,[(0,false,1),(1,false,1),(2,false,1)]),(136,[(0,false,1),(1,false,1),(2,false,1)]),(215,[(0,false,1),(1,false,1)]),(138,[(0,false,1),(1,false,1)]),(217,[(0,false,1),(1,false,1),(2,false,1),(3,false,1)]),(141,[(0,false,1),(1,false,1),(2,false,1),(3,false,1)]),(31,[(0,false,1),(1,false,1),(2,false,1),(3,false,1),(4,false,1),(5,false,1)]),(30,[(0,false,1),(1,false,1),(2,false,1),(3,false,1),(4,false,1),(5,false,1)]),(33,[(0,true,6),(6,false,1),(7,false,1),(8,false,1),(9,false,1)]),(32,[(0,true,6),(6,false,1),(7,false,1),(8,false,1),(9,false,1)]),(246,[(0,false,1),(1,false,1)]),(125,[(0,false,1),(1,false,1)]),(220,[(0,false,1),(1,false,1),(2,false,1),(3,false,1),(4,false,1),(5,false,1)]),(219,[(0,false,1),(1,false,1),(2,false,1),(3,false,1),(4,false,1),(5,false,1)]),(37,[(0,false,1),(1,false,1),(2,false,1)]),(36,[(0,false,1),(1,false,1),(2,false,1)]),(116,[(0,false,1),(1,false,1),(2,false,1),(3,false,1),(4,false,1),(5,false,1),(6,false,1),(7,false,1)]),(78,[(0,false,1),(1,false,1),(2,false,1),(3,false,1),(4,false,1),(5,false,1),(6,false,1),(7,false,1)]),(118,[(0,false,1),(1,true,8)]),(117,[(0,false,1),(1,true,8)]),(40,[(0,true,7),(7,false,1),(8,false,1),(9,true,7),(16,true,10),(26,true,6),(32,true,3),(35,false,1),(36,false,1)]),(39,[(0,true,7),(7,false,1),(8,false,1),(9,true,7),(16,true,10),(26,true,6),(32,true,3),(35,false,1),(36,false,1)]),(159,[(0,false,1),(1,false,1),(2,false,1),(3,false,1)]),(161,[(0,false,1),(1,false,1),(2,false,1),(3,false,1),(4,false,1)]),(223,[(0,false,1),(1,true,5)]),(222,[(0,false,1),(1,true,5)]),(121,[(0,false,1),(1,false,1),(2,false,1)]),(120,[(0,false,1),(1,false,1),(2,false,1)]),(311,[(0,false,1)]),(310,[(0,false,1)]),(164,[(0,false,1),(1,false,1),(2,true,3),(5,true,3),(8,false,1),(9,false,1),(10,false,1),(11,false,1),(12,true,5),(17,false,1),(18,false,1),(19,false,1),(20,false,1),(21,false,1),(22,false,1),(23,true,5),(28,false,1),(29,false,1),(30,false,1)]),(163,[(0,false,1),(1,false,1),(2,true,3),(5,true,3),(8,false,1),(9,false,1),(10,false,1),(11,false,1),(12,true,5),(17,false,1),(18,false,1),(19,false,1),(20,false,1),(21,false,1),(22,false,1),(23,true,5),(28,false,1),(29,false,1),(30,false,1)]),(166,[(0,true,4),(4,true,31)]),(165,[(0,true,4),(4,true,31)]),(168,[(0,false,1),(1,false,1),(2,false,1),(3,false,1),(4,false,1),(5,false,1),(6,true,35)]),(167,[(0,false,1),(1,false,1),(2,false,1),(3,false,1),(4,false,1),(5,false,1),(6,true,35)]),(286,[(0,false,1),(1,false,1),(2,false,1)]),(227,[(0,false,1),(1,false,1),(2,false,1),(3,false,1),(4,false,1)]),(226,[(0,false,1),(1,false,1),(2,false,1),(3,false,1),(4,false,1)]),(232,[(0,false,1),(1,false,1),(2,false,1)]),(47,[(0,false,1),(1,false,1),(2,false,1),(3,false,1),(4,false,1),(5,false,1),(6,false,1)]),(46,[(0,false,1),(1,false,1),(2,false,1),(3,false,1),(4,false,1),(5,false,1),(6,false,1)]),(137,[(0,false,1),(1,false,1),(2,false,1)]),(139,[(0,false,1),(1,false,1)]),(142,[(0,false,1),(1,false,1),(2,false,1),(3,false,1)]),(52,[(0,false,1),(1,false,1),(2,false,1),(3,false,1),(4,false,1),(5,false,1)]),(51,[(0,false,1),(1,false,1),(2,false,1),(3,false,1),(4,false,1),(5,false,1)]),(54,[(0,true,6),(6,false,1),(7,false,1),(8,false,1),(9,false,1)]),(53,[(0,true,6),(6,false,1),(7,false,1),(8,false,1),(9,false,1)]),(126,[(0,false,1),(1,false,1)]),(247,[(0,false,1),(1,false,1),(2,false,1),(3,false,1),(4,false,1),(5,false,1)]),(58,[(0,false,1),(1,false,1),(2,false,1)]),(57,[(0,false,1),(1,false,1),(2,false,1)]),(79,[(0,false,1),(1,false,1),(2,false,1),(3,false,1),(4,false,1),(5,false,1),(6,false,1),(7,false,1)]),(81,[(0,false,1),(1,true,8)]),(80,[(0,false,1),(1,true,8)]),(61,[(0,true,7),(7,false,1),(8,false,1),(9,true,7),(16,true,10),(26,true,6),(32,true,3),(35,false,1),(36,false,1)]),(60,[(0,true,7),(7,false,1),(8,false,1),(9,true,7),(16,true,10),(26,true,6),(32,true,3),(35,false,1),(36,false,1)]),(254,[(0,false,1),(1,false,1),(2,false,1),(3,false,1),(4,false,1)]),(253,[(0,false,1),(1,false,1),(2,false,1),(3,false,1),(4,false,1)])]
def fldT (t:TypeId) (i:Nat):Option (Nat×Bool×Nat):=match look t fldL with
 | some l=>l[i]?
 | none=>none
def zK:(k:K)->ty k
 | .int=>(0:Int)
 | .bool=>(false:Bool)
 | .u8=>(0:UInt8)
 | .str=>(ByteArray.empty:ByteArray)
 | .iProc=>(⟨0,0⟩:IProc)
 | .iLink=>(⟨ByteArray.empty,0⟩:ILink)
 | .iTurn=>(⟨0,ByteArray.empty,ByteArray.empty,0⟩:ITurn)
 | .iAttr=>(⟨0,0,false,false,false⟩:IAttr)
 | .lAttr=>(⟨0,0,false,false,false⟩:LAttr)
 | .lLink=>(⟨ByteArray.empty,0⟩:LLink)
 | .lTurn=>(⟨0,ByteArray.empty,ByteArray.empty,0⟩:LTurn)
 | .lAsk=>(⟨0,ByteArray.empty,ByteArray.empty,0,0,0⟩:LAsk)
 | .iCell=>(⟨0,⟨0,0,false,false,false⟩⟩:ICell)
 | .lProc=>(⟨0,0⟩:LProc)
 | .iAsk=>(⟨0,ByteArray.empty,ByteArray.empty,0,0,0⟩:IAsk)
 | .iRect=>(⟨0,0,0,0,0⟩:IRect)
 | .iNode=>(⟨0,false,0⟩:INode)
 | .lNode=>(⟨0,false,0⟩:LNode)
 | .lCell=>(⟨0,⟨0,0,false,false,false⟩⟩:LCell)
 | .lTable=>(⟨0,[],[]⟩:LTable)
 | .iTable=>(⟨0,[],[]⟩:ITable)
 | .iOp=>(⟨0,0,0,0,ByteArray.empty,ByteArray.empty,ByteArray.empty,[]⟩:IOp)
 | .iHist=>(⟨false,⟨0,0,0,0,ByteArray.empty,ByteArray.empty,ByteArray.empty,[]⟩⟩:IHist)
 | .lOp=>(⟨0,0,0,0,ByteArray.empty,ByteArray.empty,ByteArray.empty,[]⟩:LOp)
 | .lHist=>(⟨false,⟨0,0,0,0,ByteArray.empty,ByteArray.empty,ByteArray.empty,[]⟩⟩:LHist)
 | .iGrid=>(⟨0,0,[]⟩:IGrid)
 | .iFile=>(⟨0,[],0⟩:IFile)
 | .iVp=>(⟨0,false,[],[]⟩:IVp)
 | .lVp=>(⟨0,false,[],[]⟩:LVp)
 | .lGrid=>(⟨0,0,[]⟩:LGrid)
 | .lWin=>(⟨0,ByteArray.empty,[],0,false⟩:LWin)
 | .lSess=>(⟨ByteArray.empty,[],0⟩:LSess)
 | .lFile=>(⟨0,[],0⟩:LFile)
 | .iWin=>(⟨0,ByteArray.empty,[],0,false⟩:IWin)
 | .iSess=>(⟨ByteArray.empty,[],0⟩:ISess)
 | .iRow=>(⟨[]⟩:IRow)
 | .lRow=>(⟨[]⟩:LRow)
 | .lDisk=>(⟨0,0,0,[],[],[]⟩:LDisk)
 | .lDepot=>(⟨⟨0,0,0,[],[],[]⟩,0,0,0,false⟩:LDepot)
 | .iDisk=>(⟨0,0,0,[],[],[]⟩:IDisk)
 | .iDepot=>(⟨⟨0,0,0,[],[],[]⟩,0,0,0,false⟩:IDepot)
 | .iScr=>(⟨0,0,⟨0,0,[]⟩,⟨0,0,[]⟩,false,0,0,false,⟨0,0,false,false,false⟩,0,0,false,false,0,0,⟨0,0,false,false,false⟩,[],0,[]⟩:IScr)
 | .iTerm=>(⟨⟨0,false,[],[]⟩,⟨0,0,⟨0,0,[]⟩,⟨0,0,[]⟩,false,0,0,false,⟨0,0,false,false,false⟩,0,0,false,false,0,0,⟨0,0,false,false,false⟩,[],0,[]⟩⟩:ITerm)
 | .iPane=>(⟨0,ByteArray.empty,ByteArray.empty,0,0,0,⟨⟨0,false,[],[]⟩,⟨0,0,⟨0,0,[]⟩,⟨0,0,[]⟩,false,0,0,false,⟨0,0,false,false,false⟩,0,0,false,false,0,0,⟨0,0,false,false,false⟩,[],0,[]⟩⟩⟩:IPane)
 | .lScr=>(⟨0,0,⟨0,0,[]⟩,⟨0,0,[]⟩,false,0,0,false,⟨0,0,false,false,false⟩,0,0,false,false,0,0,⟨0,0,false,false,false⟩,[],0,[]⟩:LScr)
 | .lTerm=>(⟨⟨0,false,[],[]⟩,⟨0,0,⟨0,0,[]⟩,⟨0,0,[]⟩,false,0,0,false,⟨0,0,false,false,false⟩,0,0,false,false,0,0,⟨0,0,false,false,false⟩,[],0,[]⟩⟩:LTerm)
 | .lPane=>(⟨0,ByteArray.empty,ByteArray.empty,0,0,0,⟨⟨0,false,[],[]⟩,⟨0,0,⟨0,0,[]⟩,⟨0,0,[]⟩,false,0,0,false,⟨0,0,false,false,false⟩,0,0,false,false,0,0,⟨0,0,false,false,false⟩,[],0,[]⟩⟩⟩:LPane)
 | .lState=>(⟨0,0,0,0,[],[],[]⟩:LState)
 | .lSrv=>(⟨⟨0,0,0,0,[],[],[]⟩,0,false,⟨0,0,0,0,[],[],[]⟩,⟨⟨0,0,0,[],[],[]⟩,0,0,0,false⟩,⟨0,0,0,[],[],[]⟩,⟨0,[],[]⟩,0,[]⟩:LSrv)
 | .iState=>(⟨0,0,0,0,[],[],[]⟩:IState)
 | .iSrv=>(⟨⟨0,0,0,0,[],[],[]⟩,0,false,⟨0,0,0,0,[],[],[]⟩,⟨⟨0,0,0,[],[],[]⟩,0,0,0,false⟩,⟨0,0,0,[],[],[]⟩,⟨0,[],[]⟩,0,[]⟩:ISrv)
abbrev zi:Leaf:= .sc (.int .i64 0)
abbrev zb:Leaf:= .sc (.bool false)
abbrev zs:Leaf:= .sc (.string ByteArray.empty)
def zeroTL:List (TypeId×List Leaf):=[(193,[zi,zb,.nest .int [],.nest .u8 []]),(197,[zi,zi,zb,zb,zb]),(395,[zi,zi,zi,zb,zb,zb]),(196,[zi,zi,.nest .lCell []]),(375,[.nest .lCell []]),(200,[zi,zi,zi,zi,.nest .lCell [],zi,zi,.nest .lCell [],zb,zi,zi,zb,zi,zi,zb,zb,zb,zi,zi,zb,zb,zi,zi,zi,zi,zb,zb,zb,.nest .int [],zi,.nest .lRow []]),(202,[zi,zb,.nest .int [],.nest .u8 [],zi,zi,zi,zi,.nest .lCell [],zi,zi,.nest .lCell [],zb,zi,zi,zb,zi,zi,zb,zb,zb,zi,zi,zb,zb,zi,zi,zi,zi,zb,zb,zb,.nest .int [],zi,.nest .lRow []]),(204,[zi,zs,zs,zi,zi,zi,zi,zb,.nest .int [],.nest .u8 [],zi,zi,zi,zi,.nest .lCell [],zi,zi,.nest .lCell [],zb,zi,zi,zb,zi,zi,zb,zb,zb,zi,zi,zb,zb,zi,zi,zi,zi,zb,zb,zb,.nest .int [],zi,.nest .lRow []]),(320,[zi,zb,zi]),(208,[zi,zs,.nest .lNode [],zi,zb]),(211,[zs,.nest .int [],zi]),(26,[zi,zi,zi,zi,.nest .lPane [],.nest .lWin [],.nest .lSess []]),(213,[zi,.nest .u8 [],zi]),(215,[zs,zi]),(217,[zi,zs,zs,zi]),(31,[zi,zi,zi,.nest .lFile [],.nest .lLink [],.nest .lTurn []]),(33,[zi,zi,zi,.nest .lFile [],.nest .lLink [],.nest .lTurn [],zi,zi,zi,zb]),(246,[zi,zi]),(220,[zi,zs,zs,zi,zi,zi]),(37,[zi,.nest .lProc [],.nest .lAsk []]),(116,[zi,zi,zi,zi,zs,zs,zs,.nest .u8 []]),(118,[zb,zi,zi,zi,zi,zs,zs,zs,.nest .u8 []]),(40,[zi,zi,zi,zi,.nest .lPane [],.nest .lWin [],.nest .lSess [],zi,zb,zi,zi,zi,zi,.nest .lPane [],.nest .lWin [],.nest .lSess [],zi,zi,zi,.nest .lFile [],.nest .lLink [],.nest .lTurn [],zi,zi,zi,zb,zi,zi,zi,.nest .lFile [],.nest .lLink [],.nest .lTurn [],zi,.nest .lProc [],.nest .lAsk [],zi,.nest .lHist []]),(159,[zi,zb,.nest .int [],.nest .u8 []]),(161,[zi,zi,zb,zb,zb]),(223,[zi,zi,zi,zb,zb,zb]),(121,[zi,zi,.nest .iCell []]),(311,[.nest .iCell []]),(164,[zi,zi,zi,zi,.nest .iCell [],zi,zi,.nest .iCell [],zb,zi,zi,zb,zi,zi,zb,zb,zb,zi,zi,zb,zb,zi,zi,zi,zi,zb,zb,zb,.nest .int [],zi,.nest .iRow []]),(166,[zi,zb,.nest .int [],.nest .u8 [],zi,zi,zi,zi,.nest .iCell [],zi,zi,.nest .iCell [],zb,zi,zi,zb,zi,zi,zb,zb,zb,zi,zi,zb,zb,zi,zi,zi,zi,zb,zb,zb,.nest .int [],zi,.nest .iRow []]),(168,[zi,zs,zs,zi,zi,zi,zi,zb,.nest .int [],.nest .u8 [],zi,zi,zi,zi,.nest .iCell [],zi,zi,.nest .iCell [],zb,zi,zi,zb,zi,zi,zb,zb,zb,zi,zi,zb,zb,zi,zi,zi,zi,zb,zb,zb,.nest .int [],zi,.nest .iRow []]),(286,[zi,zb,zi]),(227,[zi,zs,.nest .iNode [],zi,zb]),(232,[zs,.nest .int [],zi]),(47,[zi,zi,zi,zi,.nest .iPane [],.nest .iWin [],.nest .iSess []]),(137,[zi,.nest .u8 [],zi]),(139,[zs,zi]),(142,[zi,zs,zs,zi]),(52,[zi,zi,zi,.nest .iFile [],.nest .iLink [],.nest .iTurn []]),(54,[zi,zi,zi,.nest .iFile [],.nest .iLink [],.nest .iTurn [],zi,zi,zi,zb]),(126,[zi,zi]),(247,[zi,zs,zs,zi,zi,zi]),(58,[zi,.nest .iProc [],.nest .iAsk []]),(79,[zi,zi,zi,zi,zs,zs,zs,.nest .u8 []]),(81,[zb,zi,zi,zi,zi,zs,zs,zs,.nest .u8 []]),(61,[zi,zi,zi,zi,.nest .iPane [],.nest .iWin [],.nest .iSess [],zi,zb,zi,zi,zi,zi,.nest .iPane [],.nest .iWin [],.nest .iSess [],zi,zi,zi,.nest .iFile [],.nest .iLink [],.nest .iTurn [],zi,zi,zi,zb,zi,zi,zi,.nest .iFile [],.nest .iLink [],.nest .iTurn [],zi,.nest .iProc [],.nest .iAsk [],zi,.nest .iHist []]),(254,[zi,zi,zi,zi,zi]),(158,[zi,zb,.nest .int [],.nest .u8 []]),(160,[zi,zi,zb,zb,zb]),(394,[zi,zi,zi,zb,zb,zb]),(195,[zi,zi,.nest .lCell []]),(374,[.nest .lCell []]),(199,[zi,zi,zi,zi,.nest .lCell [],zi,zi,.nest .lCell [],zb,zi,zi,zb,zi,zi,zb,zb,zb,zi,zi,zb,zb,zi,zi,zi,zi,zb,zb,zb,.nest .int [],zi,.nest .lRow []]),(201,[zi,zb,.nest .int [],.nest .u8 [],zi,zi,zi,zi,.nest .lCell [],zi,zi,.nest .lCell [],zb,zi,zi,zb,zi,zi,zb,zb,zb,zi,zi,zb,zb,zi,zi,zi,zi,zb,zb,zb,.nest .int [],zi,.nest .lRow []]),(203,[zi,zs,zs,zi,zi,zi,zi,zb,.nest .int [],.nest .u8 [],zi,zi,zi,zi,.nest .lCell [],zi,zi,.nest .lCell [],zb,zi,zi,zb,zi,zi,zb,zb,zb,zi,zi,zb,zb,zi,zi,zi,zi,zb,zb,zb,.nest .int [],zi,.nest .lRow []]),(285,[zi,zb,zi]),(207,[zi,zs,.nest .lNode [],zi,zb]),(210,[zs,.nest .int [],zi]),(25,[zi,zi,zi,zi,.nest .lPane [],.nest .lWin [],.nest .lSess []]),(136,[zi,.nest .u8 [],zi]),(138,[zs,zi]),(141,[zi,zs,zs,zi]),(30,[zi,zi,zi,.nest .lFile [],.nest .lLink [],.nest .lTurn []]),(32,[zi,zi,zi,.nest .lFile [],.nest .lLink [],.nest .lTurn [],zi,zi,zi,zb]),(125,[zi,zi]),(219,[zi,zs,zs,zi,zi,zi]),(36,[zi,.nest .lProc [],.nest .lAsk []]),(78,[zi,zi,zi,zi,zs,zs,zs,.nest .u8 []]),(117,[zb,zi,zi,zi,zi,zs,zs,zs,.nest .u8 []]),(39,[zi,zi,zi,zi,.nest .lPane [],.nest .lWin [],.nest .lSess [],zi,zb,zi,zi,zi,zi,.nest .lPane [],.nest .lWin [],.nest .lSess [],zi,zi,zi,.nest .lFile [],.nest .lLink [],.nest .lTurn [],zi,zi,zi,zb,zi,zi,zi,.nest .lFile [],.nest .lLink [],.nest .lTurn [],zi,.nest .lProc [],.nest .lAsk [],zi,.nest .lHist []]),(222,[zi,zi,zi,zb,zb,zb]),(120,[zi,zi,.nest .iCell []]),(310,[.nest .iCell []]),(163,[zi,zi,zi,zi,.nest .iCell [],zi,zi,.nest .iCell [],zb,zi,zi,zb,zi,zi,zb,zb,zb,zi,zi,zb,zb,zi,zi,zi,zi,zb,zb,zb,.nest .int [],zi,.nest .iRow []]),(165,[zi,zb,.nest .int [],.nest .u8 [],zi,zi,zi,zi,.nest .iCell [],zi,zi,.nest .iCell [],zb,zi,zi,zb,zi,zi,zb,zb,zb,zi,zi,zb,zb,zi,zi,zi,zi,zb,zb,zb,.nest .int [],zi,.nest .iRow []]),(167,[zi,zs,zs,zi,zi,zi,zi,zb,.nest .int [],.nest .u8 [],zi,zi,zi,zi,.nest .iCell [],zi,zi,.nest .iCell [],zb,zi,zi,zb,zi,zi,zb,zb,zb,zi,zi,zb,zb,zi,zi,zi,zi,zb,zb,zb,.nest .int [],zi,.nest .iRow []]),(226,[zi,zs,.nest .iNode [],zi,zb]),(46,[zi,zi,zi,zi,.nest .iPane [],.nest .iWin [],.nest .iSess []]),(51,[zi,zi,zi,.nest .iFile [],.nest .iLink [],.nest .iTurn []]),(53,[zi,zi,zi,.nest .iFile [],.nest .iLink [],.nest .iTurn [],zi,zi,zi,zb]),(57,[zi,.nest .iProc [],.nest .iAsk []]),(80,[zb,zi,zi,zi,zi,zs,zs,zs,.nest .u8 []]),(60,[zi,zi,zi,zi,.nest .iPane [],.nest .iWin [],.nest .iSess [],zi,zb,zi,zi,zi,zi,.nest .iPane [],.nest .iWin [],.nest .iSess [],zi,zi,zi,.nest .iFile [],.nest .iLink [],.nest .iTurn [],zi,zi,zi,zb,zi,zi,zi,.nest .iFile [],.nest .iLink [],.nest .iTurn [],zi,.nest .iProc [],.nest .iAsk [],zi,.nest .iHist []]),(253,[zi,zi,zi,zi,zi]),(2,[zi]),(3,[zi]),(4,[zb]),(5,[.sc (.int .u8 0)]),(9,[zs]),(12,[.sc (.int .u64 0)]),(21,[.sc (.int .i32 0)]),(306,[.sc (.int .u64 0)]),(340,[.sc (.int .u32 0)]),(342,[.sc (.int .u64 0)]),(22,[.nest .lPane []]),(23,[.nest .lWin []]),(24,[.nest .lSess []]),(27,[.nest .lFile []]),(28,[.nest .lLink []]),(29,[.nest .lTurn []]),(34,[.nest .lProc []]),(35,[.nest .lAsk []]),(38,[.nest .lHist []]),(43,[.nest .iPane []]),(44,[.nest .iWin []]),(45,[.nest .iSess []]),(48,[.nest .iFile []]),(49,[.nest .iLink []]),(50,[.nest .iTurn []]),(55,[.nest .iProc []]),(56,[.nest .iAsk []]),(59,[.nest .iHist []]),(77,[.nest .u8 []]),(119,[.nest .iCell []]),(124,[.nest .int []]),(128,[.nest .bool []]),(162,[.nest .iRow []]),(194,[.nest .lCell []]),(198,[.nest .lRow []]),(206,[.nest .lNode []]),(225,[.nest .iNode []]),(228,[.nest .iRect []]),(356,[.nest .iGrid []]),(358,[.sc .nilFunc])]
def zeroT (t:TypeId):Option (List Leaf):=look t zeroTL
def strL:List TypeId:=[9]
def isStrT (t:TypeId):Bool:=strL.contains t
def boolL:List TypeId:=[4]
def isBoolT (t:TypeId):Bool:=boolL.contains t
inductive Cv where
 | int (k:IntKind)|toBytes|toStr
def cvL:List (TypeId×TypeId×Cv):=[(2,2,.int .i64),(2,3,.int .i64),(2,5,.int .u8),(2,12,.int .u64),(2,21,.int .i32),(2,306,.int .u64),(2,340,.int .u32),(2,342,.int .u64),(3,2,.int .i64),(3,3,.int .i64),(3,5,.int .u8),(3,12,.int .u64),(3,21,.int .i32),(3,306,.int .u64),(3,340,.int .u32),(3,342,.int .u64),(5,2,.int .i64),(5,3,.int .i64),(5,5,.int .u8),(5,12,.int .u64),(5,21,.int .i32),(5,306,.int .u64),(5,340,.int .u32),(5,342,.int .u64),(12,2,.int .i64),(12,3,.int .i64),(12,5,.int .u8),(12,12,.int .u64),(12,21,.int .i32),(12,306,.int .u64),(12,340,.int .u32),(12,342,.int .u64),(21,2,.int .i64),(21,3,.int .i64),(21,5,.int .u8),(21,12,.int .u64),(21,21,.int .i32),(21,306,.int .u64),(21,340,.int .u32),(21,342,.int .u64),(306,2,.int .i64),(306,3,.int .i64),(306,5,.int .u8),(306,12,.int .u64),(306,21,.int .i32),(306,306,.int .u64),(306,340,.int .u32),(306,342,.int .u64),(340,2,.int .i64),(340,3,.int .i64),(340,5,.int .u8),(340,12,.int .u64),(340,21,.int .i32),(340,306,.int .u64),(340,340,.int .u32),(340,342,.int .u64),(342,2,.int .i64),(342,3,.int .i64),(342,5,.int .u8),(342,12,.int .u64),(342,21,.int .i32),(342,306,.int .u64),(342,340,.int .u32),(342,342,.int .u64),(9,77,.toBytes),(77,9,.toStr)]
def look2 (s t:Nat):List (Nat×Nat×Cv)->Option Cv
 | []=>none
 | (a,b,v)::l=>if a=s/\b=t then some v else look2 s t l
def cvT (s t:TypeId):Option Cv:=look2 s t cvL
theorem look2_mem {s t:Nat} {x:Cv}:∀{l:List (Nat×Nat×Cv)},look2 s t l=some x->(s,t,x)∈l
 | (a,b,v)::l,h=>by
  unfold look2 at h
  split at h
  ·rename_i e;cases h;obtain⟨rfl,rfl⟩:=e;exact List.mem_cons_self ..
  ·exact List.mem_cons_of_mem _ (look2_mem h)
 | [],h=>by cases h
inductive MK|s|i|b
def MK.td:MK->TypeDesc
 | .s=> .string
 | .i=> .int .i64
 | .b=> .bool
def mapL:List (TypeId×(MK×Value)):=[(250,(.i,.bool false))]
def mapT (t:TypeId):Option (MK×Value):=look t mapL
def ptrL:List (TypeId×Nat):=[(367,1),(388,1),(416,1),(427,31)]
def ptrN (t:TypeId):Option Nat:=look t ptrL
def allK:List K:=[.int,.bool,.u8,.str,.iProc,.iLink,.iTurn,.iAttr,.lAttr,.lLink,.lTurn,.lAsk,.iCell,.lProc,.iAsk,.iRect,.iNode,.lNode,.lCell,.lTable,.iTable,.iOp,.iHist,.lOp,.lHist,.iGrid,.iFile,.iVp,.lVp,.lGrid,.lWin,.lSess,.lFile,.iWin,.iSess,.iRow,.lRow,.lDisk,.lDepot,.iDisk,.iDepot,.iScr,.iTerm,.iPane,.lScr,.lTerm,.lPane,.lState,.lSrv,.iState,.iSrv]
theorem mem_allK:∀k,k∈allK:=by intro k;cases k<;>decide
def wrL:List (Nat×Nat):=[(17,16)]
def mvL:List (FuncId×List Bool):=[(235,[true,false]),(284,[true,false,true]),(286,[true,false]),(320,[true])]
def mvT (f:FuncId):List Bool:=match look f mvL with
 | some l=>l
 | none=> []
def lnL:List FuncId:=[12,54,55,56,57,58,123,124,125,126,127,128,129,130,132,196,208,209,210,211]
def lnT (f:FuncId):Bool:=lnL.any fun g=>Nat.beq g f
def winL:List (FuncId×TypeId):=[]
def winT (f:FuncId):Option TypeId:=look f winL
def selL:List (FuncId×(Nat×Nat×Nat)):=[]
def selT (f:FuncId):Option (Nat×Nat×Nat):=look f selL
open Go.RowKit
def wfV:Value->Prop
 | .int k n=>k.wrap n=n
 | .string s=>s.size<=9223372036854775807
 | .bool _=>True
 | .pointer none=>True
 | .nilFunc=>True
 | .map none=>True
 | _=>False
def NoIce (e:TypeId) (n:Nat) (fz:Nat×Nat):Prop:=fz.2=0∨(n<=fz.1/\e=tid .u8)
def RowAt (w:World) (g:Nat) (cur:Array Value) (e:TypeId):Prop:=∃fz,w.heap[g]?=some (.cells cur e fz)/\NoIce e cur.size fz
theorem RowAt.lt {cur:Array Value} {e:TypeId} (h:RowAt w g cur e):g<w.heap.size:=by
 obtain⟨_,h,_⟩:=h
 exact(Array.getElem?_eq_some_iff.1 h).1
theorem RowAt.cell {w:World} {g:Nat} {cur:Array Value} {e:TypeId} (h:RowAt w g cur e) (o:Nat):w.cell? ⟨g,o,none⟩ = cur[o]?:=by
 obtain⟨fz,h,_⟩:=h
 exact cell_of_row w g o cur e fz h
theorem RowAt.keep {cur:Array Value} {e:TypeId} (h:RowAt w g cur e) (hk:w'.heap[g]?=w.heap[g]?):RowAt w' g cur e:=by
 obtain⟨fz,h,hc⟩:=h
 exact⟨fz,hk.trans h,hc⟩
def RowC (S:Nat->Prop) (w:World):Nat->(k:K)->Value->List (ty k)->Prop
 | 0,_,_,_=>False
 | n+1,k,v,l=>∃a cap,v= .slice a l.length cap/\l.length<=cap/\l.length<=9223372036854775807/\
   (l≠[]->∃b off,a=some ⟨b,off,none⟩/\S b/\∀(i:Nat) x,l[i]?=some x->∀(j:Nat) lf,(leaves x)[j]?=some lf->
    ∃u,w.cell? ⟨b,off+i*size k+j,none⟩ = some u/\match lf with
     | .sc q=>u=q/\wfV q
     | .nest k' l'=>RowC S w n k' u l')
theorem RowC.mono {S S':Nat->Prop} {w w':World} (hS:∀b,S b->S' b) (hc:∀b o u,S b->w.cell? ⟨b,o,none⟩ = some u->w'.cell? ⟨b,o,none⟩ = some u) :
  ∀(n:Nat) {k:K} {v:Value} {l:List (ty k)},RowC S w n k v l->RowC S' w' n k v l
 | 0,_,_,_,h=>h.elim
 | n+1,k,v,l,h=>by
  obtain⟨a,cap,rfl,h1,h2,h3⟩:=h
  refine⟨a,cap,rfl,h1,h2,fun hne=> ?_⟩
  obtain⟨b,off,rfl,hb,h4⟩:=h3 hne
  refine⟨b,off,rfl,hS b hb,fun i x hx j lf hlf=> ?_⟩
  obtain⟨u,hu,h5⟩:=h4 i x hx j lf hlf
  refine⟨u,hc _ _ _ hb hu,?_⟩
  cases lf with
  | sc q=>exact h5
  | nest k' l'=>exact RowC.mono hS hc n h5
theorem RowC.fuel {S:Nat->Prop} {w:World}:∀(n m:Nat) {k:K} {v:Value} {l:List (ty k)},rank k<n->rank k<m->RowC S w n k v l->RowC S w m k v l
 | 0,_,_,_,_,h,_,_=>absurd h (Nat.not_lt_zero _)
 | _+1,0,_,_,_,_,h,_=>absurd h (Nat.not_lt_zero _)
 | n+1,m+1,k,v,l,hn,hm,h=>by
  obtain⟨a,cap,rfl,h1,h2,h3⟩:=h
  refine⟨a,cap,rfl,h1,h2,fun hne=> ?_⟩
  obtain⟨b,off,rfl,hb,h4⟩:=h3 hne
  refine⟨b,off,rfl,hb,fun i x hx j lf hlf=> ?_⟩
  obtain⟨u,hu,h5⟩:=h4 i x hx j lf hlf
  refine⟨u,hu,?_⟩
  cases lf with
  | sc q=>exact h5
  | nest k' l'=>
   have hr:=rank_lt x j k' l' hlf
   exact RowC.fuel n m (by omega) (by omega) h5
def Row (S:Nat->Prop) (w:World) (k:K) (v:Value) (l:List (ty k)):Prop:=RowC S w (rank k+1) k v l
theorem Row.mono {S S':Nat->Prop} {w w':World} (hS:∀b,S b->S' b) (hc:∀b o u,S b->w.cell? ⟨b,o,none⟩ = some u->w'.cell? ⟨b,o,none⟩ = some u)
  {k:K} {v:Value} {l:List (ty k)} (h:Row S w k v l):Row S' w' k v l:=RowC.mono hS hc _ h
def LeafV (S:Nat->Prop) (w:World):Leaf->Value->Prop
 | .sc q,u=>u=q/\wfV q
 | .nest k l,u=>Row S w k u l
theorem LeafV.mono {S S':Nat->Prop} {w w':World} (hS:∀b,S b->S' b) (hc:∀b o u,S b->w.cell? ⟨b,o,none⟩ = some u->w'.cell? ⟨b,o,none⟩ = some u) {lf:Leaf} {u:Value} (h:LeafV S w lf u):LeafV S' w' lf u:=by
 cases lf with
 | sc q=>exact h
 | nest k l=>exact Row.mono hS hc h
theorem leafV_of {lf:Leaf} (h:match lf with
     | .sc q=>u=q/\wfV q
     | .nest k' l'=>RowC S w n k' u l') (hn:∀k' l',lf= .nest k' l'->rank k'<n):LeafV S w lf u:=by
 cases lf with
 | sc v=>exact h
 | nest k' l'=>exact RowC.fuel n _ (hn k' l' rfl) (Nat.lt_succ_self _) h
def Cont (S:Nat->Prop) (w:World) {k:K} (l:List (ty k)) (f:Nat->Option Value):Prop:=
 ∀(i:Nat) x,l[i]?=some x->∀(j:Nat) lf,(leaves x)[j]?=some lf->∃u,f (i*size k+j)=some u/\LeafV S w lf u
theorem Cont.mono {S S':Nat->Prop} {w w':World} {k:K} {l:List (ty k)} {f f':Nat->Option Value} (h:Cont S w l f) (hf:∀o u,f o=some u->f' o=some u) (hS:∀b,S b->S' b) (hc:∀b o u,S b->w.cell? ⟨b,o,none⟩ = some u->w'.cell? ⟨b,o,none⟩ = some u):Cont S' w' l f':=fun i x hx j lf hlf=>by
 obtain⟨u,hu,hv⟩:=h i x hx j lf hlf
 exact⟨u,hf _ _ hu,hv.mono hS hc⟩
theorem Row.open {v:Value} {l:List (ty k)} (h:Row S w k v l):∃a cap,v= .slice a l.length cap/\l.length<=cap/\l.length<=9223372036854775807/\(l≠[]->∃b off,a=some ⟨b,off,none⟩/\S b/\Cont S w l (fun o=>w.cell? ⟨b,off+o,none⟩)):=by
 obtain⟨a,cap,e,h1,h2,h3⟩:=h
 refine⟨a,cap,e,h1,h2,fun hne=> ?_⟩
 obtain⟨b,off,e2,hb,h4⟩:=h3 hne
 refine⟨b,off,e2,hb,fun i x hx j lf hlf=> ?_⟩
 obtain⟨u,hu,h5⟩:=h4 i x hx j lf hlf
 exact⟨u,by show w.cell? ⟨b,off+(i*size k+j),none⟩ = some u;rw[<-Nat.add_assoc];exact hu,leafV_of h5 fun k' l' e=>rank_lt x j k' l' (by rw[hlf,e])⟩
theorem Row.make {l:List (ty k)} {a:Option Addr} (h1:l.length<=cap) (h2:l.length<=9223372036854775807) (h3:l≠[]->∃b off,a=some ⟨b,off,none⟩/\S b/\Cont S w l (fun o=>w.cell? ⟨b,off+o,none⟩)):Row S w k (.slice a l.length cap) l:=by
 refine⟨a,cap,rfl,h1,h2,fun hne=> ?_⟩
 obtain⟨b,off,e2,hb,h4⟩:=h3 hne
 refine⟨b,off,e2,hb,fun i x hx j lf hlf=> ?_⟩
 obtain⟨u,hu,h5⟩:=h4 i x hx j lf hlf
 refine⟨u,by rw[Nat.add_assoc];exact hu,?_⟩
 cases lf with
 | sc v=>exact h5
 | nest k' l'=>exact RowC.fuel _ _ (Nat.lt_succ_self _) (rank_lt x j k' l' hlf) h5
theorem Row.nil:Row S w k (.slice none 0 0) []:=⟨none,0,rfl,Nat.le_refl _,Nat.zero_le _,fun h=>absurd rfl h⟩
def OwnAt (S:Nat->Prop) (w:World) (b:Nat) {k:K} (l:List (ty k)) (cap:Nat) (cur:Array Value):Prop:=
 l.length<=9223372036854775807/\RowAt w b cur (tid k)/\l.length<=cap/\cap<=maxLen/\cur.size=cap*size k/\Cont S w l (fun o=>cur[o]?)
def Own (S:Nat->Prop) (w:World) (k:K) (v:Value) (l:List (ty k)) (fp:List Nat):Prop:=
 (v= .slice none 0 0/\l=[]/\fp=[])∨∃g cap cur,v= .slice (some ⟨g,0,none⟩) l.length cap/\fp=[g]/\OwnAt S w g l cap cur
theorem OwnAt.mono {S S':Nat->Prop} {w w':World} {b:Nat} {k:K} {l:List (ty k)} {cap:Nat} {cur:Array Value} (h:OwnAt S w b l cap cur) (hk:w'.heap[b]?=w.heap[b]?) (hS:∀b,S b->S' b) (hc:∀b o u,S b->w.cell? ⟨b,o,none⟩ = some u->w'.cell? ⟨b,o,none⟩ = some u):OwnAt S' w' b l cap cur:=by
 obtain⟨h1,h2,h3,h4,h5,h6⟩:=h
 exact⟨h1,h2.keep hk,h3,h4,h5,h6.mono (fun _ _ h=>h) hS hc⟩
theorem Own.mono {S S':Nat->Prop} {w w':World} {k:K} {v:Value} {l:List (ty k)} {fp:List Nat} (h:Own S w k v l fp) (hk:∀b∈fp,w'.heap[b]?=w.heap[b]?) (hS:∀b,S b->S' b) (hc:∀b o u,S b->w.cell? ⟨b,o,none⟩ = some u->w'.cell? ⟨b,o,none⟩ = some u):Own S' w' k v l fp:=by
 rcases h with h|⟨g,cap,cur,h1,h2,h3⟩
 ·exact .inl h
 ·exact .inr ⟨g,cap,cur,h1,h2,h3.mono (hk g (by rw[h2];simp)) hS hc⟩
theorem Own.lt {S:Nat->Prop} {w:World} {k:K} {v:Value} {l:List (ty k)} {fp:List Nat} (h:Own S w k v l fp):∀b∈fp,b<w.heap.size:=by
 rcases h with⟨_,_,rfl⟩ |⟨g,cap,cur,h1,rfl,h3⟩
 ·simp
 ·intro b hb
  have:b=g:=by simpa using hb
  subst this
  exact h3.2.1.lt
theorem Own.nodup {v:Value} {l:List (ty k)} {fp:List Nat} (h:Own S w k v l fp):fp.Nodup:=by
 rcases h with⟨_,_,rfl⟩ |⟨g,cap,cur,h1,rfl,h3⟩ <;>simp
theorem OwnAt.row {l:List (ty k)} {c:Nat} {cur:Array Value} (h:OwnAt S w g l cap cur) (hS:∀b,S b->S' b) (hg:S' g) (hc:l.length<=c):Row S' w k (.slice (some ⟨g,0,none⟩) l.length c) l:=by
 obtain⟨h1,h2,h3,h4,h5,h6⟩:=h
 exact Row.make hc h1 fun _=>⟨g,0,rfl,hg,h6.mono (fun o u hu=>by rw[Nat.zero_add,h2.cell];exact hu) hS fun _ _ _ _ h=>h⟩
theorem Own.row {S S':Nat->Prop} {w:World} {k:K} {v:Value} {l:List (ty k)} {fp:List Nat} (h:Own S w k v l fp) (hS:∀b,S b->S' b) (hfp:∀b∈fp,S' b):Row S' w k v l:=by
 rcases h with⟨rfl,rfl,_⟩ |⟨g,cap,cur,rfl,rfl,h3⟩
 ·exact Row.nil
 ·exact h3.row hS (hfp g (by simp)) h3.2.2.1
def All3 {α J:Type} (R:α->J->List Nat->Prop):List α->List J->List Nat->Prop
 | [],[],L=>L=[]
 | a::as,b::bs,L=>∃L1 L2,L=L1++L2/\R a b L1/\All3 R as bs L2
 | _,_,_=>False
theorem All3.mono {α J:Type} {R R':α->J->List Nat->Prop}:∀{as:List α} {bs:List J} {L:List Nat},(∀a b L',(∀x∈L',x∈L)->R a b L'->R' a b L')->All3 R as bs L->All3 R' as bs L
 | [],[],_,_,h=>h
 | _::_,_::_,L,hr,⟨L1,L2,e,h1,h2⟩=>by
  subst e
  exact⟨L1,L2,rfl,hr _ _ _ (fun x hx=>by simp[hx]) h1,All3.mono (fun a b L' hL h=>hr a b L' (fun x hx=>by simp[hL x hx]) h) h2⟩
 | [],_::_,_,_,h=>h.elim
 | _::_,[],_,_,h=>h.elim
theorem All3.len {α J:Type} {R:α->J->List Nat->Prop}:∀{as:List α} {bs:List J} {L:List Nat},All3 R as bs L->as.length=bs.length
 | [],[],_,_=>rfl
 | _::_,_::_,_,⟨_,_,_,_,h⟩=>congrArg (· + 1) (All3.len h)
 | [],_::_,_,h=>h.elim
 | _::_,[],_,h=>h.elim
theorem All3.app {α J:Type} {R:α->J->List Nat->Prop}:∀{as as2:List α} {bs bs2:List J} {L L2:List Nat},All3 R as bs L->All3 R as2 bs2 L2->All3 R (as++as2) (bs++bs2) (L++L2)
 | [],_,[],_,L,_,h,h2=>by cases h;exact h2
 | a::as,_,b::bs,_,L,_,⟨L1,L3,e,h1,h3⟩,h2=>by
  subst e
  exact⟨L1,_,by rw[List.append_assoc],h1,All3.app h3 h2⟩
 | [],_,_::_,_,_,_,h,_=>h.elim
 | _::_,_,[],_,_,_,h,_=>h.elim
theorem All3.cut {α J:Type} {R:α->J->List Nat->Prop}:∀{as as2:List α} {bs:List J} {L:List Nat},All3 R (as++as2) bs L->∃b1 b2 L1 L2,bs=b1++b2/\L=L1++L2/\All3 R as b1 L1/\All3 R as2 b2 L2
 | [],as2,bs,L,h=>⟨[],bs,[],L,rfl,rfl,rfl,h⟩
 | a::as,as2,b::bs,L,⟨L1,L2,e,h1,h2⟩=>by
  obtain⟨b1,b2,M1,M2,rfl,rfl,h3,h4⟩:=All3.cut h2
  subst e
  exact⟨b::b1,b2,L1++M1,M2,rfl,by rw[List.append_assoc],⟨L1,M1,rfl,h1,h3⟩,h4⟩
 | _::_,_,[],_,h=>h.elim
theorem All3.at {α J:Type} {R:α->J->List Nat->Prop} {as:List α} {bs:List J} {L:List Nat} (h:All3 R as bs L) {p:Nat} {a:α} (ha:as[p]?=some a) :
  ∃b L1 Lp L2,bs[p]?=some b/\L=L1++(Lp++L2)/\R a b Lp/\∀a' b' Lp',R a' b' Lp'->All3 R (as.set p a') (bs.set p b') (L1++(Lp'++L2)):=by
 have hp:=(qS1.1 ha).1
 have ea:as=as.take p++a::as.drop (p+1):=by
  have:=qS1.1 ha
  obtain⟨_,e⟩:=this
  rw[<-e,List.getElem_cons_drop,List.take_append_drop]
 have hl:(as.take p).length=p:=by rw[List.length_take];omega
 rw[ea]at h
 obtain⟨b1,b2,L1,L2,rfl,rfl,h1,h2⟩:=All3.cut h
 have hb1:b1.length=p:=by rw[<-h1.len,hl]
 cases b2 with
 | nil=>exact h2.elim
 | cons b b2=>
  obtain⟨Lp,L3,e,h3,h4⟩:=h2
  subst e
  refine⟨b,L1,Lp,L3,by rw[List.getElem?_append_right (by omega)];simp[hb1],rfl,h3,fun a' b' Lp' h5=> ?_⟩
  have e1:as.set p a'=as.take p++a'::as.drop (p+1):=by
   conv=>lhs;rw[ea]
   rw[List.set_append_right _ _ (by omega)]
   simp[hl]
  have e2:(b1++b::b2).set p b'=b1++b'::b2:=by
   rw[List.set_append_right _ _ (by omega)]
   simp[hb1]
  rw[e1,e2]
  exact h1.app ⟨Lp',L3,rfl,h5,h4⟩
def DOwnN (w:World):Nat->(k:K)->Value->List (ty k)->List Nat->Prop
 | 0,_,_,_,_=>False
 | n+1,k,v,l,L=>(v= .slice none 0 0/\l=[]/\L=[])∨∃g cap cur L',v= .slice (some ⟨g,0,none⟩) l.length cap/\L=g::L'/\l.length<=9223372036854775807/\RowAt w g cur (tid k)/\l.length<=cap/\cap<=maxLen/\cur.size=cap*size k/\
   All3 (fun lf u L=>match lf with
    | .sc q=>(u=q/\wfV q)/\L=[]
    | .nest k' l'=>DOwnN w n k' u l' L) (l.flatMap leaves) (cur.toList.take (l.length*size k)) L'
def DOwn (w:World) (k:K) (v:Value) (l:List (ty k)) (L:List Nat):Prop:=DOwnN w (rank k+1) k v l L
def DLeaf (w:World) (lf:Leaf) (u:Value) (L:List Nat):Prop:=match lf with
 | .sc q=>(u=q/\wfV q)/\L=[]
 | .nest k l=>DOwn w k u l L
theorem DOwnN.keep {w w':World}:∀(n:Nat) {k:K} {v:Value} {l:List (ty k)} {L:List Nat},DOwnN w n k v l L->(∀b∈L,w'.heap[b]?=w.heap[b]?)->DOwnN w' n k v l L
 | 0,_,_,_,_,h,_=>h.elim
 | n+1,k,v,l,L,h,hk=>by
  rcases h with h|⟨g,cap,cur,L',h1,h2,h3,h4,h5,h6,h7,h8⟩
  ·exact .inl h
  ·subst h2
   refine .inr ⟨g,cap,cur,L',h1,rfl,h3,h4.keep (hk g (by simp)),h5,h6,h7,All3.mono (fun lf u M hM h=> ?_) h8⟩
   cases lf with
   | sc q=>exact h
   | nest k' l'=>exact DOwnN.keep n h fun b hb=>hk b (by simp[hM b hb])
theorem DOwnN.fuel {w:World}:∀(n m:Nat) {k:K} {v:Value} {l:List (ty k)} {L:List Nat},rank k<n->rank k<m->DOwnN w n k v l L->DOwnN w m k v l L
 | 0,_,_,_,_,_,h,_,_=>absurd h (Nat.not_lt_zero _)
 | _+1,0,_,_,_,_,_,h,_=>absurd h (Nat.not_lt_zero _)
 | n+1,m+1,k,v,l,L,hn,hm,h=>by
  rcases h with h|⟨g,cap,cur,L',h1,h2,h3,h4,h5,h6,h7,h8⟩
  ·exact .inl h
  ·refine .inr ⟨g,cap,cur,L',h1,h2,h3,h4,h5,h6,h7,?_⟩
   have key:∀{as:List Leaf} {bs:List Value} {M:List Nat},(∀lf∈as,∀k' l',lf= .nest k' l'->rank k'<rank k)->All3 (fun lf u L=>match lf with
    | .sc q=>(u=q/\wfV q)/\L=[]
    | .nest k' l'=>DOwnN w n k' u l' L) as bs M->All3 (fun lf u L=>match lf with
    | .sc q=>(u=q/\wfV q)/\L=[]
    | .nest k' l'=>DOwnN w m k' u l' L) as bs M:=by
    intro as
    induction as with
    | nil=>intro bs M _ h;cases bs<;>exact h
    | cons lf as ih=>
     intro bs M hr h
     cases bs with
     | nil=>exact h.elim
     | cons u bs=>
      obtain⟨M1,M2,e,h9,h10⟩:=h
      refine⟨M1,M2,e,?_,ih (fun lf' hm=>hr lf' (List.mem_cons_of_mem _ hm)) h10⟩
      cases lf with
      | sc q=>exact h9
      | nest k' l'=>
       have:=hr _ (List.mem_cons_self ..) k' l' rfl
       exact DOwnN.fuel n m (by omega) (by omega) h9
   refine key (fun lf hlf k' l' e=> ?_) h8
   obtain⟨x,_,hx⟩:=List.mem_flatMap.1 hlf
   obtain⟨j,hj⟩:=List.getElem?_of_mem hx
   exact rank_lt x j k' l' (by rw[hj,e])
theorem DOwn.keep {w w':World} {k:K} {v:Value} {l:List (ty k)} {L:List Nat} (h:DOwn w k v l L) (hk:∀b∈L,w'.heap[b]?=w.heap[b]?):DOwn w' k v l L:=DOwnN.keep _ h hk
theorem DLeaf.keep {w w':World} {lf:Leaf} {v:Value} {L:List Nat} (h:DLeaf w lf v L) (hk:∀b∈L,w'.heap[b]?=w.heap[b]?):DLeaf w' lf v L:=by
 cases lf with
 | sc q=>exact h
 | nest k l=>exact DOwn.keep h hk
def DAt (w:World) (b:Nat) {k:K} (l:List (ty k)) (cap:Nat) (cur:Array Value) (L:List Nat):Prop:=
 l.length<=9223372036854775807/\RowAt w b cur (tid k)/\l.length<=cap/\cap<=maxLen/\cur.size=cap*size k/\All3 (DLeaf w) (l.flatMap leaves) (cur.toList.take (l.length*size k)) L
theorem leaf_fuel (hn:∀k',rank k'<rank k->rank k'<n) {l:List (ty k)}:All3 (fun lf u L=>match lf with
    | .sc q=>(u=q/\wfV q)/\L=[]
    | .nest k' l'=>DOwnN w n k' u l' L) (l.flatMap leaves) us L↔All3 (DLeaf w) (l.flatMap leaves) us L:=by
 have key:∀(as:List Leaf) (bs:List Value) (M:List Nat),(∀lf∈as,∀k' l',lf= .nest k' l'->rank k'<n)->(All3 (fun lf u L=>match lf with
    | .sc q=>(u=q/\wfV q)/\L=[]
    | .nest k' l'=>DOwnN w n k' u l' L) as bs M↔All3 (DLeaf w) as bs M):=by
  intro as
  induction as with
  | nil=>intro bs M _;cases bs<;>exact Iff.rfl
  | cons lf as ih=>
   intro bs M hr
   cases bs with
   | nil=>exact Iff.rfl
   | cons u bs=>
    have ih:=fun M=>ih bs M fun lf' hm=>hr lf' (List.mem_cons_of_mem _ hm)
    have hd:∀M1,(match lf with
    | .sc q=>(u=q/\wfV q)/\M1=[]
    | .nest k' l'=>DOwnN w n k' u l' M1)↔DLeaf w lf u M1:=by
     intro M1
     cases lf with
     | sc q=>exact Iff.rfl
     | nest k' l'=>
      have:=hr _ (List.mem_cons_self ..) k' l' rfl
      exact⟨DOwnN.fuel _ _ this (Nat.lt_succ_self _),DOwnN.fuel _ _ (Nat.lt_succ_self _) this⟩
    exact⟨fun⟨M1,M2,e,h1,h2⟩=>⟨M1,M2,e,(hd M1).1 h1,(ih M2).1 h2⟩,fun⟨M1,M2,e,h1,h2⟩=>⟨M1,M2,e,(hd M1).2 h1,(ih M2).2 h2⟩⟩
 refine key _ _ _ fun lf hlf k' l' e=> ?_
 obtain⟨x,_,hx⟩:=List.mem_flatMap.1 hlf
 obtain⟨j,hj⟩:=List.getElem?_of_mem hx
 exact hn k' (rank_lt x j k' l' (by rw[hj,e]))
theorem DOwn_iff {v:Value} {l:List (ty k)}:DOwn w k v l L↔(v= .slice none 0 0/\l=[]/\L=[])∨∃g cap cur L',v= .slice (some ⟨g,0,none⟩) l.length cap/\L=g::L'/\DAt w g l cap cur L':=by
 have hf:=fun(us:List Value) (L:List Nat)=>leaf_fuel (w:=w) (k:=k) (n:=rank k) (fun _ h=>h) (l:=l) (us:=us) (L:=L)
 constructor
 ·rintro(h|⟨g,cap,cur,L',h1,h2,h3,h4,h5,h6,h7,h8⟩)
  ·exact .inl h
  ·exact .inr ⟨g,cap,cur,L',h1,h2,h3,h4,h5,h6,h7,(hf _ _).1 h8⟩
 ·rintro(h|⟨g,cap,cur,L',h1,h2,h3,h4,h5,h6,h7,h8⟩)
  ·exact .inl h
  ·exact .inr ⟨g,cap,cur,L',h1,h2,h3,h4,h5,h6,h7,(hf _ _).2 h8⟩
theorem DAt.keep {w w':World} {b:Nat} {k:K} {l:List (ty k)} {cap:Nat} {cur:Array Value} {L:List Nat} (h:DAt w b l cap cur L) (hb:w'.heap[b]?=w.heap[b]?) (hk:∀b∈L,w'.heap[b]?=w.heap[b]?):DAt w' b l cap cur L:=by
 obtain⟨h1,h2,h3,h4,h5,h6⟩:=h
 exact⟨h1,h2.keep hb,h3,h4,h5,All3.mono (fun a u M hM h=>DLeaf.keep h fun b hb=>hk b (hM b hb)) h6⟩
theorem flat_get {k:K}:∀{l:List (ty k)} {i j:Nat} {x:ty k},l[i]?=some x->j<size k->(l.flatMap leaves)[i*size k+j]?=(leaves x)[j]?
 | y::l,0,j,x,h,hj=>by
  simp at h;subst h
  rw[List.flatMap_cons,List.getElem?_append_left (by rw[leaves_len];omega)]
  congr 1;omega
 | y::l,i+1,j,x,h,hj=>by
  rw[List.flatMap_cons,List.getElem?_append_right (by rw[leaves_len,Nat.add_mul];omega),leaves_len,show(i+1)*size k+j-size k=i*size k+j by rw[Nat.add_mul];omega]
  exact flat_get (by simpa using h) hj
 | [],_,_,_,h,_=>by simp at h
theorem flat_len {k:K}:∀{l:List (ty k)},(l.flatMap leaves).length=l.length*size k
 | []=>by simp
 | x::l=>by rw[List.flatMap_cons,List.length_append,leaves_len,flat_len,List.length_cons,Nat.add_mul];omega
theorem DOwn.row {S:Nat->Prop} {w:World}:∀(n:Nat) {k:K} {v:Value} {l:List (ty k)} {L:List Nat},rank k<n->DOwn w k v l L->(∀b∈L,S b)->Row S w k v l
 | 0,_,_,_,_,h,_,_=>absurd h (Nat.not_lt_zero _)
 | n+1,k,v,l,L,hn,h,hS=>by
  rcases DOwn_iff.1 h with⟨rfl,rfl,_⟩ |⟨g,cap,cur,L',rfl,rfl,h1,h2,h3,h4,h5,h6⟩
  ·exact Row.nil
  ·refine Row.make h3 h1 fun hne=>⟨g,0,rfl,hS g (by simp),fun i x hx j lf hlf=> ?_⟩
   have hj:j<size k:=by have:=(qS1.1 hlf).1;rwa[leaves_len]at this
   have hi:=(qS1.1 hx).1
   obtain⟨u,M1,Mp,M2,e1,e2,e3,-⟩:=h6.at (p:=i*size k+j) (a:=lf) (by rw[flat_get hx hj];exact hlf)
   rw[List.getElem?_take]at e1
   split at e1
   case isFalse=>cases e1
   refine⟨u,by show w.cell? ⟨g,0+(i*size k+j),none⟩ = some u;rw[Nat.zero_add,h2.cell];simpa using e1,?_⟩
   cases lf with
   | sc q=>exact e3.1
   | nest k' l'=>exact DOwn.row n (by have:=rank_lt x j k' l' hlf;omega) e3 fun b hb=>hS b (by rw[e2];simp[hb])
theorem DAt.cont {l:List (ty k)} {cur:Array Value} (h:DAt w b l cap cur L) (hS:∀b∈L,S b):OwnAt S w b l cap cur:=by
 obtain⟨h1,h2,h3,h4,h5,h6⟩:=h
 refine⟨h1,h2,h3,h4,h5,fun i x hx j lf hlf=> ?_⟩
 have hj:j<size k:=by have:=(qS1.1 hlf).1;rwa[leaves_len]at this
 obtain⟨u,M1,Mp,M2,e1,e2,e3,-⟩:=h6.at (p:=i*size k+j) (a:=lf) (by rw[flat_get hx hj];exact hlf)
 rw[List.getElem?_take]at e1
 split at e1
 case isFalse=>cases e1
 refine⟨u,by simpa using e1,?_⟩
 cases lf with
 | sc q=>exact e3.1
 | nest k' l'=>exact DOwn.row _ (Nat.lt_succ_self _) e3 fun b hb=>hS b (by rw[e2];simp[hb])
open Go.RowKit
inductive PV where
 | v (x:Value)
 | nil
 | row (own:Bool) (k:K) (l:List (ty k))
 | ref (id ver off n:Nat) (full:Bool)
 | ptr (id ver i j:Nat)
 | eptr (k:K) (l:List (ty k)) (i j:Nat)
 | agg (cs:List PV)
 | tup (vs:List PV)
 | fn (f:FuncId) (caps:List PV)
 | obj (o:Obj)
 | un
 | dead
 | drow (k:K) (l:List (ty k))
 | gb (r:PV) (back:List PV)
instance:Inhabited PV:=⟨.dead⟩
variable {p v:PV}
inductive Blk where
 | box (cs:List PV)
 | rowb (k:K) (l:List (ty k))
 | rowd (k:K) (l:List (ty k))
 | rowx (k:K) (l:List (ty k)) (i:Nat) (cs:List PV)
 | objb (o:Obj)
 | iterb (mid mver since:Nat) (seen:Array Nat) (stepped:Nat)
inductive IsRow:Blk->(k:K)->List (ty k)->Prop
 | b {k:K} {l:List (ty k)}:IsRow (.rowb k l) k l
 | d {k:K} {l:List (ty k)}:IsRow (.rowd k l) k l
 | x {k:K} {l:List (ty k)} {i:Nat} {cs:List PV}:IsRow (.rowx k l i cs) k l
inductive IsRw:Blk->(k:K)->List (ty k)->Prop
 | b {k:K} {l:List (ty k)}:IsRw (.rowb k l) k l
 | d {k:K} {l:List (ty k)}:IsRw (.rowd k l) k l
theorem IsRw.row {b:Blk} {l:List (ty k)} (h:IsRw b k l):IsRow b k l:=by cases h<;>constructor
def objV (o:Obj) (b:Nat):Value:=match o with
 | .map _ _=> .map (some b)
 | _=> .pointer (some ⟨b,0,none⟩)
structure Ent where
 ver:Nat
 blk:Option Blk
abbrev Sto:=Nat->Ent
variable {s s' σ:Sto}
structure Env where
 t:Nat->PV
 s:Sto
variable {Z:Env}
def upd {α:Type} (f:Nat->α) (i:Nat) (a:α):Nat->α:=fun j=>if j=i then a else f j
theorem upd_same (f:Nat->α) (i:Nat) (a:α):upd f i a i=a:=if_pos rfl
theorem upd_ne (f:Nat->α) (a:α) (h:j≠i):upd f i a j=f j:=if_neg h
def All2 {α J:Type} (R:α->J->Prop):List α->List J->Prop
 | [],[]=>True
 | a::as,b::bs=>R a b/\All2 R as bs
 | _,_=>False
theorem All2.mono {α J:Type} {R R':α->J->Prop} (h:∀a b,R a b->R' a b):∀{as:List α} {bs:List J},All2 R as bs->All2 R' as bs
 | [],[],_=>trivial
 | _::_,_::_,⟨h1,h2⟩=>⟨h _ _ h1,All2.mono h h2⟩
theorem All2.len {α J:Type} {R:α->J->Prop}:∀{as:List α} {bs:List J},All2 R as bs->as.length=bs.length
 | [],[],_=>rfl
 | _::_,_::_,⟨_,h2⟩=>congrArg (· + 1) (All2.len h2)
theorem All2.get {α J:Type} {R:α->J->Prop}:∀{as:List α} {bs:List J},All2 R as bs->∀(i:Nat) a,as[i]?=some a->∃b,bs[i]?=some b/\R a b
 | a::as,b::bs,⟨h1,h2⟩,0,x,hx=>by simp at hx;subst hx;exact⟨b,rfl,h1⟩
 | a::as,b::bs,⟨h1,h2⟩,i+1,x,hx=>by simpa using All2.get h2 i x (by simpa using hx)
 | [],[],_,i,x,hx=>by simp at hx
section
variable (S:Nat->Prop) (w:World) (J:Nat->Option (Nat×Nat)) (σ:Sto)
def RefC (id ver off n:Nat) (full:Bool) (u:Value):Prop:=
 ver<=(σ id).ver/\(∃p n' c,u= .slice p n' c)/\∀blk k l,σ id=⟨ver,some blk⟩->IsRow blk k l->off+n<=l.length/\((J id=none/\u= .slice none 0 0)∨∃b c o,J id=some (b,0)/\n<=c/\u= .slice (some ⟨b,o,none⟩) n c/\(n≠0∨full=true->o=off*size k)/\
  (full=true->off=0/\n=l.length/\∀cur E fz,w.heap[b]?=some (.cells cur E fz)->cur.size=c*size k))
def PtrC (id ver i j:Nat) (u:Value):Prop:=
 ver<=(σ id).ver/\((∃p,u= .pointer (some p))∨∃p,u= .map (some p))/\∀blk,σ id=⟨ver,some blk⟩->∃b off,J id=some (b,off)/\match blk with
  | .box _=>u= .pointer (some ⟨b,off+j,none⟩)
  | .rowb k l=>off=0/\i<l.length/\u= .pointer (some ⟨b,i*size k+j,none⟩)
  | .rowd k l=>off=0/\i<l.length/\u= .pointer (some ⟨b,i*size k+j,none⟩)
  | .rowx k l _ _=>off=0/\i<l.length/\u= .pointer (some ⟨b,i*size k+j,none⟩)
  | .objb o=>j=0->off=0/\u=objV o b
  | .iterb _ _ _ _ _=>j=0->off=0/\u= .pointer (some ⟨b,0,none⟩)
def Val0:PV->Value->Prop
 | .v x,u=>u=x/\wfV x
 | .nil,u=>u= .slice none 0 0
 | .row own k l,u=>own=false/\Row S w k u l
 | .ref id ver off n full,u=>RefC w J σ id ver off n full u
 | .ptr id ver i j,u=>PtrC J σ id ver i j u
 | .eptr k l i j,u=>∃b off,i<l.length/\u= .pointer (some ⟨b,off+i*size k+j,none⟩)/\Row S w k (.slice (some ⟨b,off,none⟩) l.length l.length) l
 | .un,u=>u=undef
 | .dead,_=>True
 | _,_=>False
def ValS:PV->Value->Prop
 | .fn f caps,u=>∃us,u= .func (.func f) #[] us/\All2 (Val0 S w J σ) caps us.toList
 | p,u=>Val0 S w J σ p u
def Val1:PV->Value->Prop
 | .agg cs,u=>∃us,u= .agg us/\All2 (ValS S w J σ) cs us.toList
 | p,u=>ValS S w J σ p u
def ValC:PV->Value->Prop
 | .tup vs,u=>∃us,u= .tuple us/\All2 (Val1 S w J σ) vs us.toList
 | p,u=>Val1 S w J σ p u
def BlkC (N:List Nat) (id:Nat):Blk->Prop
 | .box cs=>∃b off cur E,J id=some (b,off)/\N=[b]/\RowAt w b cur E/\off+cs.length<=cur.size/\∀(j:Nat) p,cs[j]?=some p->∃u,cur[off+j]?=some u/\u.oneCell'=true/\ValS S w J σ p u
 | .rowb k l=>(J id=none/\l=[]/\N=[])∨∃b cap cur,J id=some (b,0)/\N=[b]/\OwnAt S w b l cap cur
 | .rowd k l=>(J id=none/\l=[]/\N=[])∨∃b cap cur L,J id=some (b,0)/\N=b::L/\DAt w b l cap cur L
 | .rowx k l i cs=>∃b cap cur L1 L2,J id=some (b,0)/\N=b::(L1++L2)/\l.length<=9223372036854775807/\RowAt w b cur (tid k)/\l.length<=cap/\cap<=maxLen/\cur.size=cap*size k/\i<l.length/\cs.length=size k/\
   (∀(j:Nat) p,cs[j]?=some p->∃u,cur[i*size k+j]?=some u/\u.oneCell'=true/\ValS S w J σ p u)/\
   All3 (DLeaf w) ((l.take i).flatMap leaves) (cur.toList.take (i*size k)) L1/\All3 (DLeaf w) ((l.drop (i+1)).flatMap leaves) ((cur.toList.take (l.length*size k)).drop ((i+1)*size k)) L2
 | .objb o=>∃b,J id=some (b,0)/\N=[b]/\w.heap[b]?=some o
 | .iterb mid mver since seen stepped=>∃b m,J id=some (b,0)/\N=[b]/\w.heap[b]?=some (.mapIter (some m) since seen stepped)/\PtrC J σ mid mver 0 0 (.map (some m))
end
def Occ (N:Nat->List Nat) (σ:Sto) (b:Nat):Prop:=∃id blk,(σ id).blk=some blk/\b∈N id
structure Ctx where
 w0:World
 F:List Nat
 ext:List (Nat×Nat)
 lens:List Nat
 E:World->Prop
 S:Nat->Prop
 few:ext.length<=49
 rx:Nat->Option (Value×Nat)
 G:Nat
 hG:∀b∈F,G<=b
 hw:G<=w0.heap.size
 cl:∀w w':World,E w->(∀b,b<G->w'.heap[b]?=w.heap[b]?)->E w'
def Fz (X:Ctx) (w:World) (N:Nat->List Nat) (σ:Sto) (b:Nat):Prop:=b<w.heap.size/\¬Occ N σ b/\(X.S b∨b∈X.F∨X.w0.heap.size<=b)
structure Frm (X:Ctx) (w:World):Prop where
 os:w.os=X.w0.os
 tape:w.tape=X.w0.tape
 output:w.output=X.w0.output
 size:X.w0.heap.size<=w.heap.size
 old:∀b,b<X.w0.heap.size->b∉X.F->w.heap[b]?=X.w0.heap[b]?
 part:∀(j b off n:Nat),X.ext[j]?=some (b,off)->X.lens[j]?=some n->∃(c0 c:Array Value) (E:TypeId) (fz:Nat×Nat),X.w0.heap[b]?=some (Obj.cells c0 E fz)/\w.heap[b]?=some (Obj.cells c E fz)/\c.size=c0.size/\∀o,o<off∨off+n<=o->c[o]?=c0[o]?
structure StS (X:Ctx) (S:Nat->Prop) (Z:Env) (w:World) (tm:Array Value) (J:Nat->Option (Nat×Nat)) (N:Nat->List Nat):Prop where
 tmp:∀(t:Nat) u,tm[t]?=some u->ValC S w J Z.s (Z.t t) u
 blk:∀id b,(Z.s id).blk=some b->BlkC S w J Z.s (N id) id b
 lt:∀id b,(Z.s id).blk=some b->∀x∈N id,x<w.heap.size
 nodup:∀id b,(Z.s id).blk=some b->(N id).Nodup
 disj:∀id id' b b',(Z.s id).blk=some b->(Z.s id').blk=some b'->id≠id'->∀x∈N id,x∉N id'
 new:∀id b,(Z.s id).blk=some b->∀x∈N id,x∈X.F∨X.w0.heap.size<=x
 ext:∀j p,X.ext[j]?=some p->J j=some p/\∃cs,(Z.s j).blk=some (.box cs)/\X.lens[j]?=some cs.length
 rxt:∀q u n,X.rx q=some (u,n)->q<49/\∃blk k l,Z.s (50+q)=⟨0,some blk⟩/\IsRow blk k l/\l.length=n/\RefC w J Z.s (50+q) 0 0 n true u
 frm:Frm X w
 env:X.E w
 fz:∀b,S b->Fz X w N Z.s b
abbrev St (X:Ctx) (Z:Env) (w:World) (tm:Array Value) (J:Nat->Option (Nat×Nat)) (N:Nat->List Nat):Prop:=StS X (Fz X w N Z.s) Z w tm J N
def InL:LeafI->Leaf->Prop
 | .sc v,l=>wfV v->l= .sc v
 | .nest k x,l=>l= .nest k x
 | .nl,l=>∃k,l= .nest k []
theorem LeafI.list_spec {c:LeafI} {l:List (ty k)} (h:c.list k=some l):InL c (.nest k l):=by
 unfold LeafI.list at h
 cases c with
 | sc v=>cases h
 | nl=>cases h;exact⟨k,rfl⟩
 | nest k' l'=>
  simp only at h
  split at h
  ·rename_i e;subst e;cases h;rfl
  ·cases h
theorem u8_of {n:Int} (h:wfV (.int .u8 n)):((UInt8.ofNat n.toNat).toNat:Int)=n:=by
 have h':n % 256=n:=h
 have h1:(UInt8.ofNat n.toNat).toNat=n.toNat % 256:=UInt8.toNat_ofNat'
 omega
theorem LeafI.int_spec {k:IntKind} {c:LeafI} {n:Int} (h:c.int k=some n):InL c (.sc (.int k n)):=by
 unfold LeafI.int at h
 split at h
 ·split at h
  ·rename_i e;cases h;subst e;exact fun _=>rfl
  ·cases h
 ·cases h
theorem LeafI.u8_spec {c:LeafI} {n:UInt8} (h:c.u8=some n):InL c (.sc (.int .u8 n.toNat)):=by
 unfold LeafI.u8 at h;split at h<;>cases h;exact fun hw=>by rw[u8_of hw]
theorem LeafI.str_spec {c:LeafI} {n:ByteArray} (h:c.str=some n):InL c (.sc (.string n)):=by
 unfold LeafI.str at h;split at h<;>cases h;exact fun _=>rfl
theorem LeafI.bool_spec {c:LeafI} {n:Bool} (h:c.bool=some n):InL c (.sc (.bool n)):=by
 unfold LeafI.bool at h;split at h<;>cases h;exact fun _=>rfl
theorem of_int_spec {ls:List LeafI} {x:ty .int} (h:of_int ls=some x):All2 InL ls (leaves x):=by
 unfold of_int at h
 split at h
 ·simp only[Option.bind_eq_some_iff,Option.some.injEq]at h
  obtain⟨x0,h0,rfl⟩:=h
  exact⟨LeafI.int_spec h0,trivial⟩
 ·cases h
theorem of_bool_spec {ls:List LeafI} {x:ty .bool} (h:of_bool ls=some x):All2 InL ls (leaves x):=by
 unfold of_bool at h
 split at h
 ·simp only[Option.bind_eq_some_iff,Option.some.injEq]at h
  obtain⟨x0,h0,rfl⟩:=h
  exact⟨LeafI.bool_spec h0,trivial⟩
 ·cases h
theorem of_u8_spec {ls:List LeafI} {x:ty .u8} (h:of_u8 ls=some x):All2 InL ls (leaves x):=by
 unfold of_u8 at h
 split at h
 ·simp only[Option.bind_eq_some_iff,Option.some.injEq]at h
  obtain⟨x0,h0,rfl⟩:=h
  exact⟨LeafI.u8_spec h0,trivial⟩
 ·cases h
theorem of_str_spec {ls:List LeafI} {x:ty .str} (h:of_str ls=some x):All2 InL ls (leaves x):=by
 unfold of_str at h
 split at h
 ·simp only[Option.bind_eq_some_iff,Option.some.injEq]at h
  obtain⟨x0,h0,rfl⟩:=h
  exact⟨LeafI.str_spec h0,trivial⟩
 ·cases h
theorem of_iProc_spec {ls:List LeafI} {x:ty .iProc} (h:of_iProc ls=some x):All2 InL ls (leaves x):=by
 unfold of_iProc at h
 split at h
 ·simp only[Option.bind_eq_some_iff,Option.some.injEq]at h
  obtain⟨x0,h0,x1,h1,rfl⟩:=h
  exact⟨LeafI.int_spec h0,LeafI.int_spec h1,trivial⟩
 ·cases h
theorem of_iLink_spec {ls:List LeafI} {x:ty .iLink} (h:of_iLink ls=some x):All2 InL ls (leaves x):=by
 unfold of_iLink at h
 split at h
 ·simp only[Option.bind_eq_some_iff,Option.some.injEq]at h
  obtain⟨x0,h0,x1,h1,rfl⟩:=h
  exact⟨LeafI.str_spec h0,LeafI.int_spec h1,trivial⟩
 ·cases h
theorem of_iTurn_spec {ls:List LeafI} {x:ty .iTurn} (h:of_iTurn ls=some x):All2 InL ls (leaves x):=by
 unfold of_iTurn at h
 split at h
 ·simp only[Option.bind_eq_some_iff,Option.some.injEq]at h
  obtain⟨x0,h0,x1,h1,x2,h2,x3,h3,rfl⟩:=h
  exact⟨LeafI.int_spec h0,LeafI.str_spec h1,LeafI.str_spec h2,LeafI.int_spec h3,trivial⟩
 ·cases h
theorem of_iAttr_spec {ls:List LeafI} {x:ty .iAttr} (h:of_iAttr ls=some x):All2 InL ls (leaves x):=by
 unfold of_iAttr at h
 split at h
 ·simp only[Option.bind_eq_some_iff,Option.some.injEq]at h
  obtain⟨x0,h0,x1,h1,x2,h2,x3,h3,x4,h4,rfl⟩:=h
  exact⟨LeafI.int_spec h0,LeafI.int_spec h1,LeafI.bool_spec h2,LeafI.bool_spec h3,LeafI.bool_spec h4,trivial⟩
 ·cases h
theorem of_lAttr_spec {ls:List LeafI} {x:ty .lAttr} (h:of_lAttr ls=some x):All2 InL ls (leaves x):=by
 unfold of_lAttr at h
 split at h
 ·simp only[Option.bind_eq_some_iff,Option.some.injEq]at h
  obtain⟨x0,h0,x1,h1,x2,h2,x3,h3,x4,h4,rfl⟩:=h
  exact⟨LeafI.int_spec h0,LeafI.int_spec h1,LeafI.bool_spec h2,LeafI.bool_spec h3,LeafI.bool_spec h4,trivial⟩
 ·cases h
theorem of_lLink_spec {ls:List LeafI} {x:ty .lLink} (h:of_lLink ls=some x):All2 InL ls (leaves x):=by
 unfold of_lLink at h
 split at h
 ·simp only[Option.bind_eq_some_iff,Option.some.injEq]at h
  obtain⟨x0,h0,x1,h1,rfl⟩:=h
  exact⟨LeafI.str_spec h0,LeafI.int_spec h1,trivial⟩
 ·cases h
theorem of_lTurn_spec {ls:List LeafI} {x:ty .lTurn} (h:of_lTurn ls=some x):All2 InL ls (leaves x):=by
 unfold of_lTurn at h
 split at h
 ·simp only[Option.bind_eq_some_iff,Option.some.injEq]at h
  obtain⟨x0,h0,x1,h1,x2,h2,x3,h3,rfl⟩:=h
  exact⟨LeafI.int_spec h0,LeafI.str_spec h1,LeafI.str_spec h2,LeafI.int_spec h3,trivial⟩
 ·cases h
theorem of_lAsk_spec {ls:List LeafI} {x:ty .lAsk} (h:of_lAsk ls=some x):All2 InL ls (leaves x):=by
 unfold of_lAsk at h
 split at h
 ·simp only[Option.bind_eq_some_iff,Option.some.injEq]at h
  obtain⟨x0,h0,x1,h1,x2,h2,x3,h3,x4,h4,x5,h5,rfl⟩:=h
  exact⟨LeafI.int_spec h0,LeafI.str_spec h1,LeafI.str_spec h2,LeafI.int_spec h3,LeafI.int_spec h4,LeafI.int_spec h5,trivial⟩
 ·cases h
theorem of_iCell_spec {ls:List LeafI} {x:ty .iCell} (h:of_iCell ls=some x):All2 InL ls (leaves x):=by
 unfold of_iCell at h
 split at h
 ·simp only[Option.bind_eq_some_iff,Option.some.injEq]at h
  obtain⟨x0,h0,x1,h1,x2,h2,x3,h3,x4,h4,x5,h5,rfl⟩:=h
  exact⟨LeafI.int_spec h0,LeafI.int_spec h1,LeafI.int_spec h2,LeafI.bool_spec h3,LeafI.bool_spec h4,LeafI.bool_spec h5,trivial⟩
 ·cases h
theorem of_lProc_spec {ls:List LeafI} {x:ty .lProc} (h:of_lProc ls=some x):All2 InL ls (leaves x):=by
 unfold of_lProc at h
 split at h
 ·simp only[Option.bind_eq_some_iff,Option.some.injEq]at h
  obtain⟨x0,h0,x1,h1,rfl⟩:=h
  exact⟨LeafI.int_spec h0,LeafI.int_spec h1,trivial⟩
 ·cases h
theorem of_iAsk_spec {ls:List LeafI} {x:ty .iAsk} (h:of_iAsk ls=some x):All2 InL ls (leaves x):=by
 unfold of_iAsk at h
 split at h
 ·simp only[Option.bind_eq_some_iff,Option.some.injEq]at h
  obtain⟨x0,h0,x1,h1,x2,h2,x3,h3,x4,h4,x5,h5,rfl⟩:=h
  exact⟨LeafI.int_spec h0,LeafI.str_spec h1,LeafI.str_spec h2,LeafI.int_spec h3,LeafI.int_spec h4,LeafI.int_spec h5,trivial⟩
 ·cases h
theorem of_iRect_spec {ls:List LeafI} {x:ty .iRect} (h:of_iRect ls=some x):All2 InL ls (leaves x):=by
 unfold of_iRect at h
 split at h
 ·simp only[Option.bind_eq_some_iff,Option.some.injEq]at h
  obtain⟨x0,h0,x1,h1,x2,h2,x3,h3,x4,h4,rfl⟩:=h
  exact⟨LeafI.int_spec h0,LeafI.int_spec h1,LeafI.int_spec h2,LeafI.int_spec h3,LeafI.int_spec h4,trivial⟩
 ·cases h
theorem of_iNode_spec {ls:List LeafI} {x:ty .iNode} (h:of_iNode ls=some x):All2 InL ls (leaves x):=by
 unfold of_iNode at h
 split at h
 ·simp only[Option.bind_eq_some_iff,Option.some.injEq]at h
  obtain⟨x0,h0,x1,h1,x2,h2,rfl⟩:=h
  exact⟨LeafI.int_spec h0,LeafI.bool_spec h1,LeafI.int_spec h2,trivial⟩
 ·cases h
theorem of_lNode_spec {ls:List LeafI} {x:ty .lNode} (h:of_lNode ls=some x):All2 InL ls (leaves x):=by
 unfold of_lNode at h
 split at h
 ·simp only[Option.bind_eq_some_iff,Option.some.injEq]at h
  obtain⟨x0,h0,x1,h1,x2,h2,rfl⟩:=h
  exact⟨LeafI.int_spec h0,LeafI.bool_spec h1,LeafI.int_spec h2,trivial⟩
 ·cases h
theorem of_lCell_spec {ls:List LeafI} {x:ty .lCell} (h:of_lCell ls=some x):All2 InL ls (leaves x):=by
 unfold of_lCell at h
 split at h
 ·simp only[Option.bind_eq_some_iff,Option.some.injEq]at h
  obtain⟨x0,h0,x1,h1,x2,h2,x3,h3,x4,h4,x5,h5,rfl⟩:=h
  exact⟨LeafI.int_spec h0,LeafI.int_spec h1,LeafI.int_spec h2,LeafI.bool_spec h3,LeafI.bool_spec h4,LeafI.bool_spec h5,trivial⟩
 ·cases h
theorem of_lTable_spec {ls:List LeafI} {x:ty .lTable} (h:of_lTable ls=some x):All2 InL ls (leaves x):=by
 unfold of_lTable at h
 split at h
 ·simp only[Option.bind_eq_some_iff,Option.some.injEq]at h
  obtain⟨x0,h0,x1,h1,x2,h2,rfl⟩:=h
  exact⟨LeafI.int_spec h0,LeafI.list_spec h1,LeafI.list_spec h2,trivial⟩
 ·cases h
theorem of_iTable_spec {ls:List LeafI} {x:ty .iTable} (h:of_iTable ls=some x):All2 InL ls (leaves x):=by
 unfold of_iTable at h
 split at h
 ·simp only[Option.bind_eq_some_iff,Option.some.injEq]at h
  obtain⟨x0,h0,x1,h1,x2,h2,rfl⟩:=h
  exact⟨LeafI.int_spec h0,LeafI.list_spec h1,LeafI.list_spec h2,trivial⟩
 ·cases h
theorem of_iOp_spec {ls:List LeafI} {x:ty .iOp} (h:of_iOp ls=some x):All2 InL ls (leaves x):=by
 unfold of_iOp at h
 split at h
 ·simp only[Option.bind_eq_some_iff,Option.some.injEq]at h
  obtain⟨x0,h0,x1,h1,x2,h2,x3,h3,x4,h4,x5,h5,x6,h6,x7,h7,rfl⟩:=h
  exact⟨LeafI.int_spec h0,LeafI.int_spec h1,LeafI.int_spec h2,LeafI.int_spec h3,LeafI.str_spec h4,LeafI.str_spec h5,LeafI.str_spec h6,LeafI.list_spec h7,trivial⟩
 ·cases h
theorem of_iHist_spec {ls:List LeafI} {x:ty .iHist} (h:of_iHist ls=some x):All2 InL ls (leaves x):=by
 unfold of_iHist at h
 split at h
 ·simp only[Option.bind_eq_some_iff,Option.some.injEq]at h
  obtain⟨x0,h0,x1,h1,x2,h2,x3,h3,x4,h4,x5,h5,x6,h6,x7,h7,x8,h8,rfl⟩:=h
  exact⟨LeafI.bool_spec h0,LeafI.int_spec h1,LeafI.int_spec h2,LeafI.int_spec h3,LeafI.int_spec h4,LeafI.str_spec h5,LeafI.str_spec h6,LeafI.str_spec h7,LeafI.list_spec h8,trivial⟩
 ·cases h
theorem of_lOp_spec {ls:List LeafI} {x:ty .lOp} (h:of_lOp ls=some x):All2 InL ls (leaves x):=by
 unfold of_lOp at h
 split at h
 ·simp only[Option.bind_eq_some_iff,Option.some.injEq]at h
  obtain⟨x0,h0,x1,h1,x2,h2,x3,h3,x4,h4,x5,h5,x6,h6,x7,h7,rfl⟩:=h
  exact⟨LeafI.int_spec h0,LeafI.int_spec h1,LeafI.int_spec h2,LeafI.int_spec h3,LeafI.str_spec h4,LeafI.str_spec h5,LeafI.str_spec h6,LeafI.list_spec h7,trivial⟩
 ·cases h
theorem of_lHist_spec {ls:List LeafI} {x:ty .lHist} (h:of_lHist ls=some x):All2 InL ls (leaves x):=by
 unfold of_lHist at h
 split at h
 ·simp only[Option.bind_eq_some_iff,Option.some.injEq]at h
  obtain⟨x0,h0,x1,h1,x2,h2,x3,h3,x4,h4,x5,h5,x6,h6,x7,h7,x8,h8,rfl⟩:=h
  exact⟨LeafI.bool_spec h0,LeafI.int_spec h1,LeafI.int_spec h2,LeafI.int_spec h3,LeafI.int_spec h4,LeafI.str_spec h5,LeafI.str_spec h6,LeafI.str_spec h7,LeafI.list_spec h8,trivial⟩
 ·cases h
theorem of_iGrid_spec {ls:List LeafI} {x:ty .iGrid} (h:of_iGrid ls=some x):All2 InL ls (leaves x):=by
 unfold of_iGrid at h
 split at h
 ·simp only[Option.bind_eq_some_iff,Option.some.injEq]at h
  obtain⟨x0,h0,x1,h1,x2,h2,rfl⟩:=h
  exact⟨LeafI.int_spec h0,LeafI.int_spec h1,LeafI.list_spec h2,trivial⟩
 ·cases h
theorem of_iFile_spec {ls:List LeafI} {x:ty .iFile} (h:of_iFile ls=some x):All2 InL ls (leaves x):=by
 unfold of_iFile at h
 split at h
 ·simp only[Option.bind_eq_some_iff,Option.some.injEq]at h
  obtain⟨x0,h0,x1,h1,x2,h2,rfl⟩:=h
  exact⟨LeafI.int_spec h0,LeafI.list_spec h1,LeafI.int_spec h2,trivial⟩
 ·cases h
theorem of_iVp_spec {ls:List LeafI} {x:ty .iVp} (h:of_iVp ls=some x):All2 InL ls (leaves x):=by
 unfold of_iVp at h
 split at h
 ·simp only[Option.bind_eq_some_iff,Option.some.injEq]at h
  obtain⟨x0,h0,x1,h1,x2,h2,x3,h3,rfl⟩:=h
  exact⟨LeafI.int_spec h0,LeafI.bool_spec h1,LeafI.list_spec h2,LeafI.list_spec h3,trivial⟩
 ·cases h
theorem of_lVp_spec {ls:List LeafI} {x:ty .lVp} (h:of_lVp ls=some x):All2 InL ls (leaves x):=by
 unfold of_lVp at h
 split at h
 ·simp only[Option.bind_eq_some_iff,Option.some.injEq]at h
  obtain⟨x0,h0,x1,h1,x2,h2,x3,h3,rfl⟩:=h
  exact⟨LeafI.int_spec h0,LeafI.bool_spec h1,LeafI.list_spec h2,LeafI.list_spec h3,trivial⟩
 ·cases h
theorem of_lGrid_spec {ls:List LeafI} {x:ty .lGrid} (h:of_lGrid ls=some x):All2 InL ls (leaves x):=by
 unfold of_lGrid at h
 split at h
 ·simp only[Option.bind_eq_some_iff,Option.some.injEq]at h
  obtain⟨x0,h0,x1,h1,x2,h2,rfl⟩:=h
  exact⟨LeafI.int_spec h0,LeafI.int_spec h1,LeafI.list_spec h2,trivial⟩
 ·cases h
theorem of_lWin_spec {ls:List LeafI} {x:ty .lWin} (h:of_lWin ls=some x):All2 InL ls (leaves x):=by
 unfold of_lWin at h
 split at h
 ·simp only[Option.bind_eq_some_iff,Option.some.injEq]at h
  obtain⟨x0,h0,x1,h1,x2,h2,x3,h3,x4,h4,rfl⟩:=h
  exact⟨LeafI.int_spec h0,LeafI.str_spec h1,LeafI.list_spec h2,LeafI.int_spec h3,LeafI.bool_spec h4,trivial⟩
 ·cases h
theorem of_lSess_spec {ls:List LeafI} {x:ty .lSess} (h:of_lSess ls=some x):All2 InL ls (leaves x):=by
 unfold of_lSess at h
 split at h
 ·simp only[Option.bind_eq_some_iff,Option.some.injEq]at h
  obtain⟨x0,h0,x1,h1,x2,h2,rfl⟩:=h
  exact⟨LeafI.str_spec h0,LeafI.list_spec h1,LeafI.int_spec h2,trivial⟩
 ·cases h
theorem of_lFile_spec {ls:List LeafI} {x:ty .lFile} (h:of_lFile ls=some x):All2 InL ls (leaves x):=by
 unfold of_lFile at h
 split at h
 ·simp only[Option.bind_eq_some_iff,Option.some.injEq]at h
  obtain⟨x0,h0,x1,h1,x2,h2,rfl⟩:=h
  exact⟨LeafI.int_spec h0,LeafI.list_spec h1,LeafI.int_spec h2,trivial⟩
 ·cases h
theorem of_iWin_spec {ls:List LeafI} {x:ty .iWin} (h:of_iWin ls=some x):All2 InL ls (leaves x):=by
 unfold of_iWin at h
 split at h
 ·simp only[Option.bind_eq_some_iff,Option.some.injEq]at h
  obtain⟨x0,h0,x1,h1,x2,h2,x3,h3,x4,h4,rfl⟩:=h
  exact⟨LeafI.int_spec h0,LeafI.str_spec h1,LeafI.list_spec h2,LeafI.int_spec h3,LeafI.bool_spec h4,trivial⟩
 ·cases h
theorem of_iSess_spec {ls:List LeafI} {x:ty .iSess} (h:of_iSess ls=some x):All2 InL ls (leaves x):=by
 unfold of_iSess at h
 split at h
 ·simp only[Option.bind_eq_some_iff,Option.some.injEq]at h
  obtain⟨x0,h0,x1,h1,x2,h2,rfl⟩:=h
  exact⟨LeafI.str_spec h0,LeafI.list_spec h1,LeafI.int_spec h2,trivial⟩
 ·cases h
theorem of_iRow_spec {ls:List LeafI} {x:ty .iRow} (h:of_iRow ls=some x):All2 InL ls (leaves x):=by
 unfold of_iRow at h
 split at h
 ·simp only[Option.bind_eq_some_iff,Option.some.injEq]at h
  obtain⟨x0,h0,rfl⟩:=h
  exact⟨LeafI.list_spec h0,trivial⟩
 ·cases h
theorem of_lRow_spec {ls:List LeafI} {x:ty .lRow} (h:of_lRow ls=some x):All2 InL ls (leaves x):=by
 unfold of_lRow at h
 split at h
 ·simp only[Option.bind_eq_some_iff,Option.some.injEq]at h
  obtain⟨x0,h0,rfl⟩:=h
  exact⟨LeafI.list_spec h0,trivial⟩
 ·cases h
theorem of_lDisk_spec {ls:List LeafI} {x:ty .lDisk} (h:of_lDisk ls=some x):All2 InL ls (leaves x):=by
 unfold of_lDisk at h
 split at h
 ·simp only[Option.bind_eq_some_iff,Option.some.injEq]at h
  obtain⟨x0,h0,x1,h1,x2,h2,x3,h3,x4,h4,x5,h5,rfl⟩:=h
  exact⟨LeafI.int_spec h0,LeafI.int_spec h1,LeafI.int_spec h2,LeafI.list_spec h3,LeafI.list_spec h4,LeafI.list_spec h5,trivial⟩
 ·cases h
theorem of_lDepot_spec {ls:List LeafI} {x:ty .lDepot} (h:of_lDepot ls=some x):All2 InL ls (leaves x):=by
 unfold of_lDepot at h
 split at h
 ·simp only[Option.bind_eq_some_iff,Option.some.injEq]at h
  obtain⟨x0,h0,x1,h1,x2,h2,x3,h3,x4,h4,x5,h5,x6,h6,x7,h7,x8,h8,x9,h9,rfl⟩:=h
  exact⟨LeafI.int_spec h0,LeafI.int_spec h1,LeafI.int_spec h2,LeafI.list_spec h3,LeafI.list_spec h4,LeafI.list_spec h5,LeafI.int_spec h6,LeafI.int_spec h7,LeafI.int_spec h8,LeafI.bool_spec h9,trivial⟩
 ·cases h
theorem of_iDisk_spec {ls:List LeafI} {x:ty .iDisk} (h:of_iDisk ls=some x):All2 InL ls (leaves x):=by
 unfold of_iDisk at h
 split at h
 ·simp only[Option.bind_eq_some_iff,Option.some.injEq]at h
  obtain⟨x0,h0,x1,h1,x2,h2,x3,h3,x4,h4,x5,h5,rfl⟩:=h
  exact⟨LeafI.int_spec h0,LeafI.int_spec h1,LeafI.int_spec h2,LeafI.list_spec h3,LeafI.list_spec h4,LeafI.list_spec h5,trivial⟩
 ·cases h
theorem of_iDepot_spec {ls:List LeafI} {x:ty .iDepot} (h:of_iDepot ls=some x):All2 InL ls (leaves x):=by
 unfold of_iDepot at h
 split at h
 ·simp only[Option.bind_eq_some_iff,Option.some.injEq]at h
  obtain⟨x0,h0,x1,h1,x2,h2,x3,h3,x4,h4,x5,h5,x6,h6,x7,h7,x8,h8,x9,h9,rfl⟩:=h
  exact⟨LeafI.int_spec h0,LeafI.int_spec h1,LeafI.int_spec h2,LeafI.list_spec h3,LeafI.list_spec h4,LeafI.list_spec h5,LeafI.int_spec h6,LeafI.int_spec h7,LeafI.int_spec h8,LeafI.bool_spec h9,trivial⟩
 ·cases h
theorem of_iScr_spec {ls:List LeafI} {x:ty .iScr} (h:of_iScr ls=some x):All2 InL ls (leaves x):=by
 unfold of_iScr at h
 split at h
 ·simp only[Option.bind_eq_some_iff,Option.some.injEq]at h
  obtain⟨x0,h0,x1,h1,x2,h2,x3,h3,x4,h4,x5,h5,x6,h6,x7,h7,x8,h8,x9,h9,x10,h10,x11,h11,x12,h12,x13,h13,x14,h14,x15,h15,x16,h16,x17,h17,x18,h18,x19,h19,x20,h20,x21,h21,x22,h22,x23,h23,x24,h24,x25,h25,x26,h26,x27,h27,x28,h28,x29,h29,x30,h30,rfl⟩:=h
  exact⟨LeafI.int_spec h0,LeafI.int_spec h1,LeafI.int_spec h2,LeafI.int_spec h3,LeafI.list_spec h4,LeafI.int_spec h5,LeafI.int_spec h6,LeafI.list_spec h7,LeafI.bool_spec h8,LeafI.int_spec h9,LeafI.int_spec h10,LeafI.bool_spec h11,LeafI.int_spec h12,LeafI.int_spec h13,LeafI.bool_spec h14,LeafI.bool_spec h15,LeafI.bool_spec h16,LeafI.int_spec h17,LeafI.int_spec h18,LeafI.bool_spec h19,LeafI.bool_spec h20,LeafI.int_spec h21,LeafI.int_spec h22,LeafI.int_spec h23,LeafI.int_spec h24,LeafI.bool_spec h25,LeafI.bool_spec h26,LeafI.bool_spec h27,LeafI.list_spec h28,LeafI.int_spec h29,LeafI.list_spec h30,trivial⟩
 ·cases h
theorem of_iTerm_spec {ls:List LeafI} {x:ty .iTerm} (h:of_iTerm ls=some x):All2 InL ls (leaves x):=by
 unfold of_iTerm at h
 split at h
 ·simp only[Option.bind_eq_some_iff,Option.some.injEq]at h
  obtain⟨x0,h0,x1,h1,x2,h2,x3,h3,x4,h4,x5,h5,x6,h6,x7,h7,x8,h8,x9,h9,x10,h10,x11,h11,x12,h12,x13,h13,x14,h14,x15,h15,x16,h16,x17,h17,x18,h18,x19,h19,x20,h20,x21,h21,x22,h22,x23,h23,x24,h24,x25,h25,x26,h26,x27,h27,x28,h28,x29,h29,x30,h30,x31,h31,x32,h32,x33,h33,x34,h34,rfl⟩:=h
  exact⟨LeafI.int_spec h0,LeafI.bool_spec h1,LeafI.list_spec h2,LeafI.list_spec h3,LeafI.int_spec h4,LeafI.int_spec h5,LeafI.int_spec h6,LeafI.int_spec h7,LeafI.list_spec h8,LeafI.int_spec h9,LeafI.int_spec h10,LeafI.list_spec h11,LeafI.bool_spec h12,LeafI.int_spec h13,LeafI.int_spec h14,LeafI.bool_spec h15,LeafI.int_spec h16,LeafI.int_spec h17,LeafI.bool_spec h18,LeafI.bool_spec h19,LeafI.bool_spec h20,LeafI.int_spec h21,LeafI.int_spec h22,LeafI.bool_spec h23,LeafI.bool_spec h24,LeafI.int_spec h25,LeafI.int_spec h26,LeafI.int_spec h27,LeafI.int_spec h28,LeafI.bool_spec h29,LeafI.bool_spec h30,LeafI.bool_spec h31,LeafI.list_spec h32,LeafI.int_spec h33,LeafI.list_spec h34,trivial⟩
 ·cases h
theorem of_iPane_spec {ls:List LeafI} {x:ty .iPane} (h:of_iPane ls=some x):All2 InL ls (leaves x):=by
 unfold of_iPane at h
 split at h
 ·simp only[Option.bind_eq_some_iff,Option.some.injEq]at h
  obtain⟨x0,h0,x1,h1,x2,h2,x3,h3,x4,h4,x5,h5,x6,h6,x7,h7,x8,h8,x9,h9,x10,h10,x11,h11,x12,h12,x13,h13,x14,h14,x15,h15,x16,h16,x17,h17,x18,h18,x19,h19,x20,h20,x21,h21,x22,h22,x23,h23,x24,h24,x25,h25,x26,h26,x27,h27,x28,h28,x29,h29,x30,h30,x31,h31,x32,h32,x33,h33,x34,h34,x35,h35,x36,h36,x37,h37,x38,h38,x39,h39,x40,h40,rfl⟩:=h
  exact⟨LeafI.int_spec h0,LeafI.str_spec h1,LeafI.str_spec h2,LeafI.int_spec h3,LeafI.int_spec h4,LeafI.int_spec h5,LeafI.int_spec h6,LeafI.bool_spec h7,LeafI.list_spec h8,LeafI.list_spec h9,LeafI.int_spec h10,LeafI.int_spec h11,LeafI.int_spec h12,LeafI.int_spec h13,LeafI.list_spec h14,LeafI.int_spec h15,LeafI.int_spec h16,LeafI.list_spec h17,LeafI.bool_spec h18,LeafI.int_spec h19,LeafI.int_spec h20,LeafI.bool_spec h21,LeafI.int_spec h22,LeafI.int_spec h23,LeafI.bool_spec h24,LeafI.bool_spec h25,LeafI.bool_spec h26,LeafI.int_spec h27,LeafI.int_spec h28,LeafI.bool_spec h29,LeafI.bool_spec h30,LeafI.int_spec h31,LeafI.int_spec h32,LeafI.int_spec h33,LeafI.int_spec h34,LeafI.bool_spec h35,LeafI.bool_spec h36,LeafI.bool_spec h37,LeafI.list_spec h38,LeafI.int_spec h39,LeafI.list_spec h40,trivial⟩
 ·cases h
theorem of_lScr_spec {ls:List LeafI} {x:ty .lScr} (h:of_lScr ls=some x):All2 InL ls (leaves x):=by
 unfold of_lScr at h
 split at h
 ·simp only[Option.bind_eq_some_iff,Option.some.injEq]at h
  obtain⟨x0,h0,x1,h1,x2,h2,x3,h3,x4,h4,x5,h5,x6,h6,x7,h7,x8,h8,x9,h9,x10,h10,x11,h11,x12,h12,x13,h13,x14,h14,x15,h15,x16,h16,x17,h17,x18,h18,x19,h19,x20,h20,x21,h21,x22,h22,x23,h23,x24,h24,x25,h25,x26,h26,x27,h27,x28,h28,x29,h29,x30,h30,rfl⟩:=h
  exact⟨LeafI.int_spec h0,LeafI.int_spec h1,LeafI.int_spec h2,LeafI.int_spec h3,LeafI.list_spec h4,LeafI.int_spec h5,LeafI.int_spec h6,LeafI.list_spec h7,LeafI.bool_spec h8,LeafI.int_spec h9,LeafI.int_spec h10,LeafI.bool_spec h11,LeafI.int_spec h12,LeafI.int_spec h13,LeafI.bool_spec h14,LeafI.bool_spec h15,LeafI.bool_spec h16,LeafI.int_spec h17,LeafI.int_spec h18,LeafI.bool_spec h19,LeafI.bool_spec h20,LeafI.int_spec h21,LeafI.int_spec h22,LeafI.int_spec h23,LeafI.int_spec h24,LeafI.bool_spec h25,LeafI.bool_spec h26,LeafI.bool_spec h27,LeafI.list_spec h28,LeafI.int_spec h29,LeafI.list_spec h30,trivial⟩
 ·cases h
theorem of_lTerm_spec {ls:List LeafI} {x:ty .lTerm} (h:of_lTerm ls=some x):All2 InL ls (leaves x):=by
 unfold of_lTerm at h
 split at h
 ·simp only[Option.bind_eq_some_iff,Option.some.injEq]at h
  obtain⟨x0,h0,x1,h1,x2,h2,x3,h3,x4,h4,x5,h5,x6,h6,x7,h7,x8,h8,x9,h9,x10,h10,x11,h11,x12,h12,x13,h13,x14,h14,x15,h15,x16,h16,x17,h17,x18,h18,x19,h19,x20,h20,x21,h21,x22,h22,x23,h23,x24,h24,x25,h25,x26,h26,x27,h27,x28,h28,x29,h29,x30,h30,x31,h31,x32,h32,x33,h33,x34,h34,rfl⟩:=h
  exact⟨LeafI.int_spec h0,LeafI.bool_spec h1,LeafI.list_spec h2,LeafI.list_spec h3,LeafI.int_spec h4,LeafI.int_spec h5,LeafI.int_spec h6,LeafI.int_spec h7,LeafI.list_spec h8,LeafI.int_spec h9,LeafI.int_spec h10,LeafI.list_spec h11,LeafI.bool_spec h12,LeafI.int_spec h13,LeafI.int_spec h14,LeafI.bool_spec h15,LeafI.int_spec h16,LeafI.int_spec h17,LeafI.bool_spec h18,LeafI.bool_spec h19,LeafI.bool_spec h20,LeafI.int_spec h21,LeafI.int_spec h22,LeafI.bool_spec h23,LeafI.bool_spec h24,LeafI.int_spec h25,LeafI.int_spec h26,LeafI.int_spec h27,LeafI.int_spec h28,LeafI.bool_spec h29,LeafI.bool_spec h30,LeafI.bool_spec h31,LeafI.list_spec h32,LeafI.int_spec h33,LeafI.list_spec h34,trivial⟩
 ·cases h
theorem of_lPane_spec {ls:List LeafI} {x:ty .lPane} (h:of_lPane ls=some x):All2 InL ls (leaves x):=by
 unfold of_lPane at h
 split at h
 ·simp only[Option.bind_eq_some_iff,Option.some.injEq]at h
  obtain⟨x0,h0,x1,h1,x2,h2,x3,h3,x4,h4,x5,h5,x6,h6,x7,h7,x8,h8,x9,h9,x10,h10,x11,h11,x12,h12,x13,h13,x14,h14,x15,h15,x16,h16,x17,h17,x18,h18,x19,h19,x20,h20,x21,h21,x22,h22,x23,h23,x24,h24,x25,h25,x26,h26,x27,h27,x28,h28,x29,h29,x30,h30,x31,h31,x32,h32,x33,h33,x34,h34,x35,h35,x36,h36,x37,h37,x38,h38,x39,h39,x40,h40,rfl⟩:=h
  exact⟨LeafI.int_spec h0,LeafI.str_spec h1,LeafI.str_spec h2,LeafI.int_spec h3,LeafI.int_spec h4,LeafI.int_spec h5,LeafI.int_spec h6,LeafI.bool_spec h7,LeafI.list_spec h8,LeafI.list_spec h9,LeafI.int_spec h10,LeafI.int_spec h11,LeafI.int_spec h12,LeafI.int_spec h13,LeafI.list_spec h14,LeafI.int_spec h15,LeafI.int_spec h16,LeafI.list_spec h17,LeafI.bool_spec h18,LeafI.int_spec h19,LeafI.int_spec h20,LeafI.bool_spec h21,LeafI.int_spec h22,LeafI.int_spec h23,LeafI.bool_spec h24,LeafI.bool_spec h25,LeafI.bool_spec h26,LeafI.int_spec h27,LeafI.int_spec h28,LeafI.bool_spec h29,LeafI.bool_spec h30,LeafI.int_spec h31,LeafI.int_spec h32,LeafI.int_spec h33,LeafI.int_spec h34,LeafI.bool_spec h35,LeafI.bool_spec h36,LeafI.bool_spec h37,LeafI.list_spec h38,LeafI.int_spec h39,LeafI.list_spec h40,trivial⟩
 ·cases h
theorem of_lState_spec {ls:List LeafI} {x:ty .lState} (h:of_lState ls=some x):All2 InL ls (leaves x):=by
 unfold of_lState at h
 split at h
 ·simp only[Option.bind_eq_some_iff,Option.some.injEq]at h
  obtain⟨x0,h0,x1,h1,x2,h2,x3,h3,x4,h4,x5,h5,x6,h6,rfl⟩:=h
  exact⟨LeafI.int_spec h0,LeafI.int_spec h1,LeafI.int_spec h2,LeafI.int_spec h3,LeafI.list_spec h4,LeafI.list_spec h5,LeafI.list_spec h6,trivial⟩
 ·cases h
theorem of_lSrv_spec {ls:List LeafI} {x:ty .lSrv} (h:of_lSrv ls=some x):All2 InL ls (leaves x):=by
 unfold of_lSrv at h
 split at h
 ·simp only[Option.bind_eq_some_iff,Option.some.injEq]at h
  obtain⟨x0,h0,x1,h1,x2,h2,x3,h3,x4,h4,x5,h5,x6,h6,x7,h7,x8,h8,x9,h9,x10,h10,x11,h11,x12,h12,x13,h13,x14,h14,x15,h15,x16,h16,x17,h17,x18,h18,x19,h19,x20,h20,x21,h21,x22,h22,x23,h23,x24,h24,x25,h25,x26,h26,x27,h27,x28,h28,x29,h29,x30,h30,x31,h31,x32,h32,x33,h33,x34,h34,x35,h35,x36,h36,rfl⟩:=h
  exact⟨LeafI.int_spec h0,LeafI.int_spec h1,LeafI.int_spec h2,LeafI.int_spec h3,LeafI.list_spec h4,LeafI.list_spec h5,LeafI.list_spec h6,LeafI.int_spec h7,LeafI.bool_spec h8,LeafI.int_spec h9,LeafI.int_spec h10,LeafI.int_spec h11,LeafI.int_spec h12,LeafI.list_spec h13,LeafI.list_spec h14,LeafI.list_spec h15,LeafI.int_spec h16,LeafI.int_spec h17,LeafI.int_spec h18,LeafI.list_spec h19,LeafI.list_spec h20,LeafI.list_spec h21,LeafI.int_spec h22,LeafI.int_spec h23,LeafI.int_spec h24,LeafI.bool_spec h25,LeafI.int_spec h26,LeafI.int_spec h27,LeafI.int_spec h28,LeafI.list_spec h29,LeafI.list_spec h30,LeafI.list_spec h31,LeafI.int_spec h32,LeafI.list_spec h33,LeafI.list_spec h34,LeafI.int_spec h35,LeafI.list_spec h36,trivial⟩
 ·cases h
theorem of_iState_spec {ls:List LeafI} {x:ty .iState} (h:of_iState ls=some x):All2 InL ls (leaves x):=by
 unfold of_iState at h
 split at h
 ·simp only[Option.bind_eq_some_iff,Option.some.injEq]at h
  obtain⟨x0,h0,x1,h1,x2,h2,x3,h3,x4,h4,x5,h5,x6,h6,rfl⟩:=h
  exact⟨LeafI.int_spec h0,LeafI.int_spec h1,LeafI.int_spec h2,LeafI.int_spec h3,LeafI.list_spec h4,LeafI.list_spec h5,LeafI.list_spec h6,trivial⟩
 ·cases h
theorem of_iSrv_spec {ls:List LeafI} {x:ty .iSrv} (h:of_iSrv ls=some x):All2 InL ls (leaves x):=by
 unfold of_iSrv at h
 split at h
 ·simp only[Option.bind_eq_some_iff,Option.some.injEq]at h
  obtain⟨x0,h0,x1,h1,x2,h2,x3,h3,x4,h4,x5,h5,x6,h6,x7,h7,x8,h8,x9,h9,x10,h10,x11,h11,x12,h12,x13,h13,x14,h14,x15,h15,x16,h16,x17,h17,x18,h18,x19,h19,x20,h20,x21,h21,x22,h22,x23,h23,x24,h24,x25,h25,x26,h26,x27,h27,x28,h28,x29,h29,x30,h30,x31,h31,x32,h32,x33,h33,x34,h34,x35,h35,x36,h36,rfl⟩:=h
  exact⟨LeafI.int_spec h0,LeafI.int_spec h1,LeafI.int_spec h2,LeafI.int_spec h3,LeafI.list_spec h4,LeafI.list_spec h5,LeafI.list_spec h6,LeafI.int_spec h7,LeafI.bool_spec h8,LeafI.int_spec h9,LeafI.int_spec h10,LeafI.int_spec h11,LeafI.int_spec h12,LeafI.list_spec h13,LeafI.list_spec h14,LeafI.list_spec h15,LeafI.int_spec h16,LeafI.int_spec h17,LeafI.int_spec h18,LeafI.list_spec h19,LeafI.list_spec h20,LeafI.list_spec h21,LeafI.int_spec h22,LeafI.int_spec h23,LeafI.int_spec h24,LeafI.bool_spec h25,LeafI.int_spec h26,LeafI.int_spec h27,LeafI.int_spec h28,LeafI.list_spec h29,LeafI.list_spec h30,LeafI.list_spec h31,LeafI.int_spec h32,LeafI.list_spec h33,LeafI.list_spec h34,LeafI.int_spec h35,LeafI.list_spec h36,trivial⟩
 ·cases h
theorem ofLeaves_spec:∀{k:K} {ls:List LeafI} {x:ty k},ofLeaves k ls=some x->All2 InL ls (leaves x)
 | .int,_,_,h=>of_int_spec h
 | .bool,_,_,h=>of_bool_spec h
 | .u8,_,_,h=>of_u8_spec h
 | .str,_,_,h=>of_str_spec h
 | .iProc,_,_,h=>of_iProc_spec h
 | .iLink,_,_,h=>of_iLink_spec h
 | .iTurn,_,_,h=>of_iTurn_spec h
 | .iAttr,_,_,h=>of_iAttr_spec h
 | .lAttr,_,_,h=>of_lAttr_spec h
 | .lLink,_,_,h=>of_lLink_spec h
 | .lTurn,_,_,h=>of_lTurn_spec h
 | .lAsk,_,_,h=>of_lAsk_spec h
 | .iCell,_,_,h=>of_iCell_spec h
 | .lProc,_,_,h=>of_lProc_spec h
 | .iAsk,_,_,h=>of_iAsk_spec h
 | .iRect,_,_,h=>of_iRect_spec h
 | .iNode,_,_,h=>of_iNode_spec h
 | .lNode,_,_,h=>of_lNode_spec h
 | .lCell,_,_,h=>of_lCell_spec h
 | .lTable,_,_,h=>of_lTable_spec h
 | .iTable,_,_,h=>of_iTable_spec h
 | .iOp,_,_,h=>of_iOp_spec h
 | .iHist,_,_,h=>of_iHist_spec h
 | .lOp,_,_,h=>of_lOp_spec h
 | .lHist,_,_,h=>of_lHist_spec h
 | .iGrid,_,_,h=>of_iGrid_spec h
 | .iFile,_,_,h=>of_iFile_spec h
 | .iVp,_,_,h=>of_iVp_spec h
 | .lVp,_,_,h=>of_lVp_spec h
 | .lGrid,_,_,h=>of_lGrid_spec h
 | .lWin,_,_,h=>of_lWin_spec h
 | .lSess,_,_,h=>of_lSess_spec h
 | .lFile,_,_,h=>of_lFile_spec h
 | .iWin,_,_,h=>of_iWin_spec h
 | .iSess,_,_,h=>of_iSess_spec h
 | .iRow,_,_,h=>of_iRow_spec h
 | .lRow,_,_,h=>of_lRow_spec h
 | .lDisk,_,_,h=>of_lDisk_spec h
 | .lDepot,_,_,h=>of_lDepot_spec h
 | .iDisk,_,_,h=>of_iDisk_spec h
 | .iDepot,_,_,h=>of_iDepot_spec h
 | .iScr,_,_,h=>of_iScr_spec h
 | .iTerm,_,_,h=>of_iTerm_spec h
 | .iPane,_,_,h=>of_iPane_spec h
 | .lScr,_,_,h=>of_lScr_spec h
 | .lTerm,_,_,h=>of_lTerm_spec h
 | .lPane,_,_,h=>of_lPane_spec h
 | .lState,_,_,h=>of_lState_spec h
 | .lSrv,_,_,h=>of_lSrv_spec h
 | .iState,_,_,h=>of_iState_spec h
 | .iSrv,_,_,h=>of_iSrv_spec h
open Go.RowKit
section
variable {S S':Nat->Prop} {w w':World} {J J':Nat->Option (Nat×Nat)} {σ σ':Sto}
structure Tr (S S':Nat->Prop) (w w':World) (J J':Nat->Option (Nat×Nat)) (σ σ':Sto):Prop where
 row:∀{k:K} {u:Value} {l:List (ty k)},Row S w k u l->Row S' w' k u l
 ref:∀{id ver off n:Nat} {full:Bool} {u:Value},RefC w J σ id ver off n full u->RefC w' J' σ' id ver off n full u
 ptr:∀{id ver i j:Nat} {u:Value},PtrC J σ id ver i j u->PtrC J' σ' id ver i j u
theorem Tr.v0 (T:Tr S S' w w' J J' σ σ') (h:Val0 S w J σ p u):Val0 S' w' J' σ' p u:=by
 cases p with
 | v x=>exact h
 | nil=>exact h
 | row own k l=>exact⟨h.1,T.row h.2⟩
 | ref id ver off n full=>exact T.ref h
 | ptr id ver i j=>exact T.ptr h
 | eptr k l i j=>obtain⟨b,off,h1,h2,h3⟩:=h;exact⟨b,off,h1,h2,T.row h3⟩
 | dead=>trivial
 | un=>exact h
 | agg cs=>exact h
 | tup vs=>exact h
 | fn f caps=>exact h
 | obj o=>exact h
 | drow k l=>exact h
 | gb r b=>exact h
theorem Tr.vs (T:Tr S S' w w' J J' σ σ') (h:ValS S w J σ p u):ValS S' w' J' σ' p u:=by
 cases p with
 | fn f caps=>obtain⟨us,h1,h2⟩:=h;exact⟨us,h1,h2.mono fun a b=>T.v0⟩
 | _=>first|trivial|exact absurd h (by intro h;exact h)|exact T.v0 (p:= .v _) h|exact T.v0 (p:= .nil) h|exact T.v0 (p:= .row _ _ _) h|exact T.v0 (p:= .ref _ _ _ _ _) h|exact T.v0 (p:= .ptr _ _ _ _) h|exact T.v0 (p:= .eptr _ _ _ _) h|exact T.v0 (p:= .dead) h|exact T.v0 (p:= .un) h|exact T.v0 (p:= .agg _) h|exact T.v0 (p:= .tup _) h|exact T.v0 (p:= .fn _ _) h|exact T.v0 (p:= .drow _ _) h|exact T.v0 (p:= .gb _ _) h
theorem Tr.v1 (T:Tr S S' w w' J J' σ σ') (h:Val1 S w J σ p u):Val1 S' w' J' σ' p u:=by
 cases p with
 | agg cs=>obtain⟨us,h1,h2⟩:=h;exact⟨us,h1,h2.mono fun a b=>T.vs⟩
 | _=>first|trivial|exact absurd h (by intro h;exact h)|exact T.vs (p:= .v _) h|exact T.vs (p:= .nil) h|exact T.vs (p:= .row _ _ _) h|exact T.vs (p:= .ref _ _ _ _ _) h|exact T.vs (p:= .ptr _ _ _ _) h|exact T.vs (p:= .eptr _ _ _ _) h|exact T.vs (p:= .dead) h|exact T.vs (p:= .un) h|exact T.vs (p:= .agg _) h|exact T.vs (p:= .tup _) h|exact T.vs (p:= .fn _ _) h|exact T.vs (p:= .drow _ _) h|exact T.vs (p:= .gb _ _) h
theorem Tr.vc (T:Tr S S' w w' J J' σ σ') (h:ValC S w J σ p u):ValC S' w' J' σ' p u:=by
 cases p with
 | tup vs=>obtain⟨us,h1,h2⟩:=h;exact⟨us,h1,h2.mono fun a b=>T.v1⟩
 | _=>first|trivial|exact absurd h (by intro h;exact h)|exact T.v1 (p:= .v _) h|exact T.v1 (p:= .nil) h|exact T.v1 (p:= .row _ _ _) h|exact T.v1 (p:= .ref _ _ _ _ _) h|exact T.v1 (p:= .ptr _ _ _ _) h|exact T.v1 (p:= .eptr _ _ _ _) h|exact T.v1 (p:= .dead) h|exact T.v1 (p:= .un) h|exact T.v1 (p:= .agg _) h|exact T.v1 (p:= .tup _) h|exact T.v1 (p:= .fn _ _) h|exact T.v1 (p:= .drow _ _) h|exact T.v1 (p:= .gb _ _) h
theorem Tr.blk (T:Tr S S' w w' J J' σ σ') {N:List Nat} {id:Nat} {b:Blk} (hb:J' id=J id) (hk:∀x∈N,w'.heap[x]?=w.heap[x]?) (h:BlkC S w J σ N id b):BlkC S' w' J' σ' N id b:=by
 cases b with
 | box cs=>
  obtain⟨b,off,cur,E,h0,rfl,h1,h2,h3⟩:=h
  refine⟨b,off,cur,E,hb.trans h0,rfl,h1.keep (hk _ (by simp)),h2,fun j p hp=> ?_⟩
  obtain⟨u,h4,h5,h6⟩:=h3 j p hp
  exact⟨u,h4,h5,T.vs h6⟩
 | rowb k l=>
  rcases h with⟨h1,h2,h3⟩ |⟨b,cap,cur,h0,rfl,hl,h1,h2,h3,h4,h5⟩
  ·exact .inl ⟨hb.trans h1,h2,h3⟩
  ·refine .inr ⟨b,cap,cur,hb.trans h0,rfl,hl,h1.keep (hk _ (by simp)),h2,h3,h4,fun i x hx j lf hlf=> ?_⟩
   obtain⟨u,hu,h6⟩:=h5 i x hx j lf hlf
   refine⟨u,hu,?_⟩
   cases lf with
   | sc q=>exact h6
   | nest k' l'=>exact T.row h6
 | rowd k l=>
  rcases h with⟨h1,h2,h3⟩ |⟨b,cap,cur,L,h0,rfl,h1⟩
  ·exact .inl ⟨hb.trans h1,h2,h3⟩
  ·exact .inr ⟨b,cap,cur,L,hb.trans h0,rfl,h1.keep (hk _ (by simp)) fun x hx=>hk x (by simp[hx])⟩
 | rowx k l i cs=>
  obtain⟨b,cap,cur,L1,L2,h0,rfl,h1,h2,h3,h4,h5,h6,h7,h8,h9,h10⟩:=h
  refine⟨b,cap,cur,L1,L2,hb.trans h0,rfl,h1,h2.keep (hk _ (by simp)),h3,h4,h5,h6,h7,fun j p hp=> ?_,All3.mono (fun lf u M hM h=>DLeaf.keep h fun x hx=>hk x (by simp[hM x hx])) h9,All3.mono (fun lf u M hM h=>DLeaf.keep h fun x hx=>hk x (by simp[hM x hx])) h10⟩
  obtain⟨u,q1,q2,q3⟩:=h8 j p hp
  exact⟨u,q1,q2,T.vs q3⟩
 | objb o=>
  obtain⟨b,h0,rfl,h1⟩:=h
  exact⟨b,hb.trans h0,rfl,(hk b (by simp)).trans h1⟩
 | iterb mid mver since seen stepped=>
  obtain⟨b,m,h0,rfl,h1,h2⟩:=h
  exact⟨b,m,hb.trans h0,rfl,(hk b (by simp)).trans h1,T.ptr h2⟩
end
theorem cell_same {o:Nat} (h:w'.heap[b]?=w.heap[b]?) (hu:w.cell? ⟨b,o,none⟩ = some u):w'.cell? ⟨b,o,none⟩ = some u:=by
 rw[<-hu];simp only[World.cell?,h]
theorem rowN {N:List Nat} {id:Nat} {blk:Blk} {l:List (ty k)} (hr:IsRow blk k l) (h:BlkC S w J σ N id blk) (hb:J id=some (b,0)):b∈N:=by
 cases hr with
 | b=>
  rcases h with⟨q,_⟩ |⟨b',cap,cur,q,q2,_⟩
  ·rw[q]at hb;cases hb
  ·rw[q]at hb;cases hb;rw[q2];simp
 | d=>
  rcases h with⟨q,_⟩ |⟨b',cap,cur,L,q,q2,_⟩
  ·rw[q]at hb;cases hb
  ·rw[q]at hb;cases hb;rw[q2];simp
 | x=>
  obtain⟨b',cap,cur,L1,L2,q,q2,_⟩:=h
  rw[q]at hb;cases hb;rw[q2];simp
theorem StS.step {X:Ctx} {tm:Array Value} (h:StS X S Z w tm J N) (σ':Sto) (C:Nat->Prop) (hSS:∀b,S b->S' b) (hSs:∀b,S b->w'.heap[b]?=w.heap[b]?) (hSf:∀b,S' b->Fz X w' N' σ' b)
  (hz:w.heap.size<=w'.heap.size)
  (hsame:∀b,b<w.heap.size->(∀id blk,C id->(Z.s id).blk=some blk->b∉N id)->w'.heap[b]?=w.heap[b]?)
  (hnc:∀id,¬C id->σ' id=Z.s id/\J' id=J id/\N' id=N id)
  (href:∀id,C id->∀ver off n full u,RefC w J Z.s id ver off n full u->RefC w' J' σ' id ver off n full u)
  (hptr:∀id,C id->∀ver i j u,PtrC J Z.s id ver i j u->PtrC J' σ' id ver i j u)
  (hblk:∀id b,C id->(σ' id).blk=some b->Tr S S' w w' J J' Z.s σ'->BlkC S' w' J' σ' (N' id) id b)
  (hown:∀id b,C id->(σ' id).blk=some b->∀x∈N' id,(∃id0 b0,C id0/\(Z.s id0).blk=some b0/\x∈N id0)∨w.heap.size<=x/\x<w'.heap.size)
  (hnd:∀id b,C id->(σ' id).blk=some b->(N' id).Nodup)
  (hdj:∀id id' b b',C id->C id'->(σ' id).blk=some b->(σ' id').blk=some b'->id≠id'->∀x∈N' id,x∉N' id')
  (hext:∀j p,X.ext[j]?=some p->C j->J' j=some p/\∃cs,(σ' j).blk=some (.box cs)/\X.lens[j]?=some cs.length)
  (hrx:∀q u n,X.rx q=some (u,n)->C (50+q)->∃blk k l,σ' (50+q)=⟨0,some blk⟩/\IsRow blk k l/\l.length=n)
  (hfrm:Frm X w') (henv:X.E w') :
  Tr S S' w w' J J' Z.s σ'/\StS X S' ⟨Z.t,σ'⟩ w' tm J' N':=by
 classical
 have dec:∀id,C id∨¬C id:=fun id=>Classical.em _
 have osame:∀id blk,¬C id->(Z.s id).blk=some blk->∀x∈N id,w'.heap[x]?=w.heap[x]?:=fun id blk hc h1 x hx=>
  hsame x (h.lt id blk h1 x hx) fun id' blk' hc' h1' hx'=>h.disj id id' blk blk' h1 h1' (fun e=>hc (e▸hc')) x hx hx'
 have T:Tr S S' w w' J J' Z.s σ':=by
  refine⟨fun hr=>hr.mono hSS fun b o u hb hu=>cell_same (hSs b hb) hu,fun{id ver off n full u} hr=> ?_,fun{id ver i j u} hp=> ?_⟩
  ·rcases dec id with hc|hc
   ·exact href id hc _ _ _ _ _ hr
   ·obtain⟨e1,e2,_⟩:=hnc id hc
    refine⟨by rw[e1];exact hr.1,hr.2.1,fun blk k l hs hrow=> ?_⟩
    rw[e1]at hs
    obtain⟨h1,h2⟩:=hr.2.2 blk k l hs hrow
    refine⟨h1,?_⟩
    rcases h2 with⟨h2,h3⟩ |⟨b,c,o,h2,h3,h4,h4o,h5⟩
    ·exact .inl ⟨e2.trans h2,h3⟩
    ·refine .inr ⟨b,c,o,e2.trans h2,h3,h4,h4o,fun hf=> ?_⟩
     obtain⟨h6,h7,h8⟩:=h5 hf
     refine⟨h6,h7,fun cur E fz hh=>h8 cur E fz ?_⟩
     have hb:=h.blk id _ (by rw[hs])
     have hmem:b∈N id:=rowN hrow hb h2
     rw[<-osame id _ hc (by rw[hs]) b hmem];exact hh
  ·rcases dec id with hc|hc
   ·exact hptr id hc _ _ _ _ hp
   ·obtain⟨e1,e2,_⟩:=hnc id hc
    refine⟨by rw[e1];exact hp.1,hp.2.1,fun blk hs=> ?_⟩
    rw[e1]at hs
    have:=hp.2.2 blk hs
    rw[e2];exact this
 refine⟨T,⟨fun t u hu=>T.vc (h.tmp t u hu),fun id b hb=> ?_,fun id b hb x hx=> ?_,fun id b hb=> ?_,fun id id' b b' hb hb' hne x hx hx'=> ?_,fun id b hb x hx=> ?_,fun j p hj=> ?_,fun q u n hq=> ?_,hfrm,henv,hSf⟩⟩
 ·rcases dec id with hc|hc
  ·exact hblk id b hc hb T
  ·obtain⟨e1,e2,e3⟩:=hnc id hc
   have hb0:(Z.s id).blk=some b:=by rw[<-e1];exact hb
   rw[e3]
   exact T.blk e2 (osame id b hc hb0) (h.blk id b hb0)
 ·rcases dec id with hc|hc
  ·rcases hown id b hc hb x hx with⟨id0,b0,_,h1,h2⟩ | h1
   ·exact Nat.lt_of_lt_of_le (h.lt id0 b0 h1 x h2) hz
   ·exact h1.2
  ·obtain⟨e1,e2,e3⟩:=hnc id hc
   have hb0:(Z.s id).blk=some b:=by rw[<-e1];exact hb
   rw[e3]at hx
   exact Nat.lt_of_lt_of_le (h.lt id b hb0 x hx) hz
 ·rcases dec id with hc|hc
  ·exact hnd id b hc hb
  ·obtain⟨e1,e2,e3⟩:=hnc id hc
   rw[e3]
   exact h.nodup id b (by rw[<-e1];exact hb)
 ·have key:∀(i i':Nat) (c c':Blk),C i->¬C i'->(σ' i).blk=some c->(σ' i').blk=some c'->x∈N' i->x∈N' i'->False:=by
   intro i i' c c' hc hc' hb hb' hx hx'
   obtain⟨e1,e2,e3⟩:=hnc i' hc'
   rw[e3]at hx'
   have hb0:(Z.s i').blk=some c':=by rw[<-e1];exact hb'
   rcases hown i c hc hb x hx with⟨id0,b0,hc0,h1,h2⟩ | h1
   ·exact h.disj id0 i' b0 c' h1 hb0 (fun e=>hc' (e▸hc0)) x h2 hx'
   ·have:=h.lt i' c' hb0 x hx';omega
  rcases dec id with hc|hc
  ·rcases dec id' with hc'|hc'
   ·exact hdj id id' b b' hc hc' hb hb' hne x hx hx'
   ·exact key id id' b b' hc hc' hb hb' hx hx'
  ·rcases dec id' with hc'|hc'
   ·exact key id' id b' b hc' hc hb' hb hx' hx
   ·obtain⟨e1,e2,e3⟩:=hnc id hc
    obtain⟨f1,f2,f3⟩:=hnc id' hc'
    rw[e3]at hx;rw[f3]at hx'
    exact h.disj id id' b b' (by rw[<-e1];exact hb) (by rw[<-f1];exact hb') hne x hx hx'
 ·rcases dec id with hc|hc
  ·rcases hown id b hc hb x hx with⟨id0,b0,_,h1,h2⟩ | h1
   ·exact h.new id0 b0 h1 x h2
   ·exact .inr (Nat.le_trans h.frm.size h1.1)
  ·obtain⟨e1,e2,e3⟩:=hnc id hc
   rw[e3]at hx
   exact h.new id b (by rw[<-e1];exact hb) x hx
 ·rcases dec j with hc|hc
  ·exact hext j p hj hc
  ·obtain⟨e1,e2,e3⟩:=hnc j hc
   obtain⟨h1,cs,h2,h3⟩:=h.ext j p hj
   exact⟨by rw[e2];exact h1,cs,by show(σ' j).blk=_;rw[e1];exact h2,h3⟩
 ·obtain⟨h1,blk,k,l,h2,h3,h4,h5⟩:=h.rxt q u n hq
  rcases dec (50+q)with hc|hc
  ·obtain⟨blk',k',l',h6,h7,h8⟩:=hrx q u n hq hc
   exact⟨h1,blk',k',l',h6,h7,h8,T.ref h5⟩
  ·obtain⟨e1,e2,e3⟩:=hnc (50+q) hc
   exact⟨h1,blk,k,l,by show σ' (50+q)=_;rw[e1];exact h2,h3,h4,T.ref h5⟩
theorem St.step {X:Ctx} {Z:Env} {w w':World} {tm:Array Value} {J J':Nat->Option (Nat×Nat)} {N N':Nat->List Nat} (h:St X Z w tm J N) (σ':Sto) (C:Nat->Prop)
  (hz:w.heap.size<=w'.heap.size)
  (hsame:∀b,b<w.heap.size->(∀id blk,C id->(Z.s id).blk=some blk->b∉N id)->w'.heap[b]?=w.heap[b]?)
  (hnc:∀id,¬C id->σ' id=Z.s id/\J' id=J id/\N' id=N id)
  (href:∀id,C id->∀ver off n full u,RefC w J Z.s id ver off n full u->RefC w' J' σ' id ver off n full u)
  (hptr:∀id,C id->∀ver i j u,PtrC J Z.s id ver i j u->PtrC J' σ' id ver i j u)
  (hblk:∀id b,C id->(σ' id).blk=some b->Tr (Fz X w N Z.s) (Fz X w' N' σ') w w' J J' Z.s σ'->BlkC (Fz X w' N' σ') w' J' σ' (N' id) id b)
  (hown:∀id b,C id->(σ' id).blk=some b->∀x∈N' id,(∃id0 b0,C id0/\(Z.s id0).blk=some b0/\x∈N id0)∨w.heap.size<=x/\x<w'.heap.size)
  (hnd:∀id b,C id->(σ' id).blk=some b->(N' id).Nodup)
  (hdj:∀id id' b b',C id->C id'->(σ' id).blk=some b->(σ' id').blk=some b'->id≠id'->∀x∈N' id,x∉N' id')
  (hext:∀j p,X.ext[j]?=some p->C j->J' j=some p/\∃cs,(σ' j).blk=some (.box cs)/\X.lens[j]?=some cs.length)
  (hrx:∀q u n,X.rx q=some (u,n)->C (50+q)->∃blk k l,σ' (50+q)=⟨0,some blk⟩/\IsRow blk k l/\l.length=n)
  (hfrm:Frm X w') (henv:X.E w') :
  Tr (Fz X w N Z.s) (Fz X w' N' σ') w w' J J' Z.s σ'/\St X ⟨Z.t,σ'⟩ w' tm J' N':=by
 have dec:∀id,C id∨¬C id:=fun id=>Classical.em _
 have occ:∀b,b<w.heap.size->Occ N' σ' b->Occ N Z.s b:=by
  rintro b hb ⟨id,blk,h1,h2⟩
  rcases dec id with hc|hc
  ·rcases hown id blk hc h1 b h2 with⟨id0,b0,_,h3,h4⟩ | h3
   ·exact⟨id0,b0,h3,h4⟩
   ·omega
  ·obtain⟨e1,e2,e3⟩:=hnc id hc
   rw[e1]at h1;rw[e3]at h2
   exact⟨id,blk,h1,h2⟩
 exact StS.step h σ' C (fun b hb=>⟨Nat.lt_of_lt_of_le hb.1 hz,fun ho=>hb.2.1 (occ b hb.1 ho),hb.2.2⟩) (fun b hb=>hsame b hb.1 fun id blk _ h1 h2=>hb.2.1 ⟨id,blk,h1,h2⟩) (fun b hb=>hb) hz hsame hnc href hptr hblk hown hnd hdj hext hrx hfrm henv
section
variable {X:Ctx} {S:Nat->Prop} {Z:Env} {w:World} {tm:Array Value} {J:Nat->Option (Nat×Nat)} {N:Nat->List Nat}
theorem StS.rx_no (h:StS X S Z w tm J N) {id:Nat} (hn:∀blk k l,(Z.s id).blk=some blk->¬IsRow blk k l):∀q u n,X.rx q=some (u,n)->50+q≠id:=fun q u n hq e=>by
 obtain⟨_,blk,k,l,h1,h2,_⟩:=h.rxt q u n hq
 exact hn blk k l (by rw[<-e,h1]) h2
theorem StS.rx_box (h:StS X S Z w tm J N) {id:Nat} {cs:List PV} (hid:Z.s id=⟨ver,some (.box cs)⟩):∀q u n,X.rx q=some (u,n)->50+q≠id:=
 h.rx_no fun blk k l hb hr=>by rw[hid]at hb;cases hb;cases hr
theorem StS.rx_far (h:StS X S Z w tm J N) {id:Nat} (hid:99<=id):∀q u n,X.rx q=some (u,n)->50+q≠id:=fun q u n hq e=>by
 obtain⟨h1,_⟩:=h.rxt q u n hq
 omega
theorem IsRow.same {b:Blk} {l:List (ty k)} {l':List (ty k')} (h:IsRow b k l) (h':IsRow b k' l'):(⟨k,l⟩:(k:K)×List (ty k))=⟨k',l'⟩:=by
 cases h<;>cases h'<;>rfl
theorem IsRow.len {b:Blk} {l:List (ty k)} {l':List (ty k')} (h:IsRow b k l) (h':IsRow b k' l'):l.length=l'.length:=by
 cases h<;>cases h'<;>rfl
theorem StS.rx_same (h:StS X S Z w tm J N) {id:Nat} {blk blk':Blk} {l:List (ty k)} {l':List (ty k')} (hid:Z.s id=⟨ver,some blk⟩) (hr:IsRow blk k l) (hr':IsRow blk' k' l') (hl:l'.length=l.length) :
  ∀q u n,X.rx q=some (u,n)->50+q=id->∃blk k l,upd Z.s id ⟨ver,some blk'⟩ (50+q)=⟨0,some blk⟩/\IsRow blk k l/\l.length=n:=fun q u n hq e=>by
 obtain⟨_,b0,k0,l0,h1,h2,h3,_⟩:=h.rxt q u n hq
 rw[e,hid]at h1
 cases h1
 exact⟨blk',k',l',by rw[e,upd_same],hr',by rw[hl,hr.len h2,h3]⟩
theorem row_at {N:List Nat} {id:Nat} {blk:Blk} {l:List (ty k)} (hw:IsRw blk k l) (h:BlkC S w J σ N id blk) (hS:∀b,S b->S' b) (hN:∀b∈N,S' b) :
  (J id=none/\l=[]/\N=[])∨∃b cap cur,J id=some (b,0)/\b∈N/\OwnAt S' w b l cap cur:=by
 cases hw with
 | b=>
  rcases h with h|⟨b,cap,cur,h1,h2,h3⟩
  ·exact .inl h
  ·exact .inr ⟨b,cap,cur,h1,by rw[h2];simp,h3.mono rfl hS fun _ _ _ _ h=>h⟩
 | d=>
  rcases h with h|⟨b,cap,cur,L,h1,h2,h3⟩
  ·exact .inl h
  ·exact .inr ⟨b,cap,cur,h1,by rw[h2];simp,h3.cont fun x hx=>hN x (by rw[h2];simp[hx])⟩
theorem row_head {N:List Nat} {id:Nat} {blk:Blk} {l:List (ty k)} (hw:IsRow blk k l) (h:BlkC S w J σ N id blk) :
  (J id=none/\l=[]/\N=[])∨∃b cap cur,J id=some (b,0)/\b∈N/\l.length<=9223372036854775807/\RowAt w b cur (tid k)/\l.length<=cap/\cap<=maxLen/\cur.size=cap*size k:=by
 cases hw with
 | b=>
  rcases h with h|⟨b,cap,cur,h1,h2,h3,h4,h5,h6,h7,_⟩
  ·exact .inl h
  ·exact .inr ⟨b,cap,cur,h1,by rw[h2];simp,h3,h4,h5,h6,h7⟩
 | d=>
  rcases h with h|⟨b,cap,cur,L,h1,h2,h3,h4,h5,h6,h7,_⟩
  ·exact .inl h
  ·exact .inr ⟨b,cap,cur,h1,by rw[h2];simp,h3,h4,h5,h6,h7⟩
 | x=>
  obtain⟨b,cap,cur,L1,L2,h1,h2,h3,h4,h5,h6,h7,_⟩:=h
  exact .inr ⟨b,cap,cur,h1,by rw[h2];simp,h3,h4,h5,h6,h7⟩
end
open Go.RowKit
inductive Eff (α:Type):Type 1 where
 | ret (a:α)
 | fail
 | rd (id:Nat) (k:Ent->Eff α)
 | wr (id:Nat) (e:Ent) (k:Eff α)
 | guard (p:Prop) (d:Decidable p) (k:Eff α)
 | opt {γ:Type} (o:Option γ) (k:γ->Eff α)
 | call (f:FuncId) (args:List PV) (exts:List (List PV)) (k:PV->List (List PV)->Eff α)
 | ite (b:Bool) (x y:Eff α)
def gdE {α:Type} (p:Prop) [d:Decidable p] (k:Eff α):Eff α:= .guard p d k
abbrev Con:=FuncId->List PV->List (List PV)->PV->List (List PV)->Prop
section
variable (PC:Con)
def Eff.Run {α:Type}:Eff α->Sto->α->Sto->List Nat->List Nat->Prop
 | .ret a,s,a',s',r,w=>a'=a/\s'=s/\r=[]/\w=[]
 | .fail,_,_,_,_,_=>False
 | .rd id k,s,a',s',r,w=>∃r',r=id::r'/\(k (s id)).Run s a' s' r' w
 | .wr id e k,s,a',s',r,w=>∃w',w=id::w'/\k.Run (upd s id e) a' s' r w'
 | .guard p _ k,s,a',s',r,w=>p/\k.Run s a' s' r w
 | .opt o k,s,a',s',r,w=>∃x,o=some x/\(k x).Run s a' s' r w
 | .call f args exts k,s,a',s',r,w=>∃v x,PC f args exts v x/\(k v x).Run s a' s' r w
 | .ite b x y,s,a',s',r,w=>(b=true/\x.Run s a' s' r w)∨(b=false/\y.Run s a' s' r w)
theorem Eff.loc {α:Type}:∀(E:Eff α) (s s2:Sto) (a:α) (s':Sto) (r w:List Nat),E.Run PC s a s' r w->(∀id∈r,s2 id=s id)->
  (∀id,id∉w->s' id=s id)/\∃s2',E.Run PC s2 a s2' r w/\(∀id∈w,s2' id=s' id)/\∀id,id∉w->s2' id=s2 id
 | .ret a,s,s2,a',s',r,w,⟨e1,e2,e3,e4⟩,h=>by
  subst e1 e2 e3 e4
  exact⟨fun _ _=>rfl,s2,⟨rfl,rfl,rfl,rfl⟩,by simp,fun _ _=>rfl⟩
 | .fail,_,_,_,_,_,_,h,_=>h.elim
 | .rd id k,s,s2,a',s',r,w,⟨r',e,h1⟩,h=>by
  subst e
  have e:=h id (by simp)
  obtain⟨h2,s2',h3,h4⟩:=Eff.loc (k (s id)) s s2 a' s' r' w h1 (fun i hi=>h i (List.mem_cons_of_mem _ hi))
  exact⟨h2,s2',⟨r',rfl,by rw[e];exact h3⟩,h4⟩
 | .wr id e k,s,s2,a',s',r,w,⟨w',ew,h1⟩,h=>by
  subst ew
  obtain⟨h2,s2',h3,h4,h5⟩:=Eff.loc k (upd s id e) (upd s2 id e) a' s' r w' h1 (fun i hi=>by by_cases hi2:i=id<;>simp[upd,hi2,h i hi])
  refine⟨fun i hi=> ?_,s2',⟨w',rfl,h3⟩,fun i hi=> ?_,fun i hi=> ?_⟩
  ·simp only[List.mem_cons,not_or]at hi
   rw[h2 i hi.2,upd_ne _ _ hi.1]
  ·by_cases hw:i∈w'
   ·exact h4 i hw
   ·have:i=id:=by simpa [hw]using hi
    subst this
    rw[h5 i hw,h2 i hw,upd_same,upd_same]
  ·simp only[List.mem_cons,not_or]at hi
   rw[h5 i hi.2,upd_ne _ _ hi.1]
 | .guard p d k,s,s2,a',s',r,w,⟨hp,h1⟩,h=>by
  obtain⟨h2,s2',h3,h4⟩:=Eff.loc k s s2 a' s' r w h1 h
  exact⟨h2,s2',⟨hp,h3⟩,h4⟩
 | .opt o k,s,s2,a',s',r,w,⟨x,hp,h1⟩,h=>by
  obtain⟨h2,s2',h3,h4⟩:=Eff.loc (k x) s s2 a' s' r w h1 h
  exact⟨h2,s2',⟨x,hp,h3⟩,h4⟩
 | .call f args exts k,s,s2,a',s',r,w,⟨v,x,hc,h1⟩,h=>by
  obtain⟨h2,s2',h3,h4⟩:=Eff.loc (k v x) s s2 a' s' r w h1 h
  exact⟨h2,s2',⟨v,x,hc,h3⟩,h4⟩
 | .ite b x y,s,s2,a',s',r,w,h1,h=>by
  rcases h1 with⟨hb,h1⟩ |⟨hb,h1⟩
  ·obtain⟨h2,s2',h3,h4⟩:=Eff.loc x s s2 a' s' r w h1 h
   exact⟨h2,s2',.inl ⟨hb,h3⟩,h4⟩
  ·obtain⟨h2,s2',h3,h4⟩:=Eff.loc y s s2 a' s' r w h1 h
   exact⟨h2,s2',.inr ⟨hb,h3⟩,h4⟩
end
def putE (dst:Option Tmp) (v:PV) (t:Nat->PV):Nat->PV:=match dst with
 | some d=>upd t d v
 | none=>t
def wantedP (ops:Array Oper) (o:Oper) (t:Nat->PV):Option Bool:=match o.guard with
 | none=>some true
 | some (g,want)=>match(ops[g]?).bind (·.dst)with
  | none=>some false
  | some d=>match t d with
   | .v (.bool b)=>some (b==want)
   | .un=>some false
   | _=>none
section
variable (PC:Con) (eop:Oper->(Nat->PV)->Eff PV)
def OStep (ops:Array Oper) (o:Oper) (Z Z':Env) (r w:List Nat):Prop:=
 (wantedP ops o Z.t=some true/\∃v s',(eop o Z.t).Run PC Z.s v s' r w/\Z'=⟨putE o.dst v Z.t,s'⟩)∨
 (wantedP ops o Z.t=some false/\r=[]/\w=[]/\Z'=⟨putE o.dst .un Z.t,Z.s⟩)
inductive ORun (ops:Array Oper):List (Nat×List Nat×List Nat)->Env->Env->Prop
 | nil (Z:Env):ORun ops [] Z Z
 | cons {i:Nat} {o:Oper} {r w:List Nat} {l:List (Nat×List Nat×List Nat)} {Z Z1 Z2:Env} (hi:ops[i]?=some o) (h:OStep PC eop ops o Z Z1 r w) (ht:ORun ops l Z1 Z2):ORun ops ((i,r,w)::l) Z Z2
def Looks (eop:Oper->(Nat->PV)->Eff PV) (ops:Array Oper):Prop:=∀o t t',(∀d∈o.looksAt ops,t' d=t d)->eop o t'=eop o t
def disjL (a b:List Nat):Bool:=a.all fun x=> !b.contains x
def indepB (ops:Array Oper) (a b:Nat×List Nat×List Nat):Bool:=
 match ops[a.1]?,ops[b.1]? with
 | some oa,some ob=>oa.apart ops ob&&(disjL a.2.2 b.2.1&&(disjL b.2.2 a.2.1&&disjL a.2.2 b.2.2))
 | _,_=>false
end
open Go.RowKit
section
variable {PC:Con} {eop:Oper->(Nat->PV)->Eff PV} {ops:Array Oper}
theorem putE_ne {dst:Option Tmp} {t:Nat->PV} (h:dst≠some d):putE dst v t d=t d:=by
 cases dst with
 | none=>rfl
 | some e=>exact upd_ne _ _ (fun he=>h (he▸rfl))
theorem putE_comm {a b:Option Tmp} {u:PV} {t:Nat->PV} (h:∀d,a=some d->b≠some d):putE b u (putE a v t)=putE a v (putE b u t):=by
 cases a with
 | none=>rfl
 | some d=>
  cases b with
  | none=>rfl
  | some e=>
   have hne:e≠d:=fun he=>h d rfl (he▸rfl)
   funext x
   simp only[putE,upd]
   by_cases h1:x=e
   ·simp[h1,hne]
   ·simp[h1]
theorem wantedP_put {t:Nat->PV} {dst:Option Tmp} (h:∀d,dst=some d->d∉o.looksAt ops):wantedP ops o (putE dst v t)=wantedP ops o t:=by
 unfold wantedP
 cases hg:o.guard with
 | none=>rfl
 | some gw=>
  obtain⟨g,want⟩:=gw
  cases hd:(ops[g]?).bind (·.dst)with
  | none=>simp only[hd]
  | some d=>
   have:putE dst v t d=t d:=putE_ne (fun e=>h d e (by simp[Oper.looksAt,hg,hd]))
   simp only[hd,this]
theorem OStep.swap (hL:Looks eop ops) {oa ob:Oper} {Z1 Z2:Env} {ra wa rb wb:List Nat} (hi:ops[i]?=some oa) (hj:ops[j]?=some ob)
  (ha:OStep PC eop ops oa Z Z1 ra wa) (hb:OStep PC eop ops ob Z1 Z2 rb wb) (hind:indepB ops (i,ra,wa) (j,rb,wb)=true) :
  ∃Z1',OStep PC eop ops ob Z Z1' rb wb/\OStep PC eop ops oa Z1' Z2 ra wa:=by
 unfold indepB at hind
 simp only[hi,hj,Bool.and_eq_true]at hind
 obtain⟨hap,h1,h2,h3⟩:=hind
 obtain⟨p1,p2,p3⟩:=Oper.apart_spec hap
 have dj:∀{x y:List Nat},disjL x y=true->∀id∈x,id∉y:=fun h id hx hy=>by
  have:=List.all_eq_true.1 h id hx
  simp[hy]at this
 have eb:∀v,eop ob (putE oa.dst v Z.t)=eop ob Z.t:=fun v=>hL ob _ _ fun d hd=>putE_ne fun e=>p1 d e hd
 have ea:∀v,eop oa (putE ob.dst v Z.t)=eop oa Z.t:=fun v=>hL oa _ _ fun d hd=>putE_ne fun e=>p3 d e hd
 have wb':∀v,wantedP ops ob (putE oa.dst v Z.t)=wantedP ops ob Z.t:=fun v=>wantedP_put p1
 have wa':∀v,wantedP ops oa (putE ob.dst v Z.t)=wantedP ops oa Z.t:=fun v=>wantedP_put p3
 rcases ha with⟨hw,va,s1,hr,rfl⟩ |⟨hw,rfl,rfl,rfl⟩
 ·rcases hb with⟨hw2,vb,s2,hr2,rfl⟩ |⟨hw2,rfl,rfl,rfl⟩
  ·simp only[wb']at hw2
   simp only[eb]at hr2
   have off1:=(Eff.loc PC _ _ _ _ _ _ _ hr (fun _ _=>rfl)).1
   have off2:=(Eff.loc PC _ _ _ _ _ _ _ hr2 (fun _ _=>rfl)).1
   obtain⟨-,s1',hr3,a1,a2⟩:=Eff.loc PC _ s1 Z.s _ _ _ _ hr2 (fun id hid=>(off1 id (fun h=>dj h1 id h hid)).symm)
   obtain⟨-,s2',hr4,b1,b2⟩:=Eff.loc PC _ Z.s s1' _ _ _ _ hr (fun id hid=>a2 id (fun h=>dj h2 id h hid))
   have es:s2'=s2:=by
    funext id
    by_cases hia:id∈wa
    ·rw[b1 id hia,off2 id (dj h3 id hia)]
    ·rw[b2 id hia]
     by_cases hib:id∈wb
     ·exact a1 id hib
     ·rw[a2 id hib,off2 id hib,off1 id hia]
   subst es
   refine⟨⟨putE ob.dst vb Z.t,s1'⟩,.inl ⟨hw2,vb,s1',hr3,rfl⟩,.inl ⟨(wa' vb).trans hw,va,s2',?_,?_⟩⟩
   ·show(eop oa (putE ob.dst vb Z.t)).Run PC s1' va s2' ra wa
    rw[ea];exact hr4
   ·show(⟨_,_⟩:Env)=⟨_,_⟩
    rw[putE_comm p2]
  ·simp only[wb']at hw2
   refine⟨⟨putE ob.dst .un Z.t,Z.s⟩,.inr ⟨hw2,rfl,rfl,rfl⟩,.inl ⟨(wa' _).trans hw,va,s1,?_,?_⟩⟩
   ·show(eop oa (putE ob.dst .un Z.t)).Run PC Z.s va s1 ra wa
    rw[ea];exact hr
   ·show(⟨_,_⟩:Env)=⟨_,_⟩
    rw[putE_comm p2]
 ·rcases hb with⟨hw2,vb,s2,hr2,rfl⟩ |⟨hw2,rfl,rfl,rfl⟩
  ·simp only[wb']at hw2
   simp only[eb]at hr2
   refine⟨⟨putE ob.dst vb Z.t,s2⟩,.inl ⟨hw2,vb,s2,hr2,rfl⟩,.inr ⟨(wa' _).trans hw,rfl,rfl,?_⟩⟩
   show(⟨_,_⟩:Env)=⟨_,_⟩
   rw[putE_comm p2]
  ·simp only[wb']at hw2
   refine⟨⟨putE ob.dst .un Z.t,Z.s⟩,.inr ⟨hw2,rfl,rfl,rfl⟩,.inr ⟨(wa' _).trans hw,rfl,rfl,?_⟩⟩
   show(⟨_,_⟩:Env)=⟨_,_⟩
   rw[putE_comm p2]
abbrev Ft:=Nat×List Nat×List Nat
theorem ORun.app {l1 l2:List Ft} {Z1 Z2:Env} (h1:ORun PC eop ops l1 Z Z1) (h2:ORun PC eop ops l2 Z1 Z2):ORun PC eop ops (l1++l2) Z Z2:=by
 induction h1 with
 | nil=>exact h2
 | cons hi h _ ih=>exact .cons hi h (ih h2)
theorem ORun.bubble (hL:Looks eop ops) {x:Ft} {l2:List Ft} {Z2:Env}:∀(l1:List Ft) {Z:Env},ORun PC eop ops (l1++x::l2) Z Z2->(∀y∈l1,indepB ops y x=true)->ORun PC eop ops (x::(l1++l2)) Z Z2
 | [],Z,h,_=>h
 | y::l1,Z,h,hy=>by
  cases h with
  | cons hi ho ht=>
   have ih:=ORun.bubble hL l1 ht (fun z hz=>hy z (List.mem_cons_of_mem _ hz))
   cases ih with
   | cons hi2 ho2 ht2=>
    obtain⟨Z1',k1,k2⟩:=OStep.swap hL hi hi2 ho ho2 (hy _ (by simp))
    exact .cons hi2 k1 (.cons hi k2 ht2)
def depsOf (ops:List Oper):List (List Nat):=
 ops.foldl (fun acc o=>acc++ [((o.after.toList.filter fun e=>Region.binds .any e).flatMap fun e=>e.on::acc.getD e.on []).eraseDups]) []
def depsOk (ops:Array Oper) (D:List (List Nat)):Bool:=
 (List.range ops.size).all fun j=>match ops[j]? with
  | some o=>(o.after.toList.all fun e=> !Region.binds .any e||e.on<j)&&((D.getD j []).all fun i=>o.after.toList.any fun e=>Region.binds .any e&&(e.on==i||(D.getD e.on []).contains i))
  | none=>true
def pairsOk (ops:Array Oper) (D:List (List Nat)):List Ft->Bool
 | []=>true
 | x::l=>(l.all fun y=>(D.getD y.1 []).contains x.1||indepB ops x y)&&pairsOk ops D l
def orderOk (ops:Array Oper) (l:List Ft):Bool:=depsOk ops (depsOf ops.toList)&&pairsOk ops (depsOf ops.toList) l
end
open Go.RowKit
def Good (X:Ctx) (nt:Nat) (Z:Env) (a:Act) (w:World):Prop:=a.tmps.size=nt/\a.defers=[]/\∃J N,St X Z w a.tmps J N
section
variable {P:Program} {PC:Con} {eop:Oper->(Nat->PV)->Eff PV} {ops:Array Oper} {X:Ctx} {nt:Nat} {Q:Exit->Act->World->Prop}
def OpSound (P:Program) (PC:Con) (eop:Oper->(Nat->PV)->Eff PV) (X:Ctx) (nt:Nat) (o:Oper):Prop:=
 ∀(Z:Env) (a:Act) (w:World) (v:PV) (s':Sto) (r wr:List Nat) (Q:Exit->Act->World->Prop),Good X nt Z a w->(eop o Z.t).Run PC Z.s v s' r wr->o.wp P a w (fun a' w'=>Good X nt ⟨putE o.dst v Z.t,s'⟩ a' w') Q
theorem valC_bool {b:Bool} (h:ValC S w J σ (.v (.bool b)) u):u= .bool b:=h.1
theorem Good.wanted {Z:Env} {a:Act} {w:World} (h:Good X nt Z a w) {o:Oper} (hd:∀(i:Nat) (o':Oper),ops[i]?=some o'->∀d,o'.dst=some d->d<nt) {b:Bool} (hw:wantedP ops o Z.t=some b):Region.wanted o (yielded ops a.tmps)=b:=by
 obtain⟨hs,_,J,N,hst⟩:=h
 unfold wantedP at hw
 unfold Region.wanted
 cases hg:o.guard with
 | none=>simp only[hg]at hw;injection hw
 | some gw=>
  obtain⟨g,want⟩:=gw
  simp only[hg]at hw
  cases ho:ops[g]? with
  | none=>simp[ho]at hw;subst hw;simp[yielded,ho]
  | some o'=>
   cases hd':o'.dst with
   | none=>simp[ho,hd']at hw;subst hw;simp[yielded,ho,hd']
   | some d=>
    have hlt:d<a.tmps.size:=by rw[hs];exact hd g o' ho d hd'
    have hv:=hst.tmp d a.tmps[d] (by simp[hlt])
    simp only[ho,hd',Option.bind_some]at hw
    have hy:∀u,a.tmps[d]=u->yielded ops a.tmps g=match u with| .bool b=>some b|_=>none:=by
     rintro u rfl
     unfold yielded
     simp only[ho,hd',Option.bind_some,Array.getElem?_eq_getElem hlt]
     cases a.tmps[d]<;>rfl
    show(yielded ops a.tmps g==some want)=b
    split at hw
    ·rename_i q hq
     rw[hq]at hv
     rw[hy _ (valC_bool hv)]
     exact Option.some.inj hw
    ·rename_i hq
     rw[hq]at hv
     rw[hy undef hv]
     exact Option.some.inj hw
    ·cases hw
theorem Good.put_un {a:Act} (h:Good X nt Z a w) (dst:Option Tmp):Good X nt ⟨putE dst .un Z.t,Z.s⟩ (a.put dst undef) w:=by
 obtain⟨hs,hd,J,N,hst⟩:=h
 cases dst with
 | none=>exact⟨hs,hd,J,N,hst⟩
 | some d=>
  refine⟨by simpa [Act.put]using hs,hd,J,N,⟨fun t u hu=> ?_,hst.blk,hst.lt,hst.nodup,hst.disj,hst.new,hst.ext,hst.rxt,hst.frm,hst.env,hst.fz⟩⟩
  show ValC _ _ _ _ (upd Z.t d .un t) u
  simp only[Act.put]at hu
  by_cases ht:t=d
  ·subst ht
   rw[upd_same]
   rw[Array.getElem?_setIfInBounds]at hu
   simp only[if_true]at hu
   split at hu
   ·injection hu with hu;exact hu.symm
   ·cases hu
  ·rw[upd_ne _ _ ht]
   rw[Array.getElem?_setIfInBounds_ne (Ne.symm ht)]at hu
   exact hst.tmp t u hu
theorem OStep.wpOp {i:Nat} {o:Oper} {Z Z1:Env} {r wr:List Nat} {a:Act} {w:World} {K:Act->World->Prop} (hi:ops[i]?=some o) (hop:OpSound P PC eop X nt o)
  (hd:∀(i:Nat) (o':Oper),ops[i]?=some o'->∀d,o'.dst=some d->d<nt) (h:OStep PC eop ops o Z Z1 r wr) (hg:Good X nt Z a w) (hK:∀a' w',Good X nt Z1 a' w'->K a' w'):Go.wpOp P ops Q i K a w:=by
 unfold Go.wpOp
 simp only[hi]
 rcases h with⟨hw,v,s',hr,rfl⟩ |⟨hw,rfl,rfl,rfl⟩
 ·rw[hg.wanted hd hw]
  simp only[if_true]
  exact .inl (Oper.wp_mono hK (hop Z a w v s' r wr Q hg hr))
 ·rw[hg.wanted hd hw]
  simp only[Bool.false_eq_true,if_false]
  exact hK _ _ (hg.put_un o.dst)
end
open Go.RowKit
section
variable {P:Program} {PC:Con} {eop:Oper->(Nat->PV)->Eff PV} {ops:Array Oper} {X:Ctx} {nt:Nat} {Q:Exit->Act->World->Prop}
theorem getD_lt {listed:Array Bool} (h:j<listed.size) (d d':Bool):listed.getD j d=listed.getD j d':=by simp[Array.getD,h]
theorem pairsOk_spec {D:List (List Nat)}:∀{l:List Ft},pairsOk ops D l=true->∀l1 x l2,l=l1++x::l2->∀y∈l1,(D.getD x.1 []).contains y.1=true∨indepB ops y x=true
 | [],_,l1,x,l2,e,y,hy=>by simp at e
 | z::l,h,l1,x,l2,e,y,hy=>by
  simp only[pairsOk,Bool.and_eq_true,List.all_eq_true,Bool.or_eq_true]at h
  cases l1 with
  | nil=>simp at hy
  | cons z' l1=>
   simp only[List.cons_append,List.cons.injEq]at e
   obtain⟨rfl,rfl⟩:=e
   rcases List.mem_cons.1 hy with rfl|hy
   ·exact h.1 x (by simp)
   ·exact pairsOk_spec h.2 l1 x l2 rfl y hy
theorem pairsOk_drop {D:List (List Nat)}:∀{l1:List Ft} {x:Ft} {l2:List Ft},pairsOk ops D (l1++x::l2)=true->pairsOk ops D (l1++l2)=true
 | [],x,l2,h=>by simp only[List.nil_append,pairsOk,Bool.and_eq_true]at h⊢;exact h.2
 | z::l1,x,l2,h=>by
  simp only[List.cons_append,pairsOk,Bool.and_eq_true,List.all_append,List.all_cons]at h⊢
  exact⟨⟨h.1.1,h.1.2.2⟩,pairsOk_drop h.2⟩
theorem depsOk_spec {D:List (List Nat)} (h:depsOk ops D=true) (ho:ops[j]?=some o) :
  (∀e∈o.after,Region.binds .any e=true->e.on<j)/\∀i,(D.getD j []).contains i=true->∃e∈o.after,Region.binds .any e=true/\(e.on=i∨(D.getD e.on []).contains i=true):=by
 have hj:=(Array.getElem?_eq_some_iff.1 ho).1
 have:=List.all_eq_true.1 h j (List.mem_range.2 hj)
 simp only[ho,Bool.and_eq_true,List.all_eq_true,List.any_eq_true,Bool.or_eq_true,Bool.not_eq_true',decide_eq_true_eq,beq_iff_eq]at this
 obtain⟨h1,h2⟩:=this
 refine⟨fun e he hb=> ?_,fun i hi=> ?_⟩
 ·rcases h1 e (by simpa using he)with h3|h3
  ·rw[hb]at h3;cases h3
  ·exact h3
 ·obtain⟨e,he,h3,h4⟩:=h2 i (by simpa using hi)
  exact⟨e,by simpa using he,h3,h4⟩
theorem wpAny_run (hL:Looks eop ops) (hop:∀(i:Nat) (o:Oper),ops[i]?=some o->OpSound P PC eop X nt o) (hd:∀(i:Nat) (o':Oper),ops[i]?=some o'->∀d,o'.dst=some d->d<nt)
  {D:List (List Nat)} (hD:depsOk ops D=true) {Z2:Env} (hQ:∀a w,Good X nt Z2 a w->Q .normal a w) :
  ∀(n:Nat) (l:List Ft) (listed:Array Bool) (Z:Env) (a:Act) (w:World),l.length=n->ORun PC eop ops l Z Z2->pairsOk ops D l=true->(l.map (·.1)).Pairwise (· < ·)->(∀x∈l,x.1<ops.size)->
   listed.size=ops.size->(∀j,j<ops.size->(listed.getD j true=false↔j∈l.map (·.1)))->(∀j,j<ops.size->listed.getD j true=true->∀i,(D.getD j []).contains i=true->i<ops.size/\listed.getD i true=true)->
   Good X nt Z a w->wpAny P .any ops Q n listed a w
 | 0,l,listed,Z,a,w,hl,hr,hp,hs,hb,hz,hm,hc,hg=>by
  obtain rfl:=List.eq_nil_of_length_eq_zero hl
  have hnil:Region.ready .any ops listed=[]:=by
   rw[List.eq_nil_iff_forall_not_mem]
   intro j hj
   obtain⟨h0,o,ho,_⟩:=mem_ready.1 hj
   have:=(hm j (Array.getElem?_eq_some_iff.1 ho).1).1 h0
   simp at this
  cases hr
  exact⟨hnil,hQ a w hg⟩
 | n+1,l,listed,Z,a,w,hl,hr,hp,hs,hb,hz,hm,hc,hg=>by
  refine⟨fun hnil=> ?_,fun i hi=> ?_⟩
  ·exfalso
   cases l with
   | nil=>simp at hl
   | cons x l=>
    have hx:=hb x (by simp)
    obtain⟨o,ho⟩:∃o,ops[x.1]?=some o:=⟨ops[x.1],by simp[hx]⟩
    have:x.1∈Region.ready .any ops listed:=mem_ready.2 ⟨(hm x.1 hx).2 (by simp),o,ho,fun e he hbd=>by
     have hlt:=(depsOk_spec hD ho).1 e he hbd
     have hsz:e.on<ops.size:=by omega
     rw[getD_lt (by omega) false true]
     cases hcl:listed.getD e.on true with
     | true=>rfl
     | false=>
      have hmem:=(hm e.on hsz).1 hcl
      simp only[List.map_cons,List.mem_cons]at hmem
      rcases hmem with e1|hmem
      ·omega
      ·have h9:x.1<e.on:=(List.pairwise_cons.1 hs).1 e.on hmem
       omega⟩
    rw[hnil]at this
    cases this
  ·obtain⟨h0,o,ho,hall⟩:=mem_ready.1 hi
   have hisz:=(Array.getElem?_eq_some_iff.1 ho).1
   have hil:=(hm i hisz).1 h0
   obtain⟨x,hx,rfl⟩:=List.mem_map.1 hil
   obtain⟨l1,l2,rfl⟩:=List.append_of_mem hx
   have hall':∀e∈o.after,Region.binds .any e=true->e.on<ops.size/\listed.getD e.on true=true:=fun e he hbd=>by
    have h1:=hall e he hbd
    have hlt:e.on<listed.size:=by
     rcases Nat.lt_or_ge e.on listed.size with h2|h2
     ·exact h2
     ·simp[Array.getElem?_eq_none h2]at h1
    exact⟨by omega,by rw[getD_lt hlt true false];exact h1⟩
   have hdl:∀y,(D.getD x.1 []).contains y=true->y<ops.size/\listed.getD y true=true:=fun y hy=>by
    obtain⟨e,he,hbd,h2⟩:=(depsOk_spec hD ho).2 y hy
    obtain⟨h3,h4⟩:=hall' e he hbd
    rcases h2 with rfl|h2
    ·exact⟨h3,h4⟩
    ·exact hc e.on h3 h4 y h2
   have hind:∀y∈l1,indepB ops y x=true:=fun y hy=>by
    rcases pairsOk_spec hp l1 x l2 rfl y hy with h2|h2
    ·have h3:=(hdl y.1 h2).2
     have h4:=(hm y.1 (hb y (by simp[hy]))).2 (List.mem_map.2 ⟨y,by simp[hy],rfl⟩)
     rw[h3]at h4;cases h4
    ·exact h2
   have hbub:=ORun.bubble hL l1 hr hind
   cases hbub with
   | cons hi2 hstep ht=>
    rename_i i0 o2 r wr Z1
    rw[ho]at hi2
    cases hi2
    refine OStep.wpOp ho (hop _ o ho) hd hstep hg fun a' w' hg'=> ?_
    refine wpAny_run hL hop hd hD hQ n (l1++l2) _ Z1 a' w' (by simp at hl⊢;omega) ht (pairsOk_drop hp) ?_ (fun y hy=>hb y (by simp at hy⊢;rcases hy with h|h<;>simp[h])) (by simp[hz]) ?_ ?_ hg'
    ·rw[List.map_append,List.pairwise_append]at hs⊢
     simp only[List.map_cons,List.pairwise_cons]at hs
     exact⟨hs.1,hs.2.1.2,fun a ha b hb=>hs.2.2 a ha b (by simp[hb])⟩
    ·intro j hj
     have hnd:(l1.map (·.1)++l2.map (·.1)).Pairwise (· < ·)/\∀y∈l1.map (·.1)++l2.map (·.1),y≠i0:=by
      rw[List.map_append,List.map_cons,List.pairwise_append]at hs
      simp only[List.pairwise_cons]at hs
      refine⟨?_,?_⟩
      ·rw[List.pairwise_append];exact⟨hs.1,hs.2.1.2,fun a ha b hb=>hs.2.2 a ha b (by simp[hb])⟩
      ·intro y hy
       rcases List.mem_append.1 hy with h|h
       ·have:=hs.2.2 y h i0 (List.mem_cons_self ..);exact Nat.ne_of_lt this
       ·have:=hs.2.1.1 y h;exact Nat.ne_of_gt this
     rw[List.map_append]
     by_cases hji:j=i0
     ·subst hji
      constructor
      ·intro h;simp[hz,hisz]at h
      ·intro h;exact absurd rfl (hnd.2 _ h)
     ·rw[getD_set_ne true (Ne.symm hji),hm j hj,List.map_append,List.map_cons]
      simp[hji]
    ·intro j hj hlj i hiD
     have hset:∀y,y<ops.size->listed.getD y true=true->(listed.setIfInBounds i0 true).getD y true=true:=fun y hy hly=>by
      rw[getD_lt (by simp[hz];exact hy) true false]
      exact getD_set_true (by rw[getD_lt (by omega) false true];exact hly)
     by_cases hji:j=i0
     ·subst hji
      obtain⟨h1,h2⟩:=hdl i hiD
      exact⟨h1,hset i h1 h2⟩
     ·rw[getD_set_ne true (Ne.symm hji)]at hlj
      obtain⟨h1,h2⟩:=hc j hj hlj i hiD
      exact⟨h1,hset i h1 h2⟩
end
open Go.RowKit
def constP:Value->PV
 | .slice none 0 0=> .nil
 | v=> .v v
def opd (t:Nat->PV):Operand->PV
 | .tmp d=>t d
 | .const v=>constP v
 | .func f=> .fn f []
 | .global _=> .dead
def wfB:Value->Bool
 | .int k n=>k.wrap n==n
 | .string s=>s.size<=9223372036854775807
 | .bool _=>true
 | .pointer none=>true
 | .nilFunc=>true
 | .map none=>true
 | _=>false
theorem wfB_spec {v:Value} (h:wfB v=true):wfV v:=by
 unfold wfB at h
 unfold wfV
 split at h<;>simp_all
def constB:Operand->Bool
 | .const (.slice none 0 0)=>true
 | .const v=>wfB v
 | _=>true
def thenE (next:Env->Prop) (Q:Exit->Env->Prop):Exit->Env->Prop
 | .normal,Z=>next Z
 | e,Z=>Q e Z
def blockE (id:Nat) (Q:Exit->Env->Prop):Exit->Env->Prop
 | .exit id',Z=>if id'=id then Q .normal Z else Q (.exit id') Z
 | e,Z=>Q e Z
section
variable {P:Program} {PC:Con} {eop:Oper->(Nat->PV)->Eff PV} {X:Ctx} {nt:Nat}
def XW (P:Program) (X:Ctx) (nt:Nat) (c:Code) (Z:Env) (Q:Exit->Env->Prop):Prop:=
 ∀a w,Good X nt Z a w->c.wp P (fun e a' w'=>∃Z',Good X nt Z' a' w'/\Q e Z') a w
variable {Q Q':Exit->Env->Prop} {Z:Env}
theorem XW.mono (h:XW P X nt c Z Q) (hq:∀e Z,Q e Z->Q' e Z):XW P X nt c Z Q':=
 fun a w hg=>wp_mono (h a w hg) fun e a w ⟨Z',h1,h2⟩=>⟨Z',h1,hq _ _ h2⟩
theorem XW.skip (h:Q .normal Z):XW P X nt .skip Z Q:=fun a w hg=>wp_skip ⟨Z,hg,h⟩
theorem XW.label {l:Nat} (h:Q .normal Z):XW P X nt (.label l) Z Q:=fun a w hg=>wp_label ⟨Z,hg,h⟩
theorem XW.exit {id:Nat} (h:Q (.exit id) Z):XW P X nt (.exit id) Z Q:=fun a w hg=>wp_exit ⟨Z,hg,h⟩
theorem XW.ret (h:Q .ret Z):XW P X nt .ret Z Q:=fun a w hg=>wp_ret ⟨Z,hg,h⟩
theorem XW.seq {x y:Code} (h:XW P X nt x Z (thenE (fun Z'=>XW P X nt y Z' Q) Q)):XW P X nt (.seq x y) Z Q:=fun a w hg=>wp_seq (wp_mono (h a w hg) fun e a' w' ⟨Z',h1,h2⟩=>by
 cases e with
 | normal=>exact h2 a' w' h1
 | _=>exact⟨Z',h1,h2⟩)
theorem XW.block {id:Nat} {c:Code} (h:XW P X nt c Z (blockE id Q)):XW P X nt (.block id c) Z Q:=fun a w hg=>wp_block (wp_mono (h a w hg) fun e a' w' ⟨Z',h1,h2⟩=>by
 cases e with
 | exit id'=>
  simp only[blockE]at h2
  simp only[Exit.inBlock]
  split at h2
  ·rename_i he;rw[if_pos he];exact⟨Z',h1,h2⟩
  ·rename_i he;rw[if_neg he];exact⟨Z',h1,h2⟩
 | _=>exact⟨Z',h1,h2⟩)
theorem Good.eval {a:Act} {w:World} (hg:Good X nt Z a w) {c:Operand} (hc:∀d,c= .tmp d->d<nt) {b:Bool} (h:opd Z.t c= .v (.bool b)):a.eval c= .bool b:=by
 obtain⟨hs,hd,J,N,hst⟩:=hg
 cases c with
 | tmp d=>
  have hlt:d<a.tmps.size:=by rw[hs];exact hc d rfl
  have hv:=hst.tmp d a.tmps[d] (by simp[hlt])
  have h':Z.t d= .v (.bool b):=h
  rw[h']at hv
  have:a.tmps.getD d undef=a.tmps[d]:=by simp[Array.getD,hlt]
  show a.tmps.getD d undef=_
  rw[this];exact hv.1
 | const v=>
  have h':constP v= .v (.bool b):=h
  unfold constP at h'
  split at h'
  ·cases h'
  ·injection h'
 | func f=>cases h
 | global g=>cases h
theorem XW.cond {c:Operand} {x y:Code} {b:Bool} (hc:opd Z.t c= .v (.bool b)) (hn:∀d,c= .tmp d->d<nt) (ht:b=true->XW P X nt x Z Q) (hf:b=false->XW P X nt y Z Q):XW P X nt (.cond c x y) Z Q:=fun a w hg=>
 wp_cond_split (hg.eval hn hc) (fun h=>ht h a w hg) (fun h=>hf h a w hg)
theorem XW.loop {c:Code} (I:Nat->Env->Prop) (n:Nat) (h0:I n Z) (hr:∀n Z,I n Z->XW P X nt c Z (thenE (fun Z'=>∃m,m<n/\I m Z') Q)):XW P X nt (.loop c) Z Q:=fun a w hg=>
 wp_loop_ghost (fun n a w=>∃Z,Good X nt Z a w/\I n Z) n ⟨Z,hg,h0⟩ fun n a w ⟨Z,hg,hi⟩=>wp_mono (hr n Z hi a w hg) fun e a' w' ⟨Z',h1,h2⟩=>by
  cases e with
  | normal=>obtain⟨m,h3,h4⟩:=h2;exact⟨m,h3,Z',h1,h4⟩
  | _=>exact⟨Z',h1,h2⟩
theorem wpOps_run {ops:Array Oper} {Q0:Exit->Act->World->Prop} (hop:∀(i:Nat) (o:Oper),ops[i]?=some o->OpSound P PC eop X nt o) (hd:∀(i:Nat) (o':Oper),ops[i]?=some o'->∀d,o'.dst=some d->d<nt) :
  ∀{l:List Ft} {Z Z2:Env} (_:ORun PC eop ops l Z Z2) (_:∀a w,Good X nt Z2 a w->Q0 .normal a w) (a:Act) (w:World),Good X nt Z a w->wpOps P ops Q0 (l.map (·.1)) a w:=by
 intro l Z Z2 h
 induction h with
 | nil=>intro hQ a w hg;exact hQ a w hg
 | cons hi ho ht ih=>
  intro hQ a w hg
  show wpOps P ops Q0 (_::_) a w
  rw[wpOps_cons]
  exact OStep.wpOp hi (hop _ _ hi) hd ho hg fun a' w' hg'=>ih hQ a' w' hg'
theorem XW.region {id:Nat} {l:List Oper} (hop:∀o∈l,OpSound P PC eop X nt o) (hd:∀o∈l,∀d,o.dst=some d->d<nt) (h:∃ft Z',ORun PC eop l.toArray ft Z Z'/\ft.map (·.1)=List.range' 0 l.length/\Q .normal Z'):XW P X nt (.region id l.toArray false) Z Q:=fun a w hg=>by
 obtain⟨ft,Z',h1,h2,h3⟩:=h
 refine wp_region ?_
 have hop':∀(i:Nat) (o:Oper),l.toArray[i]?=some o->OpSound P PC eop X nt o:=fun i o ho=>hop o (qM1 (by simpa using ho))
 have hd':∀(i:Nat) (o':Oper),l.toArray[i]?=some o'->∀d,o'.dst=some d->d<nt:=fun i o ho=>hd o (qM1 (by simpa using ho))
 have:=wpOps_run (Q0:=fun e a' w'=>∃Z',Good X nt Z' a' w'/\Q e Z') hop' hd' h1 (fun a w hg=>⟨Z',hg,h3⟩) a w hg
 rw[h2]at this
 rw[List.range_eq_range']
 simpa using this
theorem St.drew {X:Ctx} {Z:Env} {tm:Array Value} (h:St X Z w tm J N) (hh:w'.heap=w.heap) (ho:w'.os=w.os) (ht:w'.tape=w.tape) (hu:w'.output=w.output) (he:X.E w'):St X Z w' tm J N:=by
 have hz:w.heap.size<=w'.heap.size:=by rw[hh];exact Nat.le_refl _
 refine(St.step (Z:=Z) h Z.s (fun _=>False) hz (fun b _ _=>by rw[hh]) (fun _ _=>⟨rfl,rfl,rfl⟩) (fun _ h=>h.elim) (fun _ h=>h.elim) (fun _ _ h=>h.elim) (fun _ _ h=>h.elim) (fun _ _ h=>h.elim) (fun _ _ _ _ h=>h.elim) (fun _ _ _ h=>h.elim) (fun _ _ _ _ h=>h.elim) ?_ he).2
 obtain⟨h1,h2,h3,h4,h5,h6⟩:=h.frm
 exact⟨ho.trans h1,ht.trans h2,hu.trans h3,by rw[hh];exact h4,fun b hb hf=>by rw[hh];exact h5 b hb hf,by rw[hh];exact h6⟩
theorem XW.draw {id:Nat} {l:List Oper} (hm:P.follows .mixedOrders=true) (hL:Looks eop l.toArray) (hop:∀o∈l,OpSound P PC eop X nt o) (hd:∀o∈l,∀d,o.dst=some d->d<nt)
  (h:∃ft Z',ORun PC eop l.toArray ft Z Z'/\ft.map (·.1)=List.range' 0 l.length/\orderOk l.toArray ft=true/\Q .normal Z'):XW P X nt (.region id l.toArray true) Z Q:=fun a w hg=>by
 obtain⟨ft,Z',h1,h2,h3,h4⟩:=h
 refine wp_region_any hm ?_
 have hop':∀(i:Nat) (o:Oper),l.toArray[i]?=some o->OpSound P PC eop X nt o:=fun i o ho=>hop o (qM1 (by simpa using ho))
 have hd':∀(i:Nat) (o':Oper),l.toArray[i]?=some o'->∀d,o'.dst=some d->d<nt:=fun i o ho=>hd o (qM1 (by simpa using ho))
 unfold orderOk at h3
 rw[Bool.and_eq_true]at h3
 have hlen:ft.length=l.toArray.size:=by have:=congrArg List.length h2;simpa using this
 obtain⟨q1,q2,J,N,q3⟩:=hg
 rw[<-hlen]
 refine wpAny_run (Q:=fun e a' w'=>∃Z',Good X nt Z' a' w'/\Q e Z') hL hop' hd' h3.1 (fun a w hg=>⟨Z',hg,h4⟩) ft.length ft _ Z a _ rfl h1 h3.2 ?_ ?_ (by simp[hlen]) ?_ ?_ ⟨q1,q2,J,N,q3.drew rfl rfl rfl rfl (X.cl _ _ q3.env (fun _ _=>rfl))⟩
 ·rw[h2];exact List.pairwise_lt_range'
 ·intro x hx
  have:x.1∈ft.map (·.1):=List.mem_map.2 ⟨x,hx,rfl⟩
  rw[h2,List.mem_range']at this
  obtain⟨i,h5,h6⟩:=this
  simp;omega
 ·intro j hj
  rw[h2]
  have hj':j<l.length:=by simpa using hj
  simp[List.mem_range',hlen,hj']
 ·intro j hj hlj
  have hj':j<l.length:=by simpa using hj
  simp[hlen,hj']at hlj
end
open Go.RowKit
section
variable (S:Nat->Prop) (w:World) (J:Nat->Option (Nat×Nat)) (σ:Sto)
def OwnS:PV->Value->List Nat->Prop
 | .row true k l,u,L=>Own S w k u l L
 | .drow k l,u,L=>DOwn w k u l L
 | .obj o,u,L=>∃b,u=objV o b/\L=[b]/\w.heap[b]?=some o
 | p,u,L=>L=[]/\ValS S w J σ p u
def Own1:PV->Value->List Nat->Prop
 | .agg cs,u,L=>∃us,u= .agg us/\All3 (OwnS S w J σ) cs us.toList L
 | p,u,L=>OwnS S w J σ p u L
def OwnV:PV->Value->List Nat->Prop
 | .tup vs,u,L=>∃us,u= .tuple us/\All3 (Own1 S w J σ) vs us.toList L
 | p,u,L=>Own1 S w J σ p u L
def isOwnR:PV->Bool
 | .row true _ _=>true
 | .drow _ _=>true
 | _=>false
def own1V (q:PV) (u:Value):List Value:=match isOwnR q with
 | true=> [u]
 | false=> []
def ownCells:List PV->List Value->List Value
 | p::ps,u::us=>own1V p u++ownCells ps us
 | _,_=> []
def own1A:PV->Value->List Value
 | .agg cs,.agg vs=>ownCells cs vs.toList
 | p,u=>own1V p u
def ownVals:List PV->List Value->List Value
 | p::ps,u::us=>own1A p u++ownVals ps us
 | _,_=> []
def OwnG (gs:List Value):PV->Value->List Nat->Prop
 | .gb r back,u,L=>∃L1 L2,L=L1++L2/\OwnV S w J σ r u L1/\All3 (OwnS S w J σ) back gs L2
 | r,u,L=>OwnV S w J σ r u L
def BoxO (p:Nat×Nat) (cs:List PV) (L:List Nat):Prop:=
 ∃cur E us,RowAt w p.1 cur E/\p.2+cs.length<=cur.size/\(∀j u,us[j]?=some u->cur[p.2+j]?=some u/\u.oneCell'=true)/\All3 (OwnS S w J σ) cs us L
end
def extS (exts:List (List PV)):Sto:=fun j=>match exts[j]? with
 | some cs=>⟨0,some (.box cs)⟩
 | none=>⟨0,none⟩
def extB (locs:List (Nat×Nat)):Nat->Option (Nat×Nat):=fun j=>locs[j]?
structure Stay (w w':World) (F:List Nat) (locs:List (Nat×Nat)) (lens:List Nat):Prop where
 os:w'.os=w.os
 tape:w'.tape=w.tape
 output:w'.output=w.output
 size:w.heap.size<=w'.heap.size
 old:∀b,b<w.heap.size->b∉F->w'.heap[b]?=w.heap[b]?
 part:∀(j b off n:Nat),locs[j]?=some (b,off)->lens[j]?=some n->∃(c0 c:Array Value) (E:TypeId) (fz:Nat×Nat),w.heap[b]?=some (Obj.cells c0 E fz)/\w'.heap[b]?=some (Obj.cells c E fz)/\c.size=c0.size/\∀o,o<off∨off+n<=o->c[o]?=c0[o]?
def Arrive (P:Program) (f:FuncId) (xs:Array Value) (w:World) (R:Ending->World->Prop):Prop:=match(callFunc f xs).run P w with
 | .ok (.value v) w'=>R (.returned v) w'
 | .ok (.enter f' ys) w'=>Calls P f' ys w' R
 | _=>False
theorem Arrive.of {P:Program} {f:FuncId} {fn:Func} (hf:P.funcs[f]?=some fn) (hname:(fn.name== "runtime.NumGoroutine")=false) (hb:fn.body=some c) {xs:Array Value} {R:Ending->World->Prop} (h:Calls P f xs w R):Arrive P f xs w R:=by
 have h1:fn.name≠ "runtime.NumGoroutine" :=by simpa using hname
 have:(callFunc f xs).run P w= .ok (.enter f xs) w:=by simp[callFunc,hf,h1,hb]
 unfold Arrive
 rw[this]
 exact h
theorem Arrive.calls {P:Program} {f:FuncId} {fn:Func} (hf:P.funcs[f]?=some fn) (hname:(fn.name== "runtime.NumGoroutine")=false) (hb:fn.body=some c) {xs:Array Value} {R:Ending->World->Prop} (h:Arrive P f xs w R):Calls P f xs w R:=by
 have h1:fn.name≠ "runtime.NumGoroutine" :=by simpa using hname
 have:(callFunc f xs).run P w= .ok (.enter f xs) w:=by simp[callFunc,hf,h1,hb]
 unfold Arrive at h
 rw[this]at h
 exact h
def PCalls (P:Program) (G:Nat) (E:World->Prop):Con:=fun f args exts r exts'=>
 exts'.map List.length=exts.map List.length/\
 ∀(w:World) (S:Nat->Prop) (us:List Value) (locs:List (Nat×Nat)) (La:List Nat) (Le:List (List Nat)),G<=w.heap.size->E w->locs.length=exts.length->Le.length=exts.length->
  (locs.map (·.1)++La++Le.flatten).Nodup->(∀b∈locs.map (·.1)++La++Le.flatten,G<=b/\b<w.heap.size)->(∀b,S b->b<w.heap.size/\b∉locs.map (·.1)++La++Le.flatten)->
  All3 (Own1 S w (extB locs) (extS exts)) args us La->
  (∀(j:Nat) p cs L,locs[j]?=some p->exts[j]?=some cs->Le[j]?=some L->BoxO S w (extB locs) (extS exts) p cs L)->
  Arrive P f us.toArray w fun e w'=>∃(u:Value) (Lr:List Nat) (Le':List (List Nat)),e= .returned u/\Le'.length=exts.length/\(locs.map (·.1)++Lr++Le'.flatten).Nodup/\
   (∀b∈Lr++Le'.flatten,(b∈La++Le.flatten∨w.heap.size<=b)/\b<w'.heap.size)/\
   OwnG (fun b=>(S b∨b∈La++Le.flatten∨w.heap.size<=b)/\b<w'.heap.size/\b∉locs.map (·.1)++Lr++Le'.flatten) w' (extB locs) (extS exts') (ownVals args us) r u Lr/\
   (∀(j:Nat) p cs L,locs[j]?=some p->exts'[j]?=some cs->Le'[j]?=some L->BoxO (fun b=>(S b∨b∈La++Le.flatten∨w.heap.size<=b)/\b<w'.heap.size/\b∉locs.map (·.1)++Lr++Le'.flatten) w' (extB locs) (extS exts') p cs L)/\
   Stay w w' (locs.map (·.1)++La++Le.flatten) locs (exts.map List.length)
open Go.RowKit
def site (o:Oper):Nat:=match o.dst with
 | some d=>100*(d+1)
 | none=>99
def live {α:Type} (id ver:Nat) (k:Blk->Eff α):Eff α:= .rd id fun e=>match e with
 | ⟨v,some b⟩=>if v=ver then k b else .fail
 | ⟨_,none⟩=> .fail
def leafPV:Leaf->PV
 | .sc v=> .v v
 | .nest k l=> .row false k l
def mkVal (agg:Bool) (cs:List PV):Eff PV:=if agg then .ret (.agg cs)else match cs with
 | [c]=> .ret c
 | _=> .fail
def rangeV (agg:Bool) (cs:List PV) (j n:Nat):Eff PV:=if j+n<=cs.length then mkVal agg ((cs.drop j).take n)else .fail
def eLoad (t:TypeId) (p:PV):Eff PV:=match tyB t with
 | none=> .fail
 | some (ag,n)=>match p with
  | .ptr id ver i j=>live id ver fun
   | .objb _=> .fail
   | .iterb _ _ _ _ _=> .fail
   | .rowd _ _=> .fail
   | .rowx _ _ _ _=> .fail
   | .box cs=>rangeV ag cs j n
   | .rowb _ l=> .opt l[i]? fun x=>rangeV ag ((leaves x).map leafPV) j n
  | .eptr _ l i j=> .opt l[i]? fun x=>rangeV ag ((leaves x).map leafPV) j n
  | _=> .fail
def cellsP:PV->List PV
 | .agg cs=>cs
 | p=> [p]
def storable:PV->Bool
 | .v _| .nil| .row false _ _| .ref .. | .ptr .. | .eptr .. | .fn ..=>true
 | _=>false
def splice {α:Type} (cs:List α) (j:Nat) (new:List α):List α:=cs.take j++new++cs.drop (j+new.length)
def settle:PV->Eff LeafI
 | .v x=> .ret (.sc x)
 | .nil=> .ret .nl
 | .row false k l=> .ret (.nest k l)
 | .ref id ver off n _=>live id ver fun
  | .rowb k l=>(match Nat.ble 99 id with
   | true=> .wr id ⟨ver,none⟩ (.ret (.nest k ((l.drop off).take n)))
   | false=> .fail)
  | .rowd k l=>(match Nat.ble 99 id with
   | true=> .wr id ⟨ver,none⟩ (.ret (.nest k ((l.drop off).take n)))
   | false=> .fail)
  | .rowx _ _ _ _=> .fail
  | .box _=> .fail
  | .objb _=> .fail
  | .iterb _ _ _ _ _=> .fail
 | _=> .fail
def Eff.bind {α J:Type}:Eff α->(α->Eff J)->Eff J
 | .ret a,f=>f a
 | .fail,_=> .fail
 | .rd id k,f=> .rd id fun e=>(k e).bind f
 | .wr id e k,f=> .wr id e (k.bind f)
 | .guard p d k,f=> .guard p d (k.bind f)
 | .opt o k,f=> .opt o fun x=>(k x).bind f
 | .call g args exts k,f=> .call g args exts fun v x=>(k v x).bind f
 | .ite b x y,f=> .ite b (x.bind f) (y.bind f)
def settles:List PV->Eff (List LeafI)
 | []=> .ret []
 | p::ps=>(settle p).bind fun a=>(settles ps).bind fun b=> .ret (a::b)
def leafIn:Leaf->LeafI
 | .sc v=> .sc v
 | .nest k l=> .nest k l
def eStore (t:TypeId) (p v:PV):Eff PV:=match tyB t with
 | none=> .fail
 | some (ag,n)=>if(cellsP v).length=n/\(cellsP v).all storable then
   match p with
   | .ptr id ver i j=>live id ver fun
    | .objb _=> .fail
    | .iterb _ _ _ _ _=> .fail
    | .rowd _ _=> .fail
    | .rowx _ _ _ _=> .fail
    | .box cs=>if j+n<=cs.length then .wr id ⟨ver,some (.box (splice cs j (cellsP v)))⟩ (.ret .un)else .fail
    | .rowb _ _=>(settles (cellsP v)).bind fun a=>live id ver fun
     | .rowb k l=> .opt l[i]? fun x=>if j+n<=size k then
        match ofLeaves k (splice ((leaves x).map leafIn) j a)with
        | some y=> .wr id ⟨ver,some (.rowb k (l.set i y))⟩ (.ret .un)
        | none=> .fail
       else .fail
     | .box _=> .fail
     | .objb _=> .fail
     | .iterb _ _ _ _ _=> .fail
     | .rowd _ _=> .fail
     | .rowx _ _ _ _=> .fail
   | _=> .fail
  else .fail
def newBlk (id:Nat) (b:Blk) (k:Nat->Eff PV):Eff PV:= .rd id fun e=> .wr id ⟨e.ver+1,some b⟩ (k (e.ver+1))
def eBox (o:Oper) (v:PV):Eff PV:=if(cellsP v).all storable then newBlk (site o) (.box (cellsP v)) fun ver=> .ret (.ptr (site o) ver 0 0)else .fail
def inK (k:IntKind) (v:Int):Prop:=k.wrap v=v
instance (k:IntKind) (v:Int):Decidable (inK k v):=inferInstanceAs (Decidable (k.wrap v=v))
def retI (k:IntKind) (v:Int):Eff PV:=match k.signed with
 | true=>gdE (inK k v) (.ret (.v (.int k v)))
 | false=> .ret (.v (.int k (k.wrap v)))
def intOp (op:BinOp) (k:IntKind) (a b:Int):Eff PV:=match op with
 | .add=>retI k (a+b)
 | .sub=>retI k (a-b)
 | .mul=>retI k (a*b)
 | .quo=>gdE (b≠0) (retI k (a.tdiv b))
 | .rem=>gdE (b≠0) (.ret (.v (.int k (a.tmod b))))
 | .and=> .ret (.v (.int k (k.wrap (BitVec.ofInt k.bits a &&&BitVec.ofInt k.bits b).toNat)))
 | .or=> .ret (.v (.int k (k.wrap (BitVec.ofInt k.bits a |||BitVec.ofInt k.bits b).toNat)))
 | .xor=> .ret (.v (.int k (k.wrap (BitVec.ofInt k.bits a ^^^ BitVec.ofInt k.bits b).toNat)))
 | .andNot=> .ret (.v (.int k (k.wrap (BitVec.ofInt k.bits a &&& ~~~ BitVec.ofInt k.bits b).toNat)))
 | .eql=> .ret (.v (.bool (a==b)))
 | .neq=> .ret (.v (.bool (a !=b)))
 | .lss=> .ret (.v (.bool (decide (a<b))))
 | .leq=> .ret (.v (.bool (decide (a<=b))))
 | .gtr=> .ret (.v (.bool (decide (b<a))))
 | .geq=> .ret (.v (.bool (decide (b<=a))))
 | _=> .fail
def shOp (op:BinOp) (k:IntKind) (a b:Int):Eff PV:=gdE (0<=b) (match op with
 | .shl=> .ret (.v (.int k (k.wrap (a*2 ^ (min b.toNat k.bits)))))
 | .shr=> .ret (.v (.int k (a.fdiv (2 ^ (min b.toNat k.bits)))))
 | _=> .fail)
def strOp (op:BinOp) (a b:ByteArray):Eff PV:=match op with
 | .add=>gdE (a.size+b.size<=9223372036854775807) (.ret (.v (.string (a++b))))
 | .eql=> .ret (.v (.bool (decide (a=b))))
 | .neq=> .ret (.v (.bool (!decide (a=b))))
 | .lss=> .ret (.v (.bool (Op.bytesLess a.toList b.toList)))
 | .leq=> .ret (.v (.bool (Op.bytesLess a.toList b.toList||decide (a=b))))
 | .gtr=> .ret (.v (.bool !(Op.bytesLess a.toList b.toList||decide (a=b))))
 | .geq=> .ret (.v (.bool !Op.bytesLess a.toList b.toList))
 | _=> .fail
def eBin (op:BinOp) (t:TypeId):PV->PV->Eff PV
 | .v (.int k a),.v (.int k' b)=>match op with
  | .shl=>shOp .shl k a b
  | .shr=>shOp .shr k a b
  | op=>if k=k' then intOp op k a b else .fail
 | .v (.string a),.v (.string b)=>strOp op a b
 | .v (.bool a),.v (.bool b)=>if isBoolT t then match op with
  | .eql=> .ret (.v (.bool (a==b)))
  | .neq=> .ret (.v (.bool (!(a==b))))
  | _=> .fail
  else .fail
 | _,_=> .fail
open Go.RowKit
section
variable {P:Program} {PC:Con} {eop:Oper->(Nat->PV)->Eff PV} {X:Ctx} {nt:Nat} {Q:Exit->Act->World->Prop} {Z:Env} {a:Act} {w:World}
def opndB (nt:Nat):Operand->Bool
 | .tmp d=>d<nt
 | x=>constB x
theorem St.opd {J:Nat->Option (Nat×Nat)} {N:Nat->List Nat} (h:St X Z w a.tmps J N) (hs:a.tmps.size=nt) {x:Operand} (hx:opndB nt x=true):ValC (Fz X w N Z.s) w J Z.s (opd Z.t x) (a.eval x):=by
 cases x with
 | tmp d=>
  have hd:d<a.tmps.size:=by rw[hs];simpa [opndB]using hx
  have:=h.tmp d a.tmps[d] (by simp[hd])
  have e:a.eval (.tmp d)=a.tmps[d]:=by simp[Act.eval,Array.getD,hd]
  rw[e];exact this
 | const v=>
  show ValC _ _ _ _ (constP v) v
  have hb:constB (.const v)=true:=hx
  unfold constP
  split
  ·rfl
  ·rename_i hne
   have:wfB v=true:=by
    unfold constB at hb
    split at hb
    ·rename_i he;injection he with he;exact absurd he (by intro h;exact hne h)
    ·rename_i he;injection he with he;rw[he];exact hb
    ·rename_i h1 h2;exact absurd rfl (h2 v)
   exact⟨rfl,wfB_spec this⟩
 | func f=>exact⟨#[],rfl,trivial⟩
 | global g=>trivial
theorem Good.put {J:Nat->Option (Nat×Nat)} {N:Nat->List Nat} {σ:Sto} (hs:a.tmps.size=nt) (hd:a.defers=[]) (h:St X ⟨Z.t,σ⟩ w a.tmps J N) {dst:Option Tmp} {v:PV} {u:Value} (hv:ValC (Fz X w N σ) w J σ v u) :
  Good X nt ⟨putE dst v Z.t,σ⟩ (a.put dst u) w:=by
 cases dst with
 | none=>exact⟨hs,hd,J,N,h⟩
 | some d=>
  refine⟨by simpa [Act.put]using hs,hd,J,N,⟨fun t u' hu=> ?_,h.blk,h.lt,h.nodup,h.disj,h.new,h.ext,h.rxt,h.frm,h.env,h.fz⟩⟩
  show ValC _ _ _ _ (upd Z.t d v t) u'
  simp only[Act.put]at hu
  by_cases ht:t=d
  ·subst ht
   rw[upd_same]
   rw[Array.getElem?_setIfInBounds]at hu
   simp only[if_true]at hu
   split at hu
   ·injection hu with hu;rw[<-hu];exact hv
   ·cases hu
  ·rw[upd_ne _ _ ht]
   rw[Array.getElem?_setIfInBounds_ne (Ne.symm ht)]at hu
   exact h.tmp t u' hu
theorem sound_val (hs:a.tmps.size=nt) (hd:a.defers=[]) (h:St X Z w a.tmps J N) (hrun:(execOp a.eval o).run P w= .ok (.value u) w) (hv:ValC (Fz X w N Z.s) w J Z.s v u) :
  o.wp P a w (fun a' w'=>Good X nt ⟨putE o.dst v Z.t,Z.s⟩ a' w') Q:=by
 unfold Oper.wp
 rw[hrun]
 exact Good.put hs hd h hv
theorem sound_st (hs:a.tmps.size=nt) (hd:a.defers=[]) (hrun:(execOp a.eval o).run P w= .ok (.value u) w')
  (h1:St X ⟨Z.t,σ⟩ w' a.tmps J' N') (h2:ValC (Fz X w' N' σ) w' J' σ v u) :
  o.wp P a w (fun a' w'=>Good X nt ⟨putE o.dst v Z.t,σ⟩ a' w') Q:=by
 unfold Oper.wp
 rw[hrun]
 exact Good.put hs hd h1 h2
theorem sound_skip (hs:a.tmps.size=nt) (hd:a.defers=[]) (hrun:(execOp a.eval o).run P w= .ok .skip w') (h1:St X ⟨Z.t,σ⟩ w' a.tmps J' N') :
  o.wp P a w (fun a' w'=>Good X nt ⟨putE o.dst .un Z.t,σ⟩ a' w') Q:=by
 unfold Oper.wp
 rw[hrun]
 exact Good.put hs hd h1 rfl
end
open Go.RowKit
def ZeroL:Leaf->Value->Prop
 | .sc q,u=>u=q/\wfV q
 | .nest _ l,u=>u= .slice none 0 0/\l=[]
def ZeroC (zs:List Leaf) (cells:Array Value):Prop:=cells.size=zs.length/\∀(j:Nat) lf,zs[j]?=some lf->∃u,cells[j]?=some u/\ZeroL lf u
def WinOk (P:Program):Prop:=∀f t,winT f=some t->∀(w:World) (W H y:Int) (c q:Value),inK .i64 (y*W)->inK .i64 (y+1)->inK .i64 ((y+1)*W)->(∀w0:World,(Instr.slice t c (some (.int .i64 (y*W))) (some (.int .i64 ((y+1)*W))) none).run P w0= .ok q w0)->
 Arrive P f #[.agg #[.int .i64 W,.int .i64 H,c],.int .i64 y] w fun e w'=>e= .returned q/\Below w.heap.size w w'
def SelOk (P:Program):Prop:=∀f oc oa ob,selT f=some (oc,oa,ob)->∀(w:World) (b off:Nat) (c:Bool),w.cell? ⟨b,off+oc,none⟩ = some (.bool c)->
 Arrive P f #[.pointer (some ⟨b,off,none⟩)] w fun e w'=>e= .returned (.pointer (some ⟨b,off+(if c then oa else ob),none⟩))/\Below w.heap.size w w'
structure Facts (P:Program):Prop where
 agg:∀t n,tyB t=some (true,n)->(∃fs,P.underlying t=some (.struct fs))/\(P.info? t).map (·.size)=some n
 sl:∀t k,slK t=some k->P.underlying t=some (.slice (tid k))
 el:∀k,∃i z,P.info? (tid k)=some i/\i.zero=some z/\i.size=size k/\i.bytes=byt k/\z.cells.size=size k/\ZeroC (leaves (zK k)) z.cells
 fld:∀t i off ag n,fldT t i=some (off,ag,n)->n≠0/\∃fs f,P.underlying t=some (.struct fs)/\fs[i]?=some f/\f.offset=off/\(∀w,(isAgg f.type).run P w= .ok ag w)/\(P.info? f.type).map (·.size)=some n/\(ag=false->n=1)
 str:∀t,isStrT t=true->P.underlying t=some .string
 bool:∀t,isBoolT t=true->P.underlying t=some .bool
 cvI:∀s t k,cvT s t=some (.int k)->(∃d,P.underlying s=some d)/\P.underlying t=some (.int k)
 zero:∀t zs,zeroT t=some zs->∃i z,P.info? t=some i/\i.zero=some z/\ZeroC zs z.cells
 bld:∀t n,tyB t=some (true,n)->∃it fs z places zs,zeroT t=some zs/\P.info? t=some it/\P.underlying t=some (.struct fs)/\it.zero=some z/\ZeroC zs z.cells/\fs.toList.mapM (fun f=>(P.info? f.type).map fun i=>(f.offset,i.size))=some places/\
  ∀i off ag n,fldT t i=some (off,ag,n)->places[i]?=some (off,n)
 cvB:∀s t,cvT s t=some .toBytes->(∃d,P.underlying s=some d)/\P.underlying t=some (.slice (tid .u8))/\P.underlying (tid .u8)=some (.int .u8)
 cvS:∀s t,cvT s t=some .toStr->P.underlying s=some (.slice (tid .u8))/\P.underlying t=some .string/\P.underlying (tid .u8)=some (.int .u8)
 mp:∀t m z,mapT t=some (m,z)->wfV z/\∃kt et,P.underlying t=some (.map kt et)/\P.underlying kt=some m.td/\∀w,(zeroValue et).run P w= .ok z w
 one:∀t n,tyB t=some (false,n)->n=1/\(∀w,(isAgg t).run P w= .ok false w)/\(P.info? t).map (·.size)=some 1
 win:WinOk P
 sel:SelOk P
section
variable {P:Program} {PC:Con} {X:Ctx} {nt:Nat} {Q:Exit->Act->World->Prop} {Z:Env} {a:Act} {w:World}
theorem addr_add (b off j:Nat):(⟨b,off,none⟩:Addr).add j=⟨b,off+j,none⟩:=by
 unfold Addr.add;split<;>simp_all
theorem All2.of {α J:Type} {R:α->J->Prop}:∀{as:List α} {bs:List J},as.length=bs.length->(∀(i:Nat) x y,as[i]?=some x->bs[i]?=some y->R x y)->All2 R as bs
 | [],[],_,_=>trivial
 | x::as,y::bs,hl,h=>⟨h 0 x y rfl rfl,All2.of (by simpa using hl) fun i x' y' hx hy=>h (i+1) x' y' (by simpa using hx) (by simpa using hy)⟩
 | [],_::_,hl,_=>by simp at hl
 | _::_,[],hl,_=>by simp at hl
theorem rangeV_run (hF:Facts P) {t:TypeId} {ag:Bool} (ht:tyB t=some (ag,n)) {cs:List PV} (h:(rangeV ag cs j n).Run PC s v s' r wr)
  {S:Nat->Prop} {J:Nat->Option (Nat×Nat)} {σ:Sto} (hc:∀(i:Nat) p,cs[i]?=some p->∃u,w.cell? ⟨b,off+i,none⟩ = some u/\ValS S w J σ p u) :
  s'=s/\∃u,(loadVar t ⟨b,off+j,none⟩).run P w= .ok u w/\ValC S w J σ v u:=by
 unfold rangeV at h
 split at h
 case isFalse=>exact h.elim
 rename_i hlen
 obtain⟨us,hul,hus⟩:∃us:List Value,us.length=n/\∀(i:Nat) u,us[i]?=some u->w.cell? ⟨b,off+j+i,none⟩ = some u/\∃p,((cs.drop j).take n)[i]?=some p/\ValS S w J σ p u:=by
  have key:∀m,m<=n->∃us:List Value,us.length=m/\∀(i:Nat) u,us[i]?=some u->w.cell? ⟨b,off+j+i,none⟩ = some u/\∃p,((cs.drop j).take n)[i]?=some p/\ValS S w J σ p u:=by
   intro m
   induction m with
   | zero=>intro _;exact⟨[],rfl,by simp⟩
   | succ m ih=>
    intro hm
    obtain⟨us,hl,hus⟩:=ih (by omega)
    have hlt:j+m<cs.length:=by omega
    obtain⟨u,hu,hv⟩:=hc (j+m) cs[j+m] (by simp[hlt])
    refine⟨us++ [u],by simp[hl],fun i u' hi=> ?_⟩
    by_cases him:i<m
    ·exact hus i u' (by rw[List.getElem?_append_left (by omega)]at hi;exact hi)
    ·have:i=m:=by
      have:=(qS1.1 hi).1
      simp[hl]at this;omega
     subst this
     rw[List.getElem?_append_right (by omega),hl]at hi
     simp at hi
     subst hi
     refine⟨by rw[show off+j+i=off+(j+i) by omega];exact hu,cs[j+i],?_,hv⟩
     rw[List.getElem?_take,if_pos (by omega),List.getElem?_drop]
     simp[hlt]
  exact key n (Nat.le_refl _)
 have hall:All2 (ValS S w J σ) ((cs.drop j).take n) us:=All2.of (by rw[List.length_take,List.length_drop,hul];omega) fun i x y hx hy=>by
  obtain⟨_,p,hp,hv⟩:=hus i y hy
  rw[hx]at hp;cases hp;exact hv
 unfold mkVal at h
 cases ag with
 | true=>
  obtain⟨rfl,rfl,-,-⟩:v=_/\s'=s/\r=[]/\wr=[]:=h
  obtain⟨⟨fs,hfs⟩,hi⟩:=hF.agg t n ht
  refine⟨rfl,.agg us.toArray,?_,us.toArray,rfl,hall⟩
  have hl:(loadCells ⟨b,off+j,none⟩ us.length).run P w= .ok us.toArray w:=run_loadCells_list (P:=P) w ⟨b,off+j,none⟩ us fun i u hu=>by rw[addr_add];exact(hus i u hu).1
  cases hq:P.info? t with
  | none=>simp[hq]at hi
  | some i=>
   have hs:i.size=us.length:=by rw[hul];simpa [hq]using hi
   have hagg:(isAgg t).run P w= .ok true w:=by
    unfold isAgg
    rw[Sem.run_bind,run_underlying hfs w]
    simp
   simp[loadVar,Sem.run_bind,hagg,sizeOf,typeInfo,hq,hs,hl]
 | false=>
  obtain⟨rfl,hagg,hi⟩:=hF.one t n ht
  simp only[Bool.false_eq_true,if_false]at h
  split at h
  ·rename_i c hcs
   obtain⟨rfl,rfl,-,-⟩:v=c/\s'=s/\r=[]/\wr=[]:=h
   rw[hcs]at hall
   match us,hul,hall with
   | [u],_,⟨h1,_⟩=>
    refine⟨rfl,u,?_,?_⟩
    ·have hcell:=(hus 0 u rfl).1
     rw[Nat.add_zero]at hcell
     simp[loadVar,Sem.run_bind,hagg w,run_load,hcell]
    ·cases v<;>first|exact h1|exact h1.elim
  ·exact h.elim
end
open Go.RowKit
section
variable {P:Program} {PC:Con} {X:Ctx} {nt:Nat} {Q:Exit->Act->World->Prop} {Z:Env} {a:Act} {w:World}
theorem blk_cells_box {N:List Nat} {id:Nat} {cs:List PV} (h:BlkC S w J σ N id (.box cs)):∃b off,J id=some (b,off)/\∀(i:Nat) p,cs[i]?=some p->∃u,w.cell? ⟨b,off+i,none⟩ = some u/\ValS S w J σ p u:=by
 obtain⟨b,off,cur,E,h1,h2,h3,h4,h5⟩:=h
 refine⟨b,off,h1,fun i p hp=> ?_⟩
 obtain⟨u,hu,_,hv⟩:=h5 i p hp
 exact⟨u,by rw[h3.cell];exact hu,hv⟩
theorem leaf_val {lf:Leaf} (h:LeafV S w lf u):ValS S w J σ (leafPV lf) u:=by
 cases lf with
 | sc v=>exact h
 | nest k' l'=>exact⟨rfl,h⟩
theorem cont_cells {l:List (ty k)} {f:Nat->Option Value} (h:Cont S w l f) {x:ty k} (hx:l[i]?=some x) :
  ∀(j:Nat) p,((leaves x).map leafPV)[j]?=some p->∃u,f (i*size k+j)=some u/\ValS S w J σ p u:=by
 intro j p hp
 rw[List.getElem?_map]at hp
 cases hlf:(leaves x)[j]? with
 | none=>simp[hlf]at hp
 | some lf=>
  simp only[hlf,Option.map_some,Option.some.injEq]at hp
  subst hp
  obtain⟨u,hu,h5⟩:=h i x hx j lf hlf
  exact⟨u,hu,leaf_val h5⟩
theorem row_cells {len:Nat} {l:List (ty k)} (h:Row S w k (.slice (some ⟨b,off,none⟩) len cap) l) {x:ty k} (hx:l[i]?=some x) :
  ∀(j:Nat) p,((leaves x).map leafPV)[j]?=some p->∃u,w.cell? ⟨b,off+i*size k+j,none⟩ = some u/\ValS S w J σ p u:=by
 intro j p hp
 obtain⟨a,cap',e,h1,h2,h3⟩:=h.open
 cases e
 obtain⟨b',off',e,hb,h4⟩:=h3 (by intro e;rw[e]at hx;simp at hx)
 cases e
 obtain⟨u,hu,hv⟩:=cont_cells (J:=J) (σ:=σ) h4 hx j p hp
 exact⟨u,by rw[Nat.add_assoc];exact hu,hv⟩
theorem blk_cells_row {N:List Nat} {id:Nat} {l:List (ty k)} (h:BlkC S w J σ N id (.rowb k l)) {x:ty k} (hx:l[i]?=some x) :
  ∃b,J id=some (b,0)/\∀(j:Nat) p,((leaves x).map leafPV)[j]?=some p->∃u,w.cell? ⟨b,i*size k+j,none⟩ = some u/\ValS S w J σ p u:=by
 have hne:l≠[]:=by intro e;rw[e]at hx;simp at hx
 rcases h with⟨_,e,_⟩ |⟨b,cap,cur,h1,h2,h3,h4,h5,h6,h7,h8⟩
 ·exact absurd e hne
 ·refine⟨b,h1,fun j p hp=> ?_⟩
  obtain⟨u,hu,hv⟩:=cont_cells (J:=J) (σ:=σ) h8 hx j p hp
  exact⟨u,by rw[h4.cell];exact hu,hv⟩
theorem live_run {id:Nat} {k:Blk->Eff α} {v:α} (h:(live id ver k).Run PC s v s' r wr):∃b r',s id=⟨ver,some b⟩/\r=id::r'/\(k b).Run PC s v s' r' wr:=by
 obtain⟨r',rfl,h⟩:=h
 cases he:s id with
 | mk v0 b0=>
  rw[he]at h
  cases b0 with
  | none=>exact h.elim
  | some b=>
   simp only at h
   split at h
   ·rename_i e;subst e;exact⟨b,r',rfl,rfl,h⟩
   ·exact h.elim
theorem bind_run {α J:Type} {k:α->Eff J}:∀{E:Eff α} {s s':Sto} {b:J} {r wr:List Nat},(E.bind k).Run PC s b s' r wr->∃a s1 r1 w1 r2 w2,E.Run PC s a s1 r1 w1/\(k a).Run PC s1 b s' r2 w2
 | .ret a,s,s',b,r,wr,h=>⟨a,s,_,_,r,wr,⟨rfl,rfl,rfl,rfl⟩,h⟩
 | .fail,_,_,_,_,_,h=>h.elim
 | .rd id f,s,s',b,r,wr,⟨r',_,h⟩=>by
  obtain⟨a,s1,r1,w1,r2,w2,h1,h2⟩:=bind_run h
  exact⟨a,s1,id::r1,w1,r2,w2,⟨r1,rfl,h1⟩,h2⟩
 | .wr id e f,s,s',b,r,wr,⟨w',_,h⟩=>by
  obtain⟨a,s1,r1,w1,r2,w2,h1,h2⟩:=bind_run h
  exact⟨a,s1,r1,id::w1,r2,w2,⟨w1,rfl,h1⟩,h2⟩
 | .guard p d f,s,s',b,r,wr,⟨hp,h⟩=>by
  obtain⟨a,s1,r1,w1,r2,w2,h1,h2⟩:=bind_run h
  exact⟨a,s1,r1,w1,r2,w2,⟨hp,h1⟩,h2⟩
 | .opt o f,s,s',b,r,wr,⟨x,hp,h⟩=>by
  obtain⟨a,s1,r1,w1,r2,w2,h1,h2⟩:=bind_run h
  exact⟨a,s1,r1,w1,r2,w2,⟨x,hp,h1⟩,h2⟩
 | .call f args exts g,s,s',b,r,wr,⟨v,x,hc,h⟩=>by
  obtain⟨a,s1,r1,w1,r2,w2,h1,h2⟩:=bind_run h
  exact⟨a,s1,r1,w1,r2,w2,⟨v,x,hc,h1⟩,h2⟩
 | .ite c p q,s,s',b,r,wr,h=>by
  rcases h with⟨hb,h⟩ |⟨hb,h⟩
  ·obtain⟨a,s1,r1,w1,r2,w2,h1,h2⟩:=bind_run h
   exact⟨a,s1,r1,w1,r2,w2,.inl ⟨hb,h1⟩,h2⟩
  ·obtain⟨a,s1,r1,w1,r2,w2,h1,h2⟩:=bind_run h
   exact⟨a,s1,r1,w1,r2,w2,.inr ⟨hb,h1⟩,h2⟩
theorem eLoad_sound (hF:Facts P) {t:TypeId} (ho:o.op= .load t x) (hx:opndB nt x=true) (hg:Good X nt Z a w) (h:(eLoad t (opd Z.t x)).Run PC Z.s v s' r wr) :
  o.wp P a w (fun a' w'=>Good X nt ⟨putE o.dst v Z.t,s'⟩ a' w') Q:=by
 obtain⟨hs,hd,J,N,hst⟩:=id hg
 have hv:=hst.opd hs hx
 unfold eLoad at h
 split at h
 case h_1=>exact h.elim
 rename_i ag n ht
 have fin:∀(b off:Nat) u,a.eval x= .pointer (some ⟨b,off,none⟩)->s'=Z.s->(loadVar t ⟨b,off,none⟩).run P w= .ok u w->ValC (Fz X w N Z.s) w J Z.s v u->o.wp P a w (fun a' w'=>Good X nt ⟨putE o.dst v Z.t,s'⟩ a' w') Q:=by
  rintro b off u he rfl hrun hvv
  refine sound_val hs hd hst ?_ hvv
  unfold execOp
  simp only[ho,he,Instr.loadAt,Instr.sureAddr,Sem.run_bind,Sem.run_pure,Result.andThen_ok,hrun]
 split at h
 case h_3=>exact h.elim
 case h_1=>
  rename_i id ver i j he
  rw[he]at hv
  obtain⟨_,_,hv⟩:=hv
  obtain⟨blk,r',hb,rfl,h⟩:=live_run h
  obtain⟨b,off,hβ,hv⟩:=hv blk hb
  have hbk:=hst.blk id blk (by rw[hb])
  cases blk with
  | box cs=>
   obtain⟨b',off',hβ',hc⟩:=blk_cells_box hbk
   rw[hβ]at hβ';cases hβ'
   obtain⟨e1,u,hrun,hvv⟩:=rangeV_run hF ht h hc
   exact fin b (off+j) u hv e1 hrun hvv
  | objb o=>exact h.elim
  | iterb=>exact h.elim
  | rowd=>exact h.elim
  | rowx=>exact h.elim
  | rowb k l=>
   obtain⟨rfl,hil,hv⟩:=hv
   obtain⟨x,hx,h⟩:=h
   obtain⟨b',hβ',hc⟩:=blk_cells_row hbk hx
   rw[hβ]at hβ';cases hβ'
   obtain⟨e1,u,hrun,hvv⟩:=rangeV_run hF ht h (b:=b) (off:=i*size k) hc
   exact fin b (i*size k+j) u hv e1 hrun hvv
 case h_2=>
  rename_i k l i j he
  rw[he]at hv
  obtain⟨b,off,hil,hv,hrow⟩:=hv
  obtain⟨x,hx,h⟩:=h
  obtain⟨e1,u,hrun,hvv⟩:=rangeV_run hF ht h (b:=b) (off:=off+i*size k) (row_cells hrow hx)
  exact fin b (off+i*size k+j) u hv e1 hrun hvv
end
open Go.RowKit
theorem RowAt.of {cur:Array Value} {e:TypeId} (h:w.heap[g]?=some (.cells cur e (0,0))):RowAt w g cur e:=⟨_,h,.inl rfl⟩
theorem RowAt.frozen {w:World} {g:Nat} {cur:Array Value} {e:TypeId} (h:RowAt w g cur e) {o:Nat} (ho:o<cur.size):w.frozen? ⟨g,o,none⟩ = false:=by
 obtain⟨⟨lo,hi⟩,h,hc⟩:=h
 simp only[World.frozen?,h,Bool.and_eq_false_iff,decide_eq_false_iff_not]
 unfold NoIce at hc
 simp only at hc
 rcases hc with hc|⟨hc,_⟩ <;>omega
theorem RowAt.setRow {w:World} {g:Nat} {cur:Array Value} {e:TypeId} (h:RowAt w g cur e) {cs:Array Value} (hs:cs.size=cur.size):RowAt (w.setRow g cs) g cs e:=by
 obtain⟨fz,h,hc⟩:=h
 exact⟨fz,setRow_heap w g cur _ e _ h,by rw[hs];exact hc⟩
theorem run_storeCells_row (P:Program) (g o:Nat) (t:TypeId):∀(vs:List Value) (i:Nat) (cur:Array Value) (w:World),RowAt w g cur t->o+i+vs.length<=cur.size->(∀v∈vs,v.oneCell'=true)->
  (storeCells ⟨g,o,none⟩ vs i).run P w= .ok () (w.setRow g (cur.toList.take (o+i)++vs++cur.toList.drop (o+i+vs.length)).toArray)
 | [],i,cur,w,hr,_,_=>by
  obtain⟨fz,hg,_⟩:=hr
  simp only[storeCells,List.append_nil,List.length_nil,Nat.add_zero,List.take_append_drop,Array.toArray_toList]
  rw[setRow_self w g cur t fz hg]
  rfl
 | v::rest,i,cur,w,hr,hl,h1=>by
  have hi:o+i<cur.size:=by simp at hl;omega
  have hadd:(⟨g,o,none⟩:Addr).add i=⟨g,o+i,none⟩:=by unfold Addr.add;split<;>simp_all
  have hcell:w.cell? ⟨g,o+i,none⟩ = some cur[o+i]:=by rw[hr.cell];simp[hi]
  have hfro:=hr.frozen hi
  have ih:=run_storeCells_row P g o t rest (i+1) (cur.setIfInBounds (o+i) v) (w.setRow g (cur.setIfInBounds (o+i) v)) (hr.setRow (by simp)) (by simp at hl⊢;omega) (fun x hx=>h1 x (by simp[hx]))
  obtain⟨fz,hg,_⟩:=hr
  have hst:(store ((⟨g,o,none⟩:Addr).add i) v).run P w= .ok () (w.setRow g (cur.setIfInBounds (o+i) v)):=by
   rw[hadd,run_store P w _ v _ (h1 v (by simp)),hcell]
   simp[hfro,setCell_eq_setRow w g (o+i) cur t fz v hg]
  simp only[storeCells,Sem.run_bind,hst,Result.andThen_ok,ih,setRow_setRow]
  congr 3
  have e:=list_seg_step cur.toList (o+i) v rest (by simp at hl⊢;omega)
  simpa [Array.toList_setIfInBounds,Nat.add_assoc]using e
section
variable {P:Program} {w:World}
def putAt (cur:Array Value) (off:Nat) (cs:List Value):Array Value:=(cur.toList.take off++cs++cur.toList.drop (off+cs.length)).toArray
theorem run_store_row' (ty:TypeId) (g off:Nat) (v:Value) (cs:List Value) (hv:v.cells=cs.toArray) (cur:Array Value) (e:TypeId) (hg:RowAt w g cur e) (hfit:off+cs.length<=cur.size)
  (h1:∀u∈cs,u.oneCell'=true) (hi:(P.info? ty).map (·.size)=some cs.length) :
  (storeVar ty ⟨g,off,none⟩ v).run P w= .ok () (w.setRow g (cur.toList.take off++cs++cur.toList.drop (off+cs.length)).toArray):=by
 cases hq:P.info? ty with
 | none=>simp[hq]at hi
 | some i=>
  have hs:i.size=cs.length:=by simpa [hq]using hi
  have hst:=run_storeCells_row P g off e cs 0 cur w hg (by simpa using hfit) h1
  simp only[Nat.add_zero]at hst
  simp[storeVar,Sem.run_bind,sizeOf,typeInfo,hq,hs,hv,hst]
end
open Go.RowKit
section
variable {P:Program} {PC:Con} {X:Ctx} {nt:Nat} {Q:Exit->Act->World->Prop} {Z:Env} {a:Act} {w:World}
theorem Frm.turn {X:Ctx} {Z:Env} {w:World} {tm:Array Value} (h:St X Z w tm J N) (id:Nat) (blk:Blk) (hb:(Z.s id).blk=some blk)
  (ho:w'.os=w.os) (ht:w'.tape=w.tape) (hu:w'.output=w.output) (hz:w.heap.size<=w'.heap.size) (hsame:∀b,b<w.heap.size->b∉N id->w'.heap[b]?=w.heap[b]?)
  (hpart:∀(j b off n:Nat),X.ext[j]?=some (b,off)->X.lens[j]?=some n->b∈N id->∃(c0 c:Array Value) (E:TypeId) (fz:Nat×Nat),w.heap[b]?=some (Obj.cells c0 E fz)/\w'.heap[b]?=some (Obj.cells c E fz)/\c.size=c0.size/\∀o,o<off∨off+n<=o->c[o]?=c0[o]?):Frm X w':=by
 obtain⟨h1,h2,h3,h4,h5,h6⟩:=h.frm
 refine⟨ho.trans h1,ht.trans h2,hu.trans h3,Nat.le_trans h4 hz,fun b hb0 hf=> ?_,fun j b off n hj hn=> ?_⟩
 ·rw[hsame b (by omega) (fun hm=> ?_)]
  ·exact h5 b hb0 hf
  ·rcases h.new id blk hb b hm with h|h
   ·exact hf h
   ·omega
 ·obtain⟨c0,c,E,fz,q1,q2,q3,q4⟩:=h6 j b off n hj hn
  by_cases hm:b∈N id
  ·obtain⟨c1,c2,E2,fz2,p1,p2,p3,p4⟩:=hpart j b off n hj hn hm
   rw[q2]at p1
   cases p1
   exact⟨c0,c2,E,fz,q1,p2,p3.trans q3,fun o ho=>(p4 o ho).trans (q4 o ho)⟩
  ·exact⟨c0,c,E,fz,q1,(hsame b ((Array.getElem?_eq_some_iff.1 q2).1) hm).trans q2,q3,q4⟩
theorem putAt_size {cur:Array Value} {cs:List Value} (h:off+cs.length<=cur.size):(putAt cur off cs).size=cur.size:=by
 simp only[putAt,List.size_toArray,List.length_append,List.length_take,List.length_drop,Array.length_toList]
 omega
theorem putAt_in {cur:Array Value} {cs:List Value} (h:off+cs.length<=cur.size) (hi:i<cs.length):(putAt cur off cs)[off+i]?=cs[i]?:=by
 simp only[putAt,List.getElem?_toArray]
 rw[List.append_assoc,List.getElem?_append_right (by simp;omega),List.getElem?_append_left (by simp;omega)]
 congr 1
 simp;omega
theorem putAt_out {cur:Array Value} {cs:List Value} (h:off+cs.length<=cur.size) (hi:i<off∨off+cs.length<=i):(putAt cur off cs)[i]?=cur[i]?:=by
 simp only[putAt,List.getElem?_toArray]
 rcases hi with hi|hi
 ·rw[List.append_assoc,List.getElem?_append_left (by simp;omega),List.getElem?_take,if_pos hi]
  simp
 ·rw[List.getElem?_append_right (by simp;omega),List.getElem?_drop]
  simp only[List.length_append,List.length_take,Array.length_toList]
  rw[show off+cs.length+(i-(min off cur.size+cs.length))=i by omega]
  simp
theorem oneCell_of (hs:storable p=true) (h:ValS S w J σ p u):u.oneCell'=true:=by
 cases p with
 | v x=>obtain⟨rfl,hw⟩:=h;cases u<;>simp_all[wfV,Value.oneCell']
 | nil=>rw[show u=_ from h];rfl
 | row own k l=>obtain⟨_,a,cap,rfl,_⟩:=h;rfl
 | ref id ver off n full=>obtain⟨_,⟨_,_,_,rfl⟩,_⟩:=h;rfl
 | ptr id ver i j=>obtain⟨_,⟨_,rfl⟩ |⟨_,rfl⟩,_⟩:=h<;>rfl
 | eptr k l i j=>obtain⟨b,off,_,rfl,_⟩:=h;rfl
 | fn f caps=>obtain⟨us,rfl,_⟩:=h;rfl
 | agg cs=>cases hs
 | tup vs=>cases hs
 | un=>cases hs
 | dead=>cases hs
 | obj o=>cases hs
 | drow k l=>cases hs
 | gb r b=>cases hs
theorem ValC.vs {S:Nat->Prop} {J:Nat->Option (Nat×Nat)} {σ:Sto} {p:PV} {u:Value} (h:ValC S w J σ p u) (h1:∀cs,p≠ .agg cs) (h2:∀vs,p≠ .tup vs):ValS S w J σ p u:=by
 cases p<;>first|exact h|exact absurd rfl (h1 _)|exact absurd rfl (h2 _)
theorem cellsP_val (h:ValC S w J σ p u) (hs:(cellsP p).all storable=true):∃us:List Value,u.cells=us.toArray/\All2 (ValS S w J σ) (cellsP p) us/\∀x∈us,x.oneCell'=true:=by
 have one:∀{cs:List PV} {us:List Value},All2 (ValS S w J σ) cs us->cs.all storable=true->∀x∈us,x.oneCell'=true:=by
  intro cs us h hs x hx
  obtain⟨i,hi,rfl⟩:=List.mem_iff_getElem.1 hx
  have hl:=h.len
  obtain⟨y,hy,hv⟩:=h.get i cs[i] (by simp[show i<cs.length by omega])
  simp only[qE1 hi,Option.some.injEq]at hy
  rw[hy]
  exact oneCell_of (List.all_eq_true.1 hs _ (List.getElem_mem (by omega))) hv
 have sing:∀{q:PV},(∀cs,q≠ .agg cs)->cellsP q=[q]:=by intro q hq;cases q<;>first|rfl|exact absurd rfl (hq _)
 by_cases ha:∃cs,p= .agg cs
 ·obtain⟨cs,rfl⟩:=ha
  obtain⟨us,rfl,h⟩:=h
  exact⟨us.toList,by simp[Value.cells],h,one h hs⟩
 ·by_cases ht:∃vs,p= .tup vs
  ·obtain⟨vs,rfl⟩:=ht
   simp[cellsP,storable]at hs
  ·have h':=h.vs (fun cs e=>ha ⟨cs,e⟩) (fun vs e=>ht ⟨vs,e⟩)
   have e:=sing (q:=p) (fun cs e=>ha ⟨cs,e⟩)
   rw[e]at hs⊢
   have hu:u.oneCell'=true:=oneCell_of (by simpa using hs) h'
   exact⟨[u],by cases u<;>simp_all[Value.cells,Value.oneCell'],⟨h',trivial⟩,by simpa using hu⟩
theorem St.env_turn {X:Ctx} {Z:Env} {w:World} {tm:Array Value} (h:St X Z w tm J N) (id:Nat) (blk:Blk) (hb:(Z.s id).blk=some blk) (hsame:∀b,b<w.heap.size->b∉N id->w'.heap[b]?=w.heap[b]?):X.E w':=by
 refine X.cl w w' h.env fun b hbG=>hsame b ?_ fun hm=> ?_
 ·have:=X.hw;have:=h.frm.size;omega
 ·rcases h.new id blk hb b hm with h1|h1
  ·have:=X.hG b h1;omega
  ·have:=X.hw;omega
theorem splice_length {cs new:List α} (h:j+new.length<=cs.length):(splice cs j new).length=cs.length:=by
 simp only[splice,List.length_append,List.length_take,List.length_drop];omega
theorem splice_in {cs new:List α} (h:j+new.length<=cs.length) (hi:i<new.length):(splice cs j new)[j+i]?=new[i]?:=by
 unfold splice
 rw[List.append_assoc,List.getElem?_append_right (by simp;omega),List.getElem?_append_left (by simp;omega)]
 congr 1;simp;omega
theorem splice_out {cs new:List α} (h:j+new.length<=cs.length) (hi:i<j∨j+new.length<=i):(splice cs j new)[i]?=cs[i]?:=by
 unfold splice
 rcases hi with hi|hi
 ·rw[List.append_assoc,List.getElem?_append_left (by simp;omega),List.getElem?_take,if_pos hi]
 ·rw[List.getElem?_append_right (by simp;omega),List.getElem?_drop]
  congr 1;simp only[List.length_append,List.length_take];omega
theorem store_box {tm:Array Value} (h:St X Z w tm J N) {id:Nat} {cs ps:List PV} (hid:Z.s id=⟨ver,some (.box cs)⟩) (hβ:J id=some (b,off))
  (hv:All2 (ValS (Fz X w N Z.s) w J Z.s) ps us) (h1:∀x∈us,x.oneCell'=true) (hj:j+ps.length<=cs.length) {cur:Array Value} {E:TypeId} (hr:RowAt w b cur E) :
  St X ⟨Z.t,upd Z.s id ⟨ver,some (.box (splice cs j ps))⟩⟩ (w.setRow b (putAt cur (off+j) us)) tm J N:=by
 have hb:=h.blk id _ (by rw[hid])
 obtain⟨b',off',cur',E',q1,q2,q3,q4,q5⟩:=hb
 rw[hβ]at q1
 cases q1
 have hul:=hv.len
 have ec:cur'=cur:=by
  obtain⟨f1,g1,_⟩:=q3
  obtain⟨f2,g2,_⟩:=hr
  rw[g1]at g2;cases g2;rfl
 subst ec
 have hfit:off+j+us.length<=cur'.size:=by omega
 have hsz:=putAt_size hfit
 have hold:∀b',b'≠b->(w.setRow b (putAt cur' (off+j) us)).heap[b']?=w.heap[b']?:=fun b' hb'=>setRow_other w b b' _ hb'
 have hsame:∀x,x<w.heap.size->x∉N id->(w.setRow b (putAt cur' (off+j) us)).heap[x]?=w.heap[x]?:=fun x _ hx=>hold x (fun e=>hx (by rw[q2,e];simp))
 obtain⟨fz,hh,hice⟩:=hr
 have hnew:(w.setRow b (putAt cur' (off+j) us)).heap[b]?=some (.cells (putAt cur' (off+j) us) E fz):=setRow_heap w b cur' _ E fz hh
 have hblk0:(Z.s id).blk=some (.box cs):=by rw[hid]
 refine(St.step (Z:=Z) h (upd Z.s id ⟨ver,some (.box (splice cs j ps))⟩) (· = id) (by simp) (fun x hx hc=>hsame x hx (hc id _ rfl hblk0)) (fun i hi=>⟨upd_ne _ _ hi,rfl,rfl⟩) ?_ ?_ ?_ ?_ ?_ ?_ ?_ (fun q u n hq e=>absurd e (h.rx_box hid q u n hq)) ?_ ?_).2
 ·rintro i rfl v o n f u ⟨k1,k2,k3⟩
  refine⟨by rw[upd_same];rw[hid]at k1;exact k1,k2,fun blk k l e hr=> ?_⟩
  rw[upd_same]at e
  cases e
  cases hr
 ·rintro i rfl v i' j' u ⟨k1,k2,k3⟩
  refine⟨by rw[upd_same];rw[hid]at k1;exact k1,k2,fun blk e=> ?_⟩
  rw[upd_same]at e
  cases e
  exact k3 _ hid
 ·rintro i blk rfl hbk T
  rw[upd_same]at hbk
  cases hbk
  refine⟨b,off,putAt cur' (off+j) us,E,hβ,q2,⟨fz,hnew,by rw[hsz];exact hice⟩,by rw[splice_length hj,hsz];exact q4,fun i p hp=> ?_⟩
  by_cases hin:j<=i/\i<j+ps.length
  ·obtain⟨m,rfl⟩:∃m,i=j+m:=⟨i-j,by omega⟩
   rw[splice_in hj (by omega)]at hp
   obtain⟨u,hu,hvu⟩:=hv.get m p hp
   refine⟨u,?_,h1 u (qM1 hu),T.vs hvu⟩
   rw[show off+(j+m)=off+j+m by omega,putAt_in hfit (by omega)]
   exact hu
  ·rw[splice_out hj (by omega)]at hp
   obtain⟨u,hu,ho,hvu⟩:=q5 i p hp
   refine⟨u,?_,ho,T.vs hvu⟩
   rw[putAt_out hfit (by omega)]
   exact hu
 ·rintro i blk rfl hbk x hx
  exact .inl ⟨i,_,rfl,hblk0,hx⟩
 ·rintro i blk rfl hbk
  exact h.nodup i _ hblk0
 ·rintro i i' b1 b2 rfl rfl _ _ hne
  exact absurd rfl hne
 ·rintro i p hp rfl
  obtain⟨e1,cs',e2,e3⟩:=h.ext i p hp
  rw[hblk0]at e2
  cases e2
  exact⟨e1,_,by rw[upd_same],by rw[splice_length hj];exact e3⟩
 ·refine Frm.turn h id _ hblk0 rfl rfl rfl (by simp) hsame fun i b2 off2 n hi hn hm=> ?_
  have hm':b2=b:=by rw[q2]at hm;simpa using hm
  subst hm'
  obtain⟨e1,cs',e2,e3⟩:=h.ext i _ hi
  have hii:i=id:=by
   by_cases hne:i=id
   ·exact hne
   ·have hb2:=h.blk i _ e2
    obtain⟨b3,off3,_,_,p1,p2,_⟩:=hb2
    rw[e1]at p1
    cases p1
    exact absurd hm (h.disj i id _ _ e2 hblk0 hne b2 (by rw[p2];simp))
  subst hii
  rw[hβ]at e1
  cases e1
  rw[hblk0]at e2
  cases e2
  rw[e3]at hn
  cases hn
  exact⟨cur',_,E,fz,hh,hnew,hsz,fun o ho=>putAt_out hfit (by omega)⟩
 ·exact St.env_turn h id _ hblk0 hsame
end
open Go.RowKit
def LI (S:Nat->Prop) (w:World):LeafI->Value->Prop
 | .sc x,u=>u=x/\wfV x
 | .nest k l,u=>Row S w k u l
 | .nl,u=>u= .slice none 0 0
theorem LI.leaf {a:LeafI} {lf:Leaf} (h:LI S w a u) (hi:InL a lf):LeafV S w lf u:=by
 cases a with
 | sc x=>
  obtain⟨rfl,hw⟩:=h
  have e:lf= .sc u:=hi hw
  subst e
  exact⟨rfl,hw⟩
 | nest k l=>
  have e:lf= .nest k l:=hi
  subst e
  exact h
 | nl=>
  obtain⟨k,rfl⟩:∃k,lf= .nest k []:=hi
  have e:u= .slice none 0 0:=h
  subst e
  exact Row.nil
theorem LI.back {lf:Leaf} (h:LeafV S w lf u):LI S w (leafIn lf) u:=by
 cases lf with
 | sc q=>exact h
 | nest k l=>exact h
theorem LI.mono {a:LeafI} (h:LI S w a u) (hr:∀{k:K} {u:Value} {l:List (ty k)},Row S w k u l->Row S' w' k u l):LI S' w' a u:=by
 cases a with
 | sc x=>exact h
 | nest k l=>exact hr h
 | nl=>exact h
section
variable {P:Program} {PC:Con} {X:Ctx} {nt:Nat} {Q:Exit->Act->World->Prop} {Z:Env} {a:Act} {w:World}
theorem St.drop {tm:Array Value} (h:St X Z w tm J N) {id:Nat} {blk:Blk} {l:List (ty k)} (hid:Z.s id=⟨ver,some blk⟩) (hrw:IsRow blk k l) (h99:99<=id) :
  Tr (Fz X w N Z.s) (Fz X w N (upd Z.s id ⟨ver,none⟩)) w w J J Z.s (upd Z.s id ⟨ver,none⟩)/\St X ⟨Z.t,upd Z.s id ⟨ver,none⟩⟩ w tm J N:=by
 refine St.step (Z:=Z) h (upd Z.s id ⟨ver,none⟩) (· = id) (Nat.le_refl _) (fun _ _ _=>rfl) (fun i hi=>⟨upd_ne _ _ hi,rfl,rfl⟩) ?_ ?_ ?_ ?_ ?_ ?_ ?_ (fun q u n hq e=>absurd e (h.rx_far h99 q u n hq)) h.frm h.env
 ·rintro i rfl v o n f u ⟨k1,k2,k3⟩
  refine⟨by rw[upd_same];rw[hid]at k1;exact k1,k2,fun blk k l e hr=> ?_⟩
  rw[upd_same]at e
  cases e
 ·rintro i rfl v i' j' u ⟨k1,k2,k3⟩
  refine⟨by rw[upd_same];rw[hid]at k1;exact k1,k2,fun blk e=> ?_⟩
  rw[upd_same]at e
  cases e
 ·rintro i b rfl hbk;rw[upd_same]at hbk;cases hbk
 ·rintro i b rfl hbk;rw[upd_same]at hbk;cases hbk
 ·rintro i b rfl hbk;rw[upd_same]at hbk;cases hbk
 ·rintro i i' b b' rfl _ hbk;rw[upd_same]at hbk;cases hbk
 ·rintro j p hp rfl
  obtain⟨_,cs,e,_⟩:=h.ext j p hp
  rw[hid]at e;cases e;cases hrw
theorem RefC.view {tm:Array Value} (h:St X Z w tm J N) {id:Nat} {full:Bool} {blk:Blk} {l:List (ty k)} (hr:RefC w J Z.s id ver off n full u) (hid:Z.s id=⟨ver,some blk⟩) (hrw:IsRw blk k l) (hF:∀b,Fz X w N Z.s b->S b) (hN:∀b∈N id,S b) :
  Row S w k u ((l.drop off).take n):=by
 obtain⟨k1,k2,k3⟩:=hr
 obtain⟨e1,e2⟩:=k3 _ k l hid hrw.row
 have hlen:((l.drop off).take n).length=n:=by rw[List.length_take,List.length_drop];omega
 have hblk:=row_at hrw (h.blk id _ (by rw[hid])) hF hN
 rcases e2 with⟨e2,e3⟩ |⟨b,c,o2,e2,e3,e4,e5,e6⟩
 ·rcases hblk with⟨_,e,_⟩ |⟨b,cap,cur,q,_⟩
  ·subst e
   rw[e3]
   simp only[List.drop_nil,List.take_nil]
   exact Row.nil
  ·rw[e2]at q;cases q
 ·rcases hblk with⟨e,_⟩ |⟨b',cap,cur,q1,q2,q3⟩
  ·rw[e2]at e;cases e
  ·rw[e2]at q1;cases q1
   obtain⟨f1,f2,f3,f4,f5,f6⟩:=q3
   have:=Row.make (S:=S) (w:=w) (l:=(l.drop off).take n) (a:=some ⟨b,o2,none⟩) (cap:=c) (by omega) (by omega) fun hne=>by
    have hn0:n≠0:=by rintro rfl;simp at hne
    have ho2:=e5 (.inl hn0)
    subst ho2
    refine⟨b,off*size k,rfl,hN b q2,fun i x hx j lf hlf=> ?_⟩
    have hi:i<n:=by have:=(qS1.1 hx).1;omega
    rw[List.getElem?_take,if_pos hi,List.getElem?_drop]at hx
    obtain⟨u,hu,hv⟩:=f6 (off+i) x hx j lf hlf
    refine⟨u,?_,hv⟩
    show w.cell? ⟨b,off*size k+(i*size k+j),none⟩ = some u
    rw[f2.cell,<-Nat.add_assoc,<-Nat.add_mul]
    exact hu
   rw[hlen]at this
   rw[e4];exact this
theorem settle_spec {tm:Array Value} (h:St X Z w tm J N) {q:LeafI} (hv:ValS (Fz X w N Z.s) w J Z.s p u) (hr:(settle p).Run PC Z.s q s' r wr) :
  St X ⟨Z.t,s'⟩ w tm J N/\Tr (Fz X w N Z.s) (Fz X w N s') w w J J Z.s s'/\LI (Fz X w N s') w q u/\∀i,s' i=Z.s i∨(s' i).blk=none:=by
 have T0:Tr (Fz X w N Z.s) (Fz X w N Z.s) w w J J Z.s Z.s:=⟨fun h=>h,fun h=>h,fun h=>h⟩
 unfold settle at hr
 split at hr
 ·obtain⟨rfl,rfl,-,-⟩:q=_/\s'=_/\r=[]/\wr=[]:=hr;exact⟨h,T0,hv,fun _=> .inl rfl⟩
 ·obtain⟨rfl,rfl,-,-⟩:q=_/\s'=_/\r=[]/\wr=[]:=hr;exact⟨h,T0,hv,fun _=> .inl rfl⟩
 ·obtain⟨rfl,rfl,-,-⟩:q=_/\s'=_/\r=[]/\wr=[]:=hr;exact⟨h,T0,hv.2,fun _=> .inl rfl⟩
 ·rename_i id ver off n full
  have fin:∀(k:K) (l:List (ty k)) (blk:Blk) (r0 w0:List Nat),Z.s id=⟨ver,some blk⟩->IsRw blk k l->(match Nat.ble 99 id with
   | true=>(Eff.wr id ⟨ver,none⟩ (.ret (.nest k ((l.drop off).take n))):Eff LeafI)
   | false=> .fail).Run PC Z.s q s' r0 w0->(St X ⟨Z.t,s'⟩ w tm J N/\Tr (Fz X w N Z.s) (Fz X w N s') w w J J Z.s s'/\LI (Fz X w N s') w q u/\∀i,s' i=Z.s i∨(s' i).blk=none):=by
   intro k l blk r0 w0 hb hw hr
   split at hr
   case h_2=>exact hr.elim
   rename_i h99
   obtain⟨w',-,hr⟩:=hr
   obtain⟨rfl,rfl,-,-⟩:q=_/\s'=_/\r0=[]/\w'=[]:=hr
   obtain⟨T,h2⟩:=h.drop hb hw.row (Nat.le_of_ble_eq_true h99)
   refine⟨h2,T,RefC.view h hv hb hw (fun b hb=> ?_) fun b hbN=> ?_,fun i=>by
    by_cases hi:i=id
    ·subst hi;exact .inr (by rw[upd_same])
    ·exact .inl (upd_ne _ _ hi)⟩
   ·exact⟨hb.1,fun⟨i,blk,h1,h3⟩=>hb.2.1 ⟨i,blk,(by
     by_cases hi:i=id
     ·subst hi;rw[upd_same]at h1;cases h1
     ·rw[upd_ne _ _ hi]at h1;exact h1),h3⟩,hb.2.2⟩
   ·have hbk:(Z.s id).blk=some blk:=by rw[hb]
    refine⟨h.lt id _ hbk b hbN,fun⟨i,blk,h1,h3⟩=> ?_,?_⟩
    ·by_cases hi:i=id
     ·subst hi;rw[upd_same]at h1;cases h1
     ·rw[upd_ne _ _ hi]at h1;exact h.disj i id _ _ h1 hbk hi b h3 hbN
    ·exact .inr (h.new id _ hbk b hbN)
  obtain⟨blk,r',hb,-,hr⟩:=live_run hr
  cases blk with
  | box cs=>exact hr.elim
  | objb o=>exact hr.elim
  | iterb=>exact hr.elim
  | rowx=>exact hr.elim
  | rowb k l=>exact fin k l _ _ _ hb .b hr
  | rowd k l=>exact fin k l _ _ _ hb .d hr
 ·exact hr.elim
theorem settles_spec {tm:Array Value} {w:World} {t:Nat->PV} {J:Nat->Option (Nat×Nat)} {N:Nat->List Nat}:∀{ps:List PV} {us:List Value} {qs:List LeafI} {s s':Sto} {r wr:List Nat},St X ⟨t,s⟩ w tm J N->All2 (ValS (Fz X w N s) w J s) ps us->(settles ps).Run PC s qs s' r wr->
  St X ⟨t,s'⟩ w tm J N/\Tr (Fz X w N s) (Fz X w N s') w w J J s s'/\All2 (LI (Fz X w N s') w) qs us/\∀i,s' i=s i∨(s' i).blk=none
 | [],[],qs,s,s',r,wr,h,_,hr=>by
  obtain⟨rfl,rfl,-,-⟩:=hr
  exact⟨h,⟨fun h=>h,fun h=>h,fun h=>h⟩,trivial,fun _=> .inl rfl⟩
 | p::ps,u::us,qs,s,s',r,wr,h,⟨h1,h2⟩,hr=>by
  obtain⟨a1,s1,r1,w1,r2,w2,k1,k2⟩:=bind_run hr
  obtain⟨a2,s2,r3,w3,r4,w4,k3,k4⟩:=bind_run k2
  obtain⟨e,e2,-,-⟩:=k4
  subst e e2
  obtain⟨m1,m2,m3,m7⟩:=settle_spec (Z:=⟨t,s⟩) h h1 k1
  obtain⟨m4,m5,m6,m8⟩:=settles_spec m1 (h2.mono fun _ _=>m2.vs) k3
  exact⟨m4,⟨fun h=>m5.row (m2.row h),fun h=>m5.ref (m2.ref h),fun h=>m5.ptr (m2.ptr h)⟩,⟨m3.mono m5.row,m6⟩,fun i=>(m8 i).elim (fun e=>(m7 i).elim (fun e2=> .inl (e.trans e2)) fun e2=> .inr (by rw[e];exact e2)) .inr⟩
 | [],_::_,_,_,_,_,_,_,h,_=>h.elim
 | _::_,[],_,_,_,_,_,_,h,_=>h.elim
theorem store_row {tm:Array Value} (h:St X Z w tm J N) {id:Nat} {l:List (ty k)} {x y:ty k} {ls:List LeafI} (hid:Z.s id=⟨ver,some (.rowb k l)⟩) (hβ:J id=some (b,0))
  (hx:l[i]?=some x) (hv:All2 (LI (Fz X w N Z.s) w) ls us) (hy:ofLeaves k (splice ((leaves x).map leafIn) j ls)=some y) (hj:j+ls.length<=size k) :
  ∃cur E,RowAt w b cur E/\i*size k+j+us.length<=cur.size/\St X ⟨Z.t,upd Z.s id ⟨ver,some (.rowb k (l.set i y))⟩⟩ (w.setRow b (putAt cur (i*size k+j) us)) tm J N:=by
 have hb:=h.blk id _ (by rw[hid])
 rcases hb with⟨e,_⟩ |⟨b',cap,cur,q1,q2,q3,q4,q5,q6,q7,q8⟩
 ·rw[hβ]at e;cases e
 rw[hβ]at q1;cases q1
 have hul:=hv.len
 have hi:i<l.length:=(qS1.1 hx).1
 have hmul:i*size k+size k<=cap*size k:=by
  have:(i+1)*size k<=cap*size k:=Nat.mul_le_mul_right _ (by omega)
  rw[Nat.add_mul]at this;omega
 have hfit:i*size k+j+us.length<=cur.size:=by rw[q7];omega
 refine⟨cur,tid k,q4,hfit,?_⟩
 have hsz:=putAt_size hfit
 obtain⟨fz,hh,hice⟩:=q4
 have hnew:(w.setRow b (putAt cur (i*size k+j) us)).heap[b]?=some (.cells (putAt cur (i*size k+j) us) (tid k) fz):=setRow_heap w b cur _ _ fz hh
 have hsame:∀z,z<w.heap.size->z∉N id->(w.setRow b (putAt cur (i*size k+j) us)).heap[z]?=w.heap[z]?:=fun z _ hz=>setRow_other w b z _ (fun e=>hz (by rw[q2,e];simp))
 have hblk0:(Z.s id).blk=some (.rowb k l):=by rw[hid]
 refine(St.step (Z:=Z) h (upd Z.s id ⟨ver,some (.rowb k (l.set i y))⟩) (· = id) (by simp) (fun z hz hc=>hsame z hz (hc id _ rfl hblk0)) (fun i hi=>⟨upd_ne _ _ hi,rfl,rfl⟩) ?_ ?_ ?_ ?_ ?_ ?_ ?_ (h.rx_same hid .b .b (by simp)) ?_ ?_).2
 ·rintro i0 rfl v o n f u ⟨k1,k2,k3⟩
  refine⟨by rw[upd_same];rw[hid]at k1;exact k1,k2,fun blk' k' l' e hr=> ?_⟩
  rw[upd_same]at e
  cases e
  cases hr
  obtain⟨p1,p2⟩:=k3 _ k l hid .b
  refine⟨by simpa using p1,?_⟩
  rcases p2 with p2|⟨b2,c,o2,p3,p4,p5,p5o,p6⟩
  ·exact .inl p2
  ·refine .inr ⟨b2,c,o2,p3,p4,p5,p5o,fun hf=> ?_⟩
   obtain⟨p7,p8,p9⟩:=p6 hf
   rw[hβ]at p3;cases p3
   refine⟨p7,by simpa using p8,fun c2 E2 fz2 hc2=> ?_⟩
   rw[hnew]at hc2
   cases hc2
   rw[hsz]
   exact p9 cur _ fz hh
 ·rintro i0 rfl v i' j' u ⟨k1,k2,k3⟩
  refine⟨by rw[upd_same];rw[hid]at k1;exact k1,k2,fun blk e=> ?_⟩
  rw[upd_same]at e
  cases e
  obtain⟨b2,off2,p1,p2⟩:=k3 _ hid
  exact⟨b2,off2,p1,by simpa using p2⟩
 ·rintro i0 blk rfl hbk T
  rw[upd_same]at hbk
  cases hbk
  refine .inr ⟨b,cap,_,hβ,q2,by simpa using q3,⟨fz,hnew,by rw[hsz];exact hice⟩,by simpa using q5,q6,by rw[hsz];exact q7,fun i' x' hx' j' lf hlf=> ?_⟩
  have tl:∀{lf:Leaf} {u:Value},LeafV (Fz X w N Z.s) w lf u->LeafV (Fz X (w.setRow b (putAt cur (i*size k+j) us)) N (upd Z.s i0 ⟨ver,some (.rowb k (l.set i y))⟩)) (w.setRow b (putAt cur (i*size k+j) us)) lf u:=by
   intro lf u hl
   cases lf with
   | sc q=>exact hl
   | nest k' l'=>exact T.row hl
  have hj':j'<size k:=by have:=(qS1.1 hlf).1;rwa[leaves_len]at this
  by_cases hii:i'=i
  ·subst hii
   rw[List.getElem?_set_self (by omega)]at hx'
   cases hx'
   have hget:=(ofLeaves_spec hy).get j'
   by_cases hin:j<=j'/\j'<j+ls.length
   ·obtain⟨m,rfl⟩:∃m,j'=j+m:=⟨j'-j,by omega⟩
    have hm:m<ls.length:=by omega
    obtain⟨lf',hlf',hI⟩:=hget ls[m] (by rw[splice_in (by simp[leaves_len];omega) (by omega)];simp[hm])
    rw[hlf]at hlf'
    cases hlf'
    obtain⟨u,hu,hli⟩:=hv.get m ls[m] (by simp[hm])
    exact⟨u,by show(putAt cur (i'*size k+j) us)[i'*size k+(j+m)]?=some u;rw[show i'*size k+(j+m)=i'*size k+j+m by omega,putAt_in hfit (by omega)];exact hu,tl (hli.leaf hI)⟩
   ·have hjx:j'<(leaves x).length:=by rw[leaves_len];exact hj'
    obtain⟨u,hu,hl⟩:=q8 i' x hx j' (leaves x)[j'] (by simp[hjx])
    obtain⟨lf',hlf',hI⟩:=hget (leafIn (leaves x)[j']) (by rw[splice_out (by simp[leaves_len];omega) (by omega),List.getElem?_map,qE1 hjx];rfl)
    rw[hlf]at hlf'
    cases hlf'
    exact⟨u,by show(putAt cur (i'*size k+j) us)[i'*size k+j']?=some u;rw[putAt_out hfit (by omega)];exact hu,tl ((LI.back hl).leaf hI)⟩
  ·rw[List.getElem?_set_ne (Ne.symm hii)]at hx'
   obtain⟨u,h9,h10⟩:=q8 i' x' hx' j' lf hlf
   refine⟨u,?_,tl h10⟩
   show(putAt cur (i*size k+j) us)[i'*size k+j']?=some u
   rw[putAt_out hfit ?_]
   ·exact h9
   ·rcases Nat.lt_or_ge i' i with h11|h11
    ·left
     have:(i'+1)*size k<=i*size k:=Nat.mul_le_mul_right _ h11
     rw[Nat.add_mul]at this;omega
    ·right
     have:(i+1)*size k<=i'*size k:=Nat.mul_le_mul_right _ (by omega)
     rw[Nat.add_mul]at this;omega
 ·rintro i0 blk rfl hbk z hz
  exact .inl ⟨i0,_,rfl,hblk0,hz⟩
 ·rintro i0 blk rfl hbk
  exact h.nodup i0 _ hblk0
 ·rintro i0 i' b1 b2 rfl rfl _ _ hne
  exact absurd rfl hne
 ·rintro i0 p hp rfl
  obtain⟨e1,cs',e2,e3⟩:=h.ext i0 p hp
  rw[hblk0]at e2
  cases e2
 ·refine Frm.turn h id _ hblk0 rfl rfl rfl (by simp) hsame fun i2 b2 off2 n hi2 hn hm=> ?_
  exfalso
  have hm':b2=b:=by rw[q2]at hm;simpa using hm
  subst hm'
  obtain⟨e1,cs',e2,e3⟩:=h.ext i2 _ hi2
  have hne:i2≠id:=fun e=>by subst e;rw[hblk0]at e2;cases e2
  have hb2:=h.blk i2 _ e2
  obtain⟨b3,off3,_,_,p1,p2,_⟩:=hb2
  rw[e1]at p1
  cases p1
  exact h.disj i2 id _ _ e2 hblk0 hne b2 (by rw[p2];simp) hm
 ·exact St.env_turn h id _ hblk0 hsame
end
open Go.RowKit
section
variable {P:Program} {PC:Con} {X:Ctx} {nt:Nat} {Q:Exit->Act->World->Prop} {Z:Env} {a:Act} {w:World}
theorem Frm.grow (h:Frm X w) (ho:w'.os=w.os) (ht:w'.tape=w.tape) (hu:w'.output=w.output) (hz:w.heap.size<=w'.heap.size) (hsame:∀b,b<w.heap.size->w'.heap[b]?=w.heap[b]?):Frm X w':=by
 obtain⟨h1,h2,h3,h4,h5,h6⟩:=h
 refine⟨ho.trans h1,ht.trans h2,hu.trans h3,Nat.le_trans h4 hz,fun b hb hf=>(hsame b (by omega)).trans (h5 b hb hf),fun j b off n hj hn=> ?_⟩
 obtain⟨c0,c,E,fz,q1,q2,q3,q4⟩:=h6 j b off n hj hn
 exact⟨c0,c,E,fz,q1,(hsame b ((Array.getElem?_eq_some_iff.1 q2).1)).trans q2,q3,q4⟩
theorem new_blk {tm:Array Value} (h:St X Z w tm J N) (id:Nat) (hid:99<=id) (blk:Blk) (p:Option (Nat×Nat)) (L:List Nat)
  (ho:w'.os=w.os) (ht:w'.tape=w.tape) (hu:w'.output=w.output) (hz:w.heap.size<=w'.heap.size) (hsame:∀b,b<w.heap.size->w'.heap[b]?=w.heap[b]?)
  (hL:∀x∈L,w.heap.size<=x/\x<w'.heap.size) (hnd:L.Nodup)
  (hb:Tr (Fz X w N Z.s) (Fz X w' (upd N id L) (upd Z.s id ⟨(Z.s id).ver+1,some blk⟩)) w w' J (upd J id p) Z.s (upd Z.s id ⟨(Z.s id).ver+1,some blk⟩)->BlkC (Fz X w' (upd N id L) (upd Z.s id ⟨(Z.s id).ver+1,some blk⟩)) w' (upd J id p) (upd Z.s id ⟨(Z.s id).ver+1,some blk⟩) L id blk) :
  Tr (Fz X w N Z.s) (Fz X w' (upd N id L) (upd Z.s id ⟨(Z.s id).ver+1,some blk⟩)) w w' J (upd J id p) Z.s (upd Z.s id ⟨(Z.s id).ver+1,some blk⟩)/\St X ⟨Z.t,upd Z.s id ⟨(Z.s id).ver+1,some blk⟩⟩ w' tm (upd J id p) (upd N id L):=by
 refine St.step (Z:=Z) h (upd Z.s id ⟨(Z.s id).ver+1,some blk⟩) (· = id) hz (fun x hx _=>hsame x hx) (fun i hi=>⟨upd_ne _ _ hi,upd_ne _ _ hi,upd_ne _ _ hi⟩) ?_ ?_ ?_ ?_ ?_ ?_ ?_ (fun q u n hq e=>absurd e (h.rx_far hid q u n hq)) ?_ ?_
 ·rintro i rfl v o n f u ⟨k1,k2,k3⟩
  refine⟨by rw[upd_same];exact Nat.le_succ_of_le k1,k2,fun blk k l e hr=> ?_⟩
  rw[upd_same]at e
  cases e
  omega
 ·rintro i rfl v i' j' u ⟨k1,k2,k3⟩
  refine⟨by rw[upd_same];exact Nat.le_succ_of_le k1,k2,fun blk e=> ?_⟩
  rw[upd_same]at e
  cases e
  omega
 ·rintro i b rfl hbk T
  rw[upd_same]at hbk
  cases hbk
  rw[upd_same]
  exact hb T
 ·rintro i b rfl hbk x hx
  rw[upd_same]at hx
  exact .inr (hL x hx)
 ·rintro i b rfl hbk
  rw[upd_same]
  exact hnd
 ·rintro i i' b1 b2 rfl rfl _ _ hne
  exact absurd rfl hne
 ·rintro i q hq rfl
  have:=(qS1.1 hq).1
  have:=X.few
  omega
 ·exact h.frm.grow ho ht hu hz hsame
 ·exact X.cl w w' h.env fun b hb=>hsame b (by have:=X.hw;have:=h.frm.size;omega)
theorem site_ge (o:Oper):99<=site o:=by unfold site;split<;>omega
theorem new_box {tm:Array Value} (h:St X Z w tm J N) (id:Nat) (hid:99<=id) {ps:List PV} (hv:All2 (ValS (Fz X w N Z.s) w J Z.s) ps us) (h1:∀x∈us,x.oneCell'=true) (E:TypeId) :
  St X ⟨Z.t,upd Z.s id ⟨(Z.s id).ver+1,some (.box ps)⟩⟩ (w.alloc (.cells us.toArray E)) tm (upd J id (some (w.heap.size,0))) (upd N id [w.heap.size]):=by
 refine(new_blk (w':=w.alloc (.cells us.toArray E)) h id hid (.box ps) (some (w.heap.size,0)) [w.heap.size] rfl rfl rfl (by simp) (fun b hb=>Below.heap_alloc w _ b hb) (by simp) (by simp) fun T=> ?_).2
 have hul:=hv.len
 refine⟨w.heap.size,0,us.toArray,E,by rw[upd_same],rfl,RowAt.of (heap_alloc_new w _),by simp[hul],fun j p hp=> ?_⟩
 obtain⟨u,hu,hvu⟩:=hv.get j p hp
 exact⟨u,by simpa using hu,h1 u (qM1 hu),T.vs hvu⟩
theorem newBlk_run {id:Nat} {b:Blk} {k:Nat->Eff PV} (h:(newBlk id b k).Run PC s v s' r wr):∃r' wr',(k ((s id).ver+1)).Run PC (upd s id ⟨(s id).ver+1,some b⟩) v s' r' wr':=by
 obtain⟨r',_,w',_,h⟩:=h
 exact⟨_,_,h⟩
theorem eBox_sound (hF:Facts P) {t:TypeId} (ho:o.op= .box t x) (hx:opndB nt x=true) (hg:Good X nt Z a w) (h:(eBox o (opd Z.t x)).Run PC Z.s v s' r wr) :
  o.wp P a w (fun a' w'=>Good X nt ⟨putE o.dst v Z.t,s'⟩ a' w') Q:=by
 obtain⟨hs,hd,J,N,hst⟩:=id hg
 have hv:=hst.opd hs hx
 unfold eBox at h
 split at h
 case isFalse=>exact h.elim
 rename_i hst2
 obtain⟨r',wr',h⟩:=newBlk_run h
 obtain⟨rfl,rfl,-,-⟩:v=_/\s'=_/\r'=[]/\wr'=[]:=h
 obtain⟨us,hc,hall,hone⟩:=cellsP_val hv hst2
 have hnb:=new_box hst (site o) (site_ge o) hall hone t
 refine sound_st hs hd ?_ hnb ?_ (u:= .pointer (some ⟨w.heap.size,0,none⟩))
 ·unfold execOp
  simp only[ho,Instr.box,newVar,newRow,hc]
  rfl
 ·refine⟨by show _<=(upd Z.s _ _ _).ver;rw[upd_same];exact Nat.le_refl _,.inl ⟨_,rfl⟩,fun blk e=> ?_⟩
  rw[upd_same]at e
  cases e
  exact⟨w.heap.size,0,by rw[upd_same],rfl⟩
theorem eStore_sound (hF:Facts P) {t:TypeId} (ho:o.op= .store t x y) (hx:opndB nt x=true) (hy:opndB nt y=true) (hg:Good X nt Z a w)
  (h:(eStore t (opd Z.t x) (opd Z.t y)).Run PC Z.s v s' r wr):o.wp P a w (fun a' w'=>Good X nt ⟨putE o.dst v Z.t,s'⟩ a' w') Q:=by
 obtain⟨hs,hd,J,N,hst⟩:=id hg
 have hv:=hst.opd hs hx
 have hvy:=hst.opd hs hy
 unfold eStore at h
 split at h
 case h_1=>exact h.elim
 rename_i ag n ht
 split at h
 case isFalse=>exact h.elim
 rename_i hcond
 obtain⟨us,hc,hall,hone⟩:=cellsP_val hvy hcond.2
 have hul:=hall.len
 have hi:(P.info? t).map (·.size)=some us.length:=by
  rw[<-hul,hcond.1]
  cases ag with
  | true=>exact(hF.agg t n ht).2
  | false=>obtain⟨e,_,h2⟩:=hF.one t n ht;rw[e];exact h2
 have fin:∀(b off:Nat) (cur:Array Value) (E:TypeId),a.eval x= .pointer (some ⟨b,off,none⟩)->RowAt w b cur E->off+us.length<=cur.size->
   (execOp a.eval o).run P w= .ok .skip (w.setRow b (putAt cur off us)):=by
  intro b off cur E he hr hfit
  unfold execOp
  simp only[ho,he,Instr.storeAt,Instr.sureAddr,Sem.run_bind,Sem.run_pure,Result.andThen_ok,run_store_row' t b off (a.eval y) us hc cur E hr hfit hone hi]
  rfl
 split at h
 case h_2=>exact h.elim
 rename_i id ver i j he
 rw[he]at hv
 obtain⟨_,_,hv⟩:=hv
 obtain⟨blk,r',hb,rfl,h⟩:=live_run h
 obtain⟨b,off,hβ,hv⟩:=hv blk hb
 cases blk with
 | box cs=>
  simp only at h
  split at h
  case isFalse=>exact h.elim
  rename_i hj
  obtain⟨w2,_,rfl,rfl,-,-⟩:=h
  obtain⟨b',off',cur,E,q1,q2,q3,q4,q5⟩:=hst.blk id _ (by rw[hb])
  rw[hβ]at q1;cases q1
  exact sound_skip hs hd (fin b (off+j) cur E hv q3 (by omega)) (store_box hst hb hβ hall hone (by omega) q3)
 | objb o=>exact h.elim
 | iterb=>exact h.elim
 | rowd=>exact h.elim
 | rowx=>exact h.elim
 | rowb k l=>
  obtain⟨rfl,hil,hv⟩:=hv
  simp only at h
  obtain⟨ls,s1,r1,w1,r2,w2,h1,h⟩:=bind_run h
  obtain⟨hst1,T,hls,hsm⟩:=settles_spec (t:=Z.t) hst hall h1
  have hll:=hls.len
  obtain⟨blk,r3,hb1,-,h⟩:=live_run h
  cases blk with
  | box cs=>exact h.elim
  | objb o=>exact h.elim
  | iterb=>exact h.elim
  | rowd=>exact h.elim
  | rowx=>exact h.elim
  | rowb k1 l1=>
  have hsame:Z.s id=⟨ver,some (.rowb k1 l1)⟩:=by
   rcases hsm id with e|e
   ·rw[<-e];exact hb1
   ·rw[hb1]at e;cases e
  rw[hb]at hsame
  cases hsame
  obtain⟨x0,hx0,h⟩:=h
  simp only at h
  split at h
  case isFalse=>exact h.elim
  rename_i hjn
  split at h
  case h_2=>exact h.elim
  rename_i y0 hy0
  obtain⟨w3,-,e1,rfl,-,-⟩:=h
  subst e1
  obtain⟨cur,E,q1,q2,q3⟩:=store_row (Z:=⟨Z.t,s1⟩) hst1 hb1 hβ hx0 hls hy0 (by omega)
  exact sound_skip hs hd (fin b (i*size k+j) cur E hv q1 q2) q3
end
open Go.RowKit
def loK:IntKind->Int| .i8=> -128| .i16=> -32768| .i32=> -2147483648| .i64=> -9223372036854775808|_=>0
def hiK:IntKind->Int| .i8=>127| .i16=>32767| .i32=>2147483647| .i64=>9223372036854775807| .u8=>255| .u16=>65535| .u32=>4294967295| .u64=>18446744073709551615
theorem wrap_iff (k:IntKind) (n:Int):k.wrap n=n↔loK k<=n/\n<=hiK k:=by
 cases k<;>simp[IntKind.wrap,IntKind.bits,IntKind.signed,loK,hiK]<;>(try split)<;>omega
theorem wrap_in (k:IntKind) (n:Int):loK k<=k.wrap n/\k.wrap n<=hiK k:=by
 cases k<;>simp[IntKind.wrap,IntKind.bits,IntKind.signed,loK,hiK]<;>omega
theorem wf_wrap (k:IntKind) (n:Int):wfV (.int k (k.wrap n)):=(wrap_iff k _).2 (wrap_in k n)
theorem wf_tmod {k:IntKind} {b:Int} (h:wfV (.int k a)):wfV (.int k (a.tmod b)):=by
 have h1:=(wrap_iff k a).1 h
 refine(wrap_iff k _).2 ?_
 have h2:(a.tmod b).natAbs<=a.natAbs:=by rw[Int.natAbs_tmod];exact Nat.mod_le _ _
 have h3:0<=a->0<=a.tmod b:=fun h=>Int.tmod_nonneg b h
 have hz:loK k<=0/\0<=hiK k:=by cases k<;>simp[loK,hiK]
 have hs:a<0->a.tmod b<=0:=fun h=>by
  have:=Int.tmod_nonneg b (a:= -a) (by omega)
  rw[Int.neg_tmod]at this;omega
 rcases Int.lt_or_le a 0 with h4|h4
 ·have:=hs h4;omega
 ·have:=h3 h4;omega
theorem wf_fdiv {k:IntKind} (h:wfV (.int k a)):wfV (.int k (a.fdiv (2 ^ n))):=by
 have h1:=(wrap_iff k a).1 h
 refine(wrap_iff k _).2 ?_
 have hp:(0:Int)<2 ^ n:=Int.pow_pos (by decide)
 rw[Int.fdiv_eq_ediv_of_nonneg _ (Int.le_of_lt hp)]
 have hz:loK k<=0/\0<=hiK k:=by cases k<;>simp[loK,hiK]
 rcases Int.lt_or_le a 0 with h4|h4
 ·have h5:a<=a / 2 ^ n:=by
   rw[Int.le_ediv_iff_mul_le hp]
   have:a*2 ^ n<=a*1:=Int.mul_le_mul_of_nonpos_left (by omega) (by omega)
   omega
  have h6:a / 2 ^ n<=0:=Int.ediv_nonpos_of_nonpos_of_neg (by omega) hp
  omega
 ·have h5:a / 2 ^ n<=a:=Int.ediv_le_self _ h4
  have h6:0<=a / 2 ^ n:=Int.ediv_nonneg h4 (Int.le_of_lt hp)
  omega
section
variable {P:Program} {w:World} {PC:Con} {s s':Sto} {r wr:List Nat} {u:PV}
theorem retI_run {k:IntKind} {n:Int} (h:(retI k n).Run PC s u s' r wr):s'=s/\u= .v (.int k (k.wrap n))/\wfV (.int k (k.wrap n)):=by
 unfold retI at h
 cases hk:k.signed<;>simp only[hk]at h
 ·obtain⟨rfl,rfl,-,-⟩:u=_/\s'=_/\r=[]/\wr=[]:=h
  exact⟨rfl,rfl,wf_wrap _ _⟩
 ·obtain⟨hi,rfl,rfl,-,-⟩:inK k n/\u=_/\s'=_/\r=[]/\wr=[]:=h
  have hi:k.wrap n=n:=hi
  exact⟨rfl,by rw[hi],wf_wrap _ _⟩
theorem intOp_run {op:BinOp} {t:TypeId} {k:IntKind} {b:Int} (h:(intOp op k a b).Run PC s u s' r wr) (ha:wfV (.int k a)) (hb:wfV (.int k b)):s'=s/\∃v,u= .v v/\(binOp op t (.int k a) (.int k b)).run P w= .ok v w/\wfV v:=by
 have val:∀v:Value,(Eff.ret (PV.v v)).Run PC s u s' r wr->(binOp op t (.int k a) (.int k b)).run P w= .ok v w->wfV v->s'=s/\∃v,u= .v v/\(binOp op t (.int k a) (.int k b)).run P w= .ok v w/\wfV v:=fun v h h1 h2=>⟨h.2.1,v,h.1,h1,h2⟩
 have ri:∀n:Int,(retI k n).Run PC s u s' r wr->(binOp op t (.int k a) (.int k b)).run P w= .ok (.int k (k.wrap n)) w->s'=s/\∃v,u= .v v/\(binOp op t (.int k a) (.int k b)).run P w= .ok v w/\wfV v:=fun n h h1=>by
  obtain⟨e1,e2,e3⟩:=retI_run h
  exact⟨e1,_,e2,h1,e3⟩
 cases op<;>simp only[intOp]at h
 all_goals first
  | exact h.elim
  | exact ri _ h (by simp[binOp,Op.intArith,Sem.run_pure])
  | (obtain ⟨hne, h⟩ : b ≠ 0 /\ _ := h
     first
      | exact ri _ h (by simp [binOp, Op.intDiv, hne, Sem.run_pure])
      | exact val _ h (by simp [binOp, Op.intDiv, hne, Sem.run_pure]) (wf_tmod ha))
  | exact val _ h (by simp[binOp,Op.intArith,Op.intBits,Op.intCmp,Sem.run_pure]) (by first|exact wf_wrap _ _|trivial)
theorem shOp_run {op:BinOp} {t:TypeId} {k k':IntKind} {b:Int} (hop:op= .shl∨op= .shr) (h:(shOp op k a b).Run PC s u s' r wr) (ha:wfV (.int k a)):s'=s/\∃v,u= .v v/\(binOp op t (.int k a) (.int k' b)).run P w= .ok v w/\wfV v:=by
 obtain⟨hb,h⟩:0<=b/\_:=h
 have hb:¬b<0:=by omega
 rcases hop with rfl|rfl
 ·exact⟨h.2.1,_,h.1,by simp[binOp,Op.shift,hb,Sem.run_pure],wf_wrap _ _⟩
 ·exact⟨h.2.1,_,h.1,by simp[binOp,Op.shift,hb,Sem.run_pure],wf_fdiv ha⟩
theorem strOp_run {op:BinOp} {t:TypeId} {a b:ByteArray} (h:(strOp op a b).Run PC s u s' r wr):s'=s/\∃v,u= .v v/\(binOp op t (.string a) (.string b)).run P w= .ok v w/\wfV v:=by
 have e:(a.toList==b.toList)=decide (a=b):=by
  rw[Bool.eq_iff_iff,beq_iff_eq,decide_eq_true_eq]
  constructor
  ·intro h
   have ha:=ByteArray.toList_eq a
   have hb:=ByteArray.toList_eq b
   rw[h]at ha
   exact ByteArray.ext (Array.ext' (ha.symm.trans hb))
  ·intro h;rw[h]
 cases op<;>simp only[strOp]at h
 all_goals first
  | exact h.elim
  | (obtain ⟨hl, h⟩ : a.size + b.size <= 9223372036854775807 /\ _ := h
     refine ⟨h.2.1, _, h.1, ?_, ?_⟩
     ·simp [binOp, Op.stringOp, Sem.run_pure, IntKind.max, IntKind.signed, IntKind.bits]
      omega
     ·show (a ++ b).size <= _
      rw [ByteArray.size_append]; exact hl)
  | exact⟨h.2.1,_,h.1,by simp[binOp,Op.stringOp,Sem.run_pure,e],trivial⟩
end
open Go.RowKit
def eFieldAddr (t:TypeId) (i:Nat) (p:PV):Eff PV:=match fldT t i with
 | some (off,_,_)=>match p with
  | .ptr id ver a j=>live id ver fun
   | .box _=> .ret (.ptr id ver a (j+off))
   | .rowb _ _=> .ret (.ptr id ver a (j+off))
   | .rowd _ _=> .ret (.ptr id ver a (j+off))
   | .rowx _ _ _ _=> .ret (.ptr id ver a (j+off))
   | .objb _=> .fail
   | .iterb _ _ _ _ _=> .fail
  | .eptr k l a j=> .ret (.eptr k l a (j+off))
  | _=> .fail
 | none=> .fail
def eField (t:TypeId) (i:Nat) (p:PV):Eff PV:=match fldT t i with
 | some (off,ag,n)=>match p with
  | .agg cs=>rangeV ag cs off n
  | _=> .fail
 | none=> .fail
def eIndexAddr (t:TypeId) (x i:PV):Eff PV:=match i with
 | .v (.int _ n)=>match x with
  | .row false k l=>if slK t=some k then gdE (0<=n/\n<l.length) (.ret (.eptr k l n.toNat 0))else .fail
  | .ref id ver off m _=>live id ver fun
   | .rowb k _=>if slK t=some k then gdE (0<=n/\n<m) (.ret (.ptr id ver (off+n.toNat) 0))else .fail
   | .rowd k _=>if slK t=some k then gdE (0<=n/\n<m) (.ret (.ptr id ver (off+n.toNat) 0))else .fail
   | .rowx k _ _ _=>if slK t=some k then gdE (0<=n/\n<m) (.ret (.ptr id ver (off+n.toNat) 0))else .fail
   | .box _=> .fail
   | .objb _=> .fail
   | .iterb _ _ _ _ _=> .fail
  | _=> .fail
 | _=> .fail
def eIndex (t:TypeId) (x i:PV):Eff PV:=match x,i with
 | .v (.string s),.v (.int _ n)=>if isStrT t then gdE (0<=n) (.opt s[n.toNat]? fun b=> .ret (.v (.int .u8 b.toNat)))else .fail
 | _,_=> .fail
def eExtract (x:PV) (i:Nat):Eff PV:=match x with
 | .tup vs=>match vs[i]? with
  | some v=> .ret v
  | none=> .fail
 | _=> .fail
def widens:IntKind->IntKind->Bool
 | .u8,.i64=>true| .u8,.u64=>true| .u8,.u32=>true| .u8,.i32=>true| .u32,.i64=>true| .u32,.u64=>true| .i32,.i64=>true| .i64,.i64=>true| .u8,.u8=>true| .u32,.u32=>true| .u64,.u64=>true
 | _,_=>false
def eConvI (src dst:TypeId) (x:PV):Eff PV:=match cvT src dst,x with
 | some (.int k),.v (.int k0 n)=>match widens k0 k with
  | true=> .ret (.v (.int k n))
  | false=>retI k n
 | _,_=> .fail
def eUn (op:UnOp) (x:PV):Eff PV:=match op,x with
 | .not,.v (.bool b)=> .ret (.v (.bool (!b)))
 | .neg,.v (.int k n)=>retI k (0-n)
 | .xor,.v (.int k n)=>intOp .xor k (if k.signed then -1 else k.max) n
 | _,_=> .fail
theorem widens_wrap {k0 k:IntKind} {n:Int} (h:widens k0 k=true) (hw:wfV (.int k0 n)):k.wrap n=n:=by
 have h1:=(wrap_iff k0 n).1 hw
 refine(wrap_iff k n).2 ?_
 cases k0<;>cases k<;>simp[widens]at h<;>simp[loK,hiK]at h1⊢<;>omega
section
variable {P:Program} {PC:Con} {X:Ctx} {nt:Nat} {Q:Exit->Act->World->Prop} {Z:Env} {a:Act} {w:World} {o:Oper} {v:PV} {s':Sto} {r wr:List Nat}
theorem add_add (b o i:Nat):((⟨b,o,none⟩:Addr).add i)=⟨b,o+i,none⟩:=addr_add b o i
theorem run_fieldAt (hF:Facts P) {t:TypeId} {ag:Bool} (ht:fldT t i=some (off,ag,n)) (p:Addr):(Instr.fieldAt t (.pointer (some p)) i).run P w= .ok (.pointer (some (p.add off))) w:=by
 obtain⟨hn,fs,f,h1,h2,h3,_,h4,_⟩:=hF.fld t i off ag n ht
 cases hq:P.info? f.type with
 | none=>simp[hq]at h4
 | some inf=>
  have hs:inf.size=n:=by simpa [hq]using h4
  simp[Instr.fieldAt,run_underlying h1,h2,Instr.sureAddr,fieldPlace,sizeOf,typeInfo,hq,hs,hn,h3]
theorem eFieldAddr_sound (hF:Facts P) {t:TypeId} (ho:o.op= .fieldAddr t x i) (hx:opndB nt x=true) (hg:Good X nt Z a w) (h:(eFieldAddr t i (opd Z.t x)).Run PC Z.s v s' r wr) :
  o.wp P a w (fun a' w'=>Good X nt ⟨putE o.dst v Z.t,s'⟩ a' w') Q:=by
 obtain⟨hs,hd,J,N,hst⟩:=id hg
 have hv:=hst.opd hs hx
 unfold eFieldAddr at h
 split at h
 case h_2=>exact h.elim
 rename_i off ag n ht
 have fin:∀p,a.eval x= .pointer (some p)->s'=Z.s->ValC (Fz X w N Z.s) w J Z.s v (.pointer (some (p.add off)))->o.wp P a w (fun a' w'=>Good X nt ⟨putE o.dst v Z.t,s'⟩ a' w') Q:=by
  rintro p he rfl hvv
  refine sound_val hs hd hst ?_ hvv
  unfold execOp
  simp only[ho,he,Sem.run_bind,run_fieldAt hF ht,Result.andThen_ok]
  rfl
 split at h
 case h_3=>exact h.elim
 case h_1=>
  rename_i id ver i0 j he
  rw[he]at hv
  obtain⟨k1,_,k3⟩:=hv
  obtain⟨blk,r',hb,rfl,h⟩:=live_run h
  obtain⟨b,o2,h1,h2⟩:=k3 blk hb
  cases blk with
  | box cs=>
   obtain⟨rfl,rfl,-,-⟩:v=_/\s'=_/\r'=[]/\wr=[]:=h
   refine fin _ h2 rfl ⟨k1,.inl ⟨_,rfl⟩,fun blk2 hb2=>⟨b,o2,h1,?_⟩⟩
   rw[hb]at hb2;cases hb2
   simp only
   rw[add_add,Nat.add_assoc]
  | rowb k l=>
   obtain⟨rfl,rfl,-,-⟩:v=_/\s'=_/\r'=[]/\wr=[]:=h
   obtain⟨h3,h4,h5⟩:=h2
   refine fin _ h5 rfl ⟨k1,.inl ⟨_,rfl⟩,fun blk2 hb2=>⟨b,o2,h1,?_⟩⟩
   rw[hb]at hb2;cases hb2
   exact⟨h3,h4,by rw[add_add,Nat.add_assoc]⟩
  | rowd k l=>
   obtain⟨rfl,rfl,-,-⟩:v=_/\s'=_/\r'=[]/\wr=[]:=h
   obtain⟨h3,h4,h5⟩:=h2
   refine fin _ h5 rfl ⟨k1,.inl ⟨_,rfl⟩,fun blk2 hb2=>⟨b,o2,h1,?_⟩⟩
   rw[hb]at hb2;cases hb2
   exact⟨h3,h4,by rw[add_add,Nat.add_assoc]⟩
  | rowx k l i1 cs=>
   obtain⟨rfl,rfl,-,-⟩:v=_/\s'=_/\r'=[]/\wr=[]:=h
   obtain⟨h3,h4,h5⟩:=h2
   refine fin _ h5 rfl ⟨k1,.inl ⟨_,rfl⟩,fun blk2 hb2=>⟨b,o2,h1,?_⟩⟩
   rw[hb]at hb2;cases hb2
   exact⟨h3,h4,by rw[add_add,Nat.add_assoc]⟩
  | objb o=>exact h.elim
  | iterb=>exact h.elim
 case h_2=>
  rename_i k l i0 j he
  rw[he]at hv
  obtain⟨b,o2,h1,h2,h3⟩:=hv
  obtain⟨rfl,rfl,-,-⟩:v=_/\s'=_/\r=[]/\wr=[]:=h
  refine fin _ h2 rfl ⟨b,o2,h1,?_,h3⟩
  rw[add_add,Nat.add_assoc]
theorem eIndexAddr_sound (hF:Facts P) {t:TypeId} (ho:o.op= .indexAddr t x y) (hx:opndB nt x=true) (hy:opndB nt y=true) (hg:Good X nt Z a w) (h:(eIndexAddr t (opd Z.t x) (opd Z.t y)).Run PC Z.s v s' r wr) :
  o.wp P a w (fun a' w'=>Good X nt ⟨putE o.dst v Z.t,s'⟩ a' w') Q:=by
 obtain⟨hs,hd,J,N,hst⟩:=id hg
 have hv:=hst.opd hs hx
 have hvy:=hst.opd hs hy
 unfold eIndexAddr at h
 split at h
 case h_2=>exact h.elim
 rename_i ik n hey
 rw[hey]at hvy
 have hey2:a.eval y= .int ik n:=hvy.1
 have run:∀(k:K) (p:Addr) (len cap:Nat),slK t=some k->0<=n->n<len->a.eval x= .slice (some p) len cap->(execOp a.eval o).run P w= .ok (.value (.pointer (some (p.add (n.toNat*size k))))) w:=by
  intro k p len cap hk h0 h1 he
  obtain⟨i,z,q1,q2,q3,q4,q5,-⟩:=hF.el k
  unfold execOp
  simp[ho,he,hey2,Instr.indexAt,asIntOf,run_underlying (hF.sl t k hk),h0,h1,sizeOf,typeInfo,q1,q3]
 split at h
 case h_3=>exact h.elim
 case h_1=>
  rename_i k l he
  rw[he]at hv
  split at h
  case isFalse=>exact h.elim
  rename_i hk
  obtain⟨⟨h0,h1⟩,rfl,rfl,-,-⟩:(0<=n/\n<l.length)/\v=_/\s'=_/\r=[]/\wr=[]:=h
  obtain⟨_,hrow⟩:=hv
  obtain⟨pa,cap,e1,e2,e3,e4⟩:=id hrow
  have hne:l≠[]:=by intro e;rw[e]at h1;simp at h1;omega
  obtain⟨b,off,rfl,hb,h5⟩:=e4 hne
  refine sound_val hs hd hst (run k ⟨b,off,none⟩ _ _ hk h0 h1 e1) ⟨b,off,by omega,by rw[add_add,Nat.add_zero],?_⟩
  exact⟨_,_,rfl,Nat.le_refl _,e3,fun _=>⟨b,off,rfl,hb,h5⟩⟩
 case h_2=>
  rename_i id ver off m full he
  rw[he]at hv
  obtain⟨_,_,k3⟩:=hv
  obtain⟨blk,r',hb,rfl,h⟩:=live_run h
  have fin:∀(k:K) (l:List (ty k)),IsRow blk k l->(if slK t=some k then gdE (0<=n/\n<m) (.ret (.ptr id ver (off+n.toNat) 0))else .fail:Eff PV).Run PC Z.s v s' r' wr->o.wp P a w (fun a' w'=>Good X nt ⟨putE o.dst v Z.t,s'⟩ a' w') Q:=by
   intro k l hrw h
   split at h
   case isFalse=>exact h.elim
   rename_i hk
   obtain⟨⟨h0,h1⟩,rfl,rfl,-,-⟩:(0<=n/\n<m)/\v=_/\s'=_/\r'=[]/\wr=[]:=h
   obtain⟨e1,e2⟩:=k3 _ k l hb hrw
   rcases e2 with⟨_,e2⟩ |⟨b,c,o2,e2,e3,e4,e5,e6⟩
   ·exfalso
    have:l=[]:=by
     rcases row_head hrw (hst.blk id _ (by rw[hb]))with⟨_,e,_⟩ |⟨b,cap,cur,q,_⟩;exact e;simp_all
    rw[this]at e1;simp at e1;omega
   ·have ho2:=e5 (.inl (by omega))
    subst ho2
    refine sound_val hs hd hst (run k ⟨b,off*size k,none⟩ m c hk h0 h1 e4) ⟨by rw[hb];exact Nat.le_refl _,.inl ⟨_,rfl⟩,fun blk' hb2=> ?_⟩
    rw[hb]at hb2
    cases hb2
    refine⟨b,0,e2,?_⟩
    cases hrw
    all_goals exact⟨rfl,by omega,by rw[add_add,Nat.add_zero,Nat.add_mul]⟩
  cases blk with
  | box cs=>exact h.elim
  | objb o=>exact h.elim
  | iterb=>exact h.elim
  | rowb k l=>exact fin k l .b h
  | rowd k l=>exact fin k l .d h
  | rowx k l i cs=>exact fin k l .x h
end
open Go.RowKit
def pickP (b:Bool) (x y:PV):PV:=match x,y with
 | .v (.int k p),.v (.int k' q)=>if k=k' then .v (.int k (if b then p else q))else(if b then x else y)
 | .v (.bool p),.v (.bool q)=> .v (.bool (if b then p else q))
 | .v (.string p),.v (.string q)=> .v (.string (if b then p else q))
 | _,_=>if b then x else y
theorem pickP_eq (b:Bool) (x y:PV):pickP b x y=if b then x else y:=by
 unfold pickP
 split
 ·split
  ·rename_i e;subst e;cases b<;>rfl
  ·rfl
 all_goals (cases b<;>rfl)
def ePick (c x y:PV):Eff PV:=match c with
 | .v (.bool b)=> .ret (pickP b x y)
 | _=> .fail
def eNil (x:PV):Eff PV:=match x with
 | .eptr ..=> .ret x
 | .ptr id ver _ _=>live id ver fun
  | .box _=> .ret x
  | .rowb _ _=> .ret x
  | .rowd _ _=> .ret x
  | .rowx _ _ _ _=> .ret x
  | .objb _=> .fail
  | .iterb _ _ _ _ _=> .fail
 | _=> .fail
def eLen (t:TypeId) (x:PV):Eff PV:=match x with
 | .v (.string s)=>if isStrT t then .ret (.v (.int .i64 s.size))else .fail
 | .nil=>if(slK t).isSome then .ret (.v (.int .i64 0))else .fail
 | .row false _ l=>if(slK t).isSome then .ret (.v (.int .i64 l.length))else .fail
 | .ref id ver _ n _=>live id ver fun
  | .rowb _ _=>if(slK t).isSome then .ret (.v (.int .i64 n))else .fail
  | .rowd _ _=>if(slK t).isSome then .ret (.v (.int .i64 n))else .fail
  | .rowx _ _ _ _=>if(slK t).isSome then .ret (.v (.int .i64 n))else .fail
  | .box _=> .fail
  | .objb _=> .fail
  | .iterb _ _ _ _ _=> .fail
 | _=> .fail
def eMin (mx:Bool):List PV->Eff PV
 | [.v (.int k a),.v (.int k' b)]=>if k=k' then .ret (.v (.int k (if mx then(if a<b then b else a)else(if b<a then b else a))))else .fail
 | _=> .fail
section
variable {P:Program} {PC:Con} {X:Ctx} {nt:Nat} {Q:Exit->Act->World->Prop} {Z:Env} {a:Act} {w:World} {o:Oper} {v:PV} {s':Sto} {r wr:List Nat}
theorem eMove_sound (ho:o.op= .move x∨o.op= .assign x) (hx:opndB nt x=true) (hg:Good X nt Z a w) (h:(Eff.ret (opd Z.t x)).Run PC Z.s v s' r wr) :
  o.wp P a w (fun a' w'=>Good X nt ⟨putE o.dst v Z.t,s'⟩ a' w') Q:=by
 obtain⟨hs,hd,J,N,hst⟩:=id hg
 obtain⟨rfl,rfl,-,-⟩:v=_/\s'=_/\r=[]/\wr=[]:=h
 refine sound_val hs hd hst ?_ (hst.opd hs hx)
 unfold execOp
 rcases ho with ho|ho<;>simp only[ho]<;>rfl
theorem ePick_sound {c:Operand} (ho:o.op= .pick c x y) (hc:opndB nt c=true) (hx:opndB nt x=true) (hy:opndB nt y=true) (hg:Good X nt Z a w) (h:(ePick (opd Z.t c) (opd Z.t x) (opd Z.t y)).Run PC Z.s v s' r wr) :
  o.wp P a w (fun a' w'=>Good X nt ⟨putE o.dst v Z.t,s'⟩ a' w') Q:=by
 obtain⟨hs,hd,J,N,hst⟩:=id hg
 have hv:=hst.opd hs hc
 unfold ePick at h
 split at h
 case h_2=>exact h.elim
 rename_i b he
 rw[he]at hv
 obtain⟨rfl,rfl,-,-⟩:v=_/\s'=_/\r=[]/\wr=[]:=h
 have hb:a.eval c= .bool b:=hv.1
 rw[pickP_eq]
 refine sound_val hs hd hst (u:=if b then a.eval x else a.eval y) ?_ ?_
 ·unfold execOp
  simp only[ho,hb]
  cases b<;>rfl
 ·cases b
  ·exact hst.opd hs hy
  ·exact hst.opd hs hx
theorem eNil_sound (ho:o.op= .nilCheck x) (hx:opndB nt x=true) (hg:Good X nt Z a w) (h:(eNil (opd Z.t x)).Run PC Z.s v s' r wr) :
  o.wp P a w (fun a' w'=>Good X nt ⟨putE o.dst v Z.t,s'⟩ a' w') Q:=by
 obtain⟨hs,hd,J,N,hst⟩:=id hg
 have hv:=hst.opd hs hx
 have fin:∀p,a.eval x= .pointer (some p)->v=opd Z.t x->s'=Z.s->o.wp P a w (fun a' w'=>Good X nt ⟨putE o.dst v Z.t,s'⟩ a' w') Q:=by
  rintro p he rfl rfl
  refine sound_val hs hd hst ?_ hv
  unfold execOp
  simp only[ho,he]
  rfl
 unfold eNil at h
 split at h
 case h_3=>exact h.elim
 case h_1=>
  rename_i he
  rw[he]at hv
  obtain⟨b,off,_,hp,_⟩:=hv
  obtain⟨h1,h2,-,-⟩:v=_/\s'=_/\r=[]/\wr=[]:=h
  exact fin _ hp h1 h2
 case h_2=>
  rename_i id ver i0 j he
  rw[he]at hv
  obtain⟨_,_,k3⟩:=hv
  obtain⟨blk,r',hb,rfl,h⟩:=live_run h
  obtain⟨b,o2,h1,h2⟩:=k3 blk hb
  cases blk with
  | box cs=>
   obtain⟨h3,h4,-,-⟩:v=_/\s'=_/\r'=[]/\wr=[]:=h
   exact fin _ h2 h3 h4
  | rowb k l=>
   obtain⟨h3,h4,-,-⟩:v=_/\s'=_/\r'=[]/\wr=[]:=h
   exact fin _ h2.2.2 h3 h4
  | rowd k l=>
   obtain⟨h3,h4,-,-⟩:v=_/\s'=_/\r'=[]/\wr=[]:=h
   exact fin _ h2.2.2 h3 h4
  | rowx k l i cs=>
   obtain⟨h3,h4,-,-⟩:v=_/\s'=_/\r'=[]/\wr=[]:=h
   exact fin _ h2.2.2 h3 h4
  | objb o=>exact h.elim
  | iterb=>exact h.elim
theorem eBin_sound (hF:Facts P) {op:BinOp} {t t':TypeId} (ho:o.op= .binOp op t x y t') (hx:opndB nt x=true) (hy:opndB nt y=true) (hg:Good X nt Z a w) (h:(eBin op t (opd Z.t x) (opd Z.t y)).Run PC Z.s v s' r wr) :
  o.wp P a w (fun a' w'=>Good X nt ⟨putE o.dst v Z.t,s'⟩ a' w') Q:=by
 obtain⟨hs,hd,J,N,hst⟩:=id hg
 have hv:=hst.opd hs hx
 have hvy:=hst.opd hs hy
 have fin:∀(p q u:Value),a.eval x=p->a.eval y=q->(∀cs,p≠ .agg cs)->p≠ .nilIface->(binOp op t p q).run P w= .ok u w->wfV u->v= .v u->s'=Z.s->o.wp P a w (fun a' w'=>Good X nt ⟨putE o.dst v Z.t,s'⟩ a' w') Q:=by
  rintro p q u hp hq hna hni hrun hw rfl rfl
  refine sound_val hs hd hst ?_ ⟨rfl,hw⟩
  have hgd:(eqGuard op t x y p q).run P w= .ok () w:=by
   unfold eqGuard
   cases op<;>first|rfl|(cases p<;>first|rfl|exact absurd rfl (hna _)|exact absurd rfl hni|(cases q<;>rfl))
  unfold execOp
  simp only[ho,hp,hq,Sem.run_bind,hgd,Result.andThen_ok,hrun]
  rfl
 unfold eBin at h
 split at h
 case h_4=>exact h.elim
 case h_1=>
  rename_i k p k' q he hey
  rw[he]at hv
  rw[hey]at hvy
  obtain⟨hv,hwx⟩:=hv
  obtain⟨hvy,hwy⟩:=hvy
  have sh:(op= .shl∨op= .shr)->(shOp op k p q).Run PC Z.s v s' r wr->o.wp P a w (fun a' w'=>Good X nt ⟨putE o.dst v Z.t,s'⟩ a' w') Q:=by
   intro hop h
   obtain⟨e1,u,e2,h1,h2⟩:=shOp_run (P:=P) (w:=w) (t:=t) (k':=k') hop h hwx
   exact fin _ _ u hv hvy (by simp) (by simp) h1 h2 e2 e1
  split at h
  ·exact sh (.inl rfl) h
  ·exact sh (.inr rfl) h
  ·split at h
   case isFalse=>exact h.elim
   rename_i hk
   subst hk
   obtain⟨e1,u,e2,h1,h2⟩:=intOp_run (P:=P) (w:=w) (t:=t) h hwx hwy
   exact fin _ _ u hv hvy (by simp) (by simp) h1 h2 e2 e1
 case h_2=>
  rename_i p q he hey
  rw[he]at hv
  rw[hey]at hvy
  obtain⟨e1,u,e2,h1,h2⟩:=strOp_run (P:=P) (w:=w) (t:=t) h
  exact fin _ _ u hv.1 hvy.1 (by simp) (by simp) h1 h2 e2 e1
 case h_3=>
  rename_i p q he hey
  rw[he]at hv
  rw[hey]at hvy
  split at h
  case isFalse=>exact h.elim
  rename_i hb
  have hu:=hF.bool t hb
  have heq:(Op.equal t (.bool p) (.bool q)).run P w= .ok (p==q) w:=by
   show(Op.equalIn (9999+1) t (.bool p) (.bool q)).run P w=_
   unfold Op.equalIn
   simp[run_underlying hu]
  split at h
  ·obtain⟨e1,e2,-,-⟩:v=_/\s'=_/\r=[]/\wr=[]:=h
   exact fin _ _ (.bool (p==q)) hv.1 hvy.1 (by simp) (by simp) (by simp[binOp,heq]) trivial e1 e2
  ·obtain⟨e1,e2,-,-⟩:v=_/\s'=_/\r=[]/\wr=[]:=h
   exact fin _ _ (.bool (!(p==q))) hv.1 hvy.1 (by simp) (by simp) (by simp[binOp,heq]) trivial e1 e2
  ·exact h.elim
theorem eExtract_sound (ho:o.op= .extract x i) (hx:opndB nt x=true) (hg:Good X nt Z a w) (h:(eExtract (opd Z.t x) i).Run PC Z.s v s' r wr) :
  o.wp P a w (fun a' w'=>Good X nt ⟨putE o.dst v Z.t,s'⟩ a' w') Q:=by
 obtain⟨hs,hd,J,N,hst⟩:=id hg
 have hv:=hst.opd hs hx
 unfold eExtract at h
 split at h
 case h_2=>exact h.elim
 rename_i vs he
 rw[he]at hv
 split at h
 case h_2=>exact h.elim
 rename_i v0 hv0
 obtain⟨rfl,rfl,-,-⟩:v=_/\s'=_/\r=[]/\wr=[]:=h
 obtain⟨us,hu,hall⟩:=hv
 obtain⟨u,hu2,h1⟩:=hall.get i v hv0
 refine sound_val hs hd hst (u:=u) ?_ ?_
 ·unfold execOp
  have:us[i]?=some u:=by simpa using hu2
  simp[ho,hu,Instr.extract,this]
 ·cases v<;>first|exact h1|exact h1.elim
theorem eConvI_sound (hF:Facts P) {src dst:TypeId} (ho:o.op= .convert src dst x) (hx:opndB nt x=true) (hg:Good X nt Z a w) (h:(eConvI src dst (opd Z.t x)).Run PC Z.s v s' r wr) :
  o.wp P a w (fun a' w'=>Good X nt ⟨putE o.dst v Z.t,s'⟩ a' w') Q:=by
 obtain⟨hs,hd,J,N,hst⟩:=id hg
 have hv:=hst.opd hs hx
 unfold eConvI at h
 split at h
 case h_2=>exact h.elim
 rename_i k k0 n hcv he
 rw[he]at hv
 obtain⟨⟨d,hsrc⟩,hdst⟩:=hF.cvI _ _ _ hcv
 obtain⟨rfl,rfl⟩:v= .v (.int k (k.wrap n))/\s'=Z.s:=by
  split at h
  ·rename_i hw
   rw[widens_wrap hw hv.2];exact⟨h.1,h.2.1⟩
  ·obtain⟨e1,e2,_⟩:=retI_run h
   exact⟨e2,e1⟩
 refine sound_val hs hd hst (u:= .int k (k.wrap n)) ?_ ⟨rfl,wf_wrap _ _⟩
 unfold execOp
 simp[ho,hv.1,convert,run_underlying hsrc,run_underlying hdst,Conv.intToInt]
theorem eIndex_sound (hF:Facts P) {t:TypeId} (ho:o.op= .index t x y) (hx:opndB nt x=true) (hy:opndB nt y=true) (hg:Good X nt Z a w) (h:(eIndex t (opd Z.t x) (opd Z.t y)).Run PC Z.s v s' r wr) :
  o.wp P a w (fun a' w'=>Good X nt ⟨putE o.dst v Z.t,s'⟩ a' w') Q:=by
 obtain⟨hs,hd,J,N,hst⟩:=id hg
 have hv:=hst.opd hs hx
 have hvy:=hst.opd hs hy
 unfold eIndex at h
 split at h
 case h_2=>exact h.elim
 rename_i s ik n he hey
 rw[he]at hv
 rw[hey]at hvy
 split at h
 case isFalse=>exact h.elim
 rename_i hc
 obtain⟨h0,b,hb,rfl,rfl,-,-⟩:0<=n/\∃b,s[n.toNat]?=some b/\v=_/\s'=_/\r=[]/\wr=[]:=h
 refine sound_val hs hd hst (u:= .int .u8 b.toNat) ?_ ⟨rfl,?_⟩
 ·unfold execOp
  simp[ho,hv.1,hvy.1,Instr.index,asIntOf,run_underlying (hF.str t hc),h0,hb]
 ·refine(wrap_iff .u8 _).2 ?_
  have:=b.toNat_lt
  simp[loK,hiK];omega
end
open Go.RowKit
def OwnsRow (w:World) (e:TypeId) (size:Nat) (v:Value) (n:Nat) (xs:List Value):Prop:=
 xs.length=n*size/\
 ((v= .slice none 0 0/\n=0)∨
  ∃g cap cur,v= .slice (some ⟨g,0,none⟩) n cap/\0<=g/\RowAt w g cur e/\n<=cap/\cap<=maxLen/\cur.size=cap*size/\cur.toList.take (n*size)=xs)
theorem OwnsRow.of {w:World} {e:TypeId} {size:Nat} {v:Value} {n:Nat} {xs:List Value} (h:w.ownsRow 0 e size v n xs):OwnsRow w e size v n xs:=by
 refine⟨h.1,?_⟩
 rcases h.2 with hn|⟨g,cap,cur,hv,hb,hg,rest⟩
 ·exact .inl hn
 ·exact .inr ⟨g,cap,cur,hv,hb,RowAt.of hg,rest⟩
theorem OwnsRow.lt {w:World} {e:TypeId} {size:Nat} {v:Value} {n:Nat} {xs:List Value} (h:OwnsRow w e size v n xs):∀k,v.ownBlock=some k->0<=k/\k<w.heap.size:=by
 intro k hk
 rcases h.2 with⟨rfl,_⟩ |⟨g,cap,cur,rfl,hb,hg,_⟩
 ·simp[Value.ownBlock]at hk
 ·simp[Value.ownBlock]at hk
  subst hk
  exact⟨hb,hg.lt⟩
theorem OwnsRow.cells {e:TypeId} {size:Nat} {v:Value} (h:OwnsRow w e size v n xs) (hg:v.ownBlock=some g):∀j u,xs[j]?=some u->w.cell? ((⟨g,0,none⟩:Addr).add j)=some u:=by
 intro j u hu
 rcases h.2 with⟨rfl,_⟩ |⟨g',cap,cur,rfl,_,hgg,_,_,_,htake⟩
 ·simp[Value.ownBlock]at hg
 ·simp[Value.ownBlock]at hg
  subst hg
  have hadd:(⟨g',0,none⟩:Addr).add j=⟨g',j,none⟩:=by unfold Addr.add;split<;>simp_all
  rw[hadd,hgg.cell j]
  rw[<-htake,List.getElem?_take]at hu
  split at hu
  ·simpa using hu
  ·cases hu
section
variable {P:Program}
theorem run_append_row (w:World) (t ty e:TypeId) (i:TypeInfo) (z:Value) (size bytes:Nat) (ht:P.underlying t=some (.slice e)) (hi:P.info? e=some i) (hz:i.zero=some z)
  (hsize:i.size=size) (hby:i.bytes=bytes) (hzs:z.cells.size=size) (hsz:0<size)
  (v:Value) (n:Nat) (xs:List Value) (hown:OwnsRow w e size v n xs)
  (a:Addr) (m c:Nat) (news:List Value) (hl:news.length=m*size) (hnews:∀j u,news[j]?=some u->w.cell? (a.add j)=some u) (h1:∀u∈news,u.oneCell'=true)
  (h63:n+m<=maxLen) (hbytes:(n+m)*bytes<=140737488355328) :
  ∃v' w',(Builtin.append_ #[t,t] ty #[v,.slice (some a) m c]).run P w= .ok v' w'/\OwnsRow w' e size v' (n+m) (xs++news)/\w.grownBy w' v.ownBlock/\
   (v'.ownBlock=v.ownBlock∨v'.ownBlock=some w.heap.size):=by
 subst hsize
 subst hby
 have hsmall:n+m<=9223372036854775807:=by simp only[maxLen]at h63;omega
 have hlen:(xs++news).length=(n+m)*i.size:=by rw[List.length_append,hown.1,hl,Nat.add_mul]
 have hown0:=hown
 rcases hown.2 with⟨rfl,rfl⟩ |⟨g,cap,cur,rfl,hbg,hg,hnc,hcm,hcs,htake⟩
 ·obtain⟨v',w',hr,h2,h3,_,h5⟩:=run_append_own_at (P:=P) w 0 t ty e i z i.size i.bytes ht hi hz rfl rfl hzs hsz (.slice none 0 0) 0 xs ⟨hown.1,.inl ⟨rfl,rfl⟩⟩ a m c news hl hnews h1 h63 hbytes (Nat.zero_le _)
  exact⟨v',w',hr,OwnsRow.of h2,h3,h5⟩
 ·by_cases hroom:n+m<=cap
  ·have hfit:n*i.size+news.length<=cur.size:=by rw[hl,hcs,<-Nat.add_mul];exact Nat.mul_le_mul_right _ hroom
   have hf:=run_firstCells_some (P:=P) w i.size m a m c news hl hnews
   have hst:=run_storeCells_row P g (n*i.size) e news 0 cur w hg (by simpa using hfit) h1
   simp only[Nat.add_zero]at hst
   have hr:(Builtin.append_ #[t,t] ty #[.slice (some ⟨g,0,none⟩) n cap,.slice (some a) m c]).run P w =
     .ok (.slice (some ⟨g,0,none⟩) (n+m) cap) (w.setRow g (cur.toList.take (n*i.size)++news++cur.toList.drop (n*i.size+news.length)).toArray):=by
    simp[Builtin.append_,run_underlying ht,sizeOf,typeInfo,hi,Builtin.lenOf,hroom,hf,Addr.add_lit,hst]
   have hss:(cur.toList.take (n*i.size)++news++cur.toList.drop (n*i.size+news.length)).toArray.size=cur.size:=by
    simp only[List.size_toArray,List.length_append,List.length_take,List.length_drop,Array.length_toList]
    omega
   refine⟨_,_,hr,⟨hlen,.inr ⟨g,cap,_,rfl,hbg,hg.setRow hss,hroom,hcm,?_,?_⟩⟩,⟨rfl,rfl,rfl,by simp,fun k _ hk=>setRow_other w g k _ (fun e=>hk (by simp[Value.ownBlock,e]))⟩,Or.inl rfl⟩
   ·rw[hss,hcs]
   ·rw[htake,<-hlen]
    exact List.take_left
  ·have holds:∀j u,xs[j]?=some u->w.cell? ((⟨g,0,none⟩:Addr).add j)=some u:=hown0.cells (g:=g) rfl
   have hr:=run_append_grow (P:=P) w t ty e i z ht hi hz ⟨g,0,none⟩ n cap xs hown.1 holds a m c news hl hnews (by omega) (by omega) (growslice_fits (by omega) hbytes)
   have hge:=grownCap_ge w (n+m) cap e
   have hcm2:grownCap w (n+m) cap e<=maxLen:=grownCap_le_maxLen w (n+m) cap e h63
   refine⟨_,_,hr,⟨hlen,.inr ⟨w.heap.size,_,_,rfl,Nat.zero_le _,RowAt.of (heap_alloc_new w.drew _),hge,hcm2,?_,?_⟩⟩,⟨rfl,rfl,rfl,by simp,fun k hk _=>heap_alloc_old w.drew _ hk⟩,Or.inr rfl⟩
   ·simp only[Array.size_append,List.size_toArray,size_zeroCells,hzs,hown.1,hl,<-Nat.add_mul]
    congr 1
    omega
   ·simp only[Array.toList_append,List.append_assoc]
    rw[<-List.append_assoc,<-hlen]
    exact List.take_left
end
open Go.RowKit
def wrQ (o:Oper) (x:Operand):Bool:=match o.dst,x with
 | some d,.tmp n=>wrL.any fun p=>Nat.beq p.1 d&&Nat.beq p.2 n
 | _,_=>false
def wrI (op:BinOp) (k:IntKind) (a b:Int):Eff PV:=match op with
 | .add=> .ret (.v (.int k (k.wrap (a+b))))
 | .sub=> .ret (.v (.int k (k.wrap (a-b))))
 | .mul=> .ret (.v (.int k (k.wrap (a*b))))
 | _=> .fail
def eWrap (op:BinOp):PV->PV->Eff PV
 | .v (.int k a),.v (.int k' b)=>if k=k' then wrI op k a b else .fail
 | _,_=> .fail
def ariB:BinOp->Bool
 | .add=>true
 | .sub=>true
 | .mul=>true
 | _=>false
def eBinQ (o:Oper) (x:Operand) (op:BinOp) (t:TypeId) (p q:PV):Eff PV:=match ariB op&&wrQ o x with
 | true=>eWrap op p q
 | false=>eBin op t p q
section
variable {P:Program} {PC:Con} {X:Ctx} {nt:Nat} {Q:Exit->Act->World->Prop} {Z:Env} {a:Act} {w:World} {o:Oper} {v:PV} {s s':Sto} {r wr:List Nat} {u:PV}
theorem wrI_run {op:BinOp} {t:TypeId} {k:IntKind} {a b:Int} (h:(wrI op k a b).Run PC s u s' r wr):s'=s/\∃v,u= .v v/\(binOp op t (.int k a) (.int k b)).run P w= .ok v w/\wfV v:=by
 have val:∀v:Value,(Eff.ret (PV.v v)).Run PC s u s' r wr->(binOp op t (.int k a) (.int k b)).run P w= .ok v w->wfV v->s'=s/\∃v,u= .v v/\(binOp op t (.int k a) (.int k b)).run P w= .ok v w/\wfV v:=fun v h h1 h2=>⟨h.2.1,v,h.1,h1,h2⟩
 cases op<;>simp only[wrI]at h
 all_goals first
  | exact h.elim
  | exact val _ h (by simp[binOp,Op.intArith,Sem.run_pure]) (wf_wrap _ _)
theorem eWrap_sound {op:BinOp} {t t':TypeId} (ho:o.op= .binOp op t x y t') (hx:opndB nt x=true) (hy:opndB nt y=true) (hg:Good X nt Z a w) (h:(eWrap op (opd Z.t x) (opd Z.t y)).Run PC Z.s v s' r wr) :
  o.wp P a w (fun a' w'=>Good X nt ⟨putE o.dst v Z.t,s'⟩ a' w') Q:=by
 obtain⟨hs,hd,J,N,hst⟩:=id hg
 have hv:=hst.opd hs hx
 have hvy:=hst.opd hs hy
 unfold eWrap at h
 split at h
 case h_2=>exact h.elim
 rename_i k p k' q he hey
 rw[he]at hv
 rw[hey]at hvy
 split at h
 case isFalse=>exact h.elim
 rename_i hk
 subst hk
 obtain⟨rfl,u,rfl,hrun,hw⟩:=wrI_run (P:=P) (w:=w) (t:=t) h
 refine sound_val hs hd hst ?_ ⟨rfl,hw⟩
 have hp:a.eval x= .int k p:=hv.1
 have hq:a.eval y= .int k q:=hvy.1
 have hgd:(eqGuard op t x y (.int k p) (.int k q)).run P w= .ok () w:=by
  unfold eqGuard
  cases op<;>rfl
 unfold execOp
 simp only[ho,hp,hq,Sem.run_bind,hgd,Result.andThen_ok,hrun]
 rfl
end
open Go.RowKit
def castL (k:K) {k':K} (l:List (ty k')):Option (List (ty k)):=if h:k'=k then some (h▸l)else none
def viewL {α:Type} (full:Bool) (l:List α) (off n:Nat):List α:=match full with
 | true=>l
 | false=>(l.drop off).take n
theorem view_eq {X:Ctx} {tm:Array Value} (hst:St X Z w tm J N) {blk:Blk} {l:List (ty k)} {id:Nat} {full:Bool} (h:Z.s id=⟨ver,some blk⟩) (hr:IsRow blk k l) (hv:RefC w J Z.s id ver off n full u):viewL full l off n=(l.drop off).take n:=by
 cases full with
 | false=>rfl
 | true=>
  obtain⟨_,_,h3⟩:=hv
  obtain⟨h4,h5⟩:=h3 _ k l h hr
  rcases h5 with⟨h5,h6⟩ |⟨b,c,o,h5,h6,h7,h8,h9⟩
  ·rcases row_head hr (hst.blk id _ (by rw[h]))with⟨_,e,_⟩ |⟨b,cap,cur,q,_⟩
   ·subst e;simp[viewL]
   ·rw[h5]at q;cases q
  ·obtain⟨e1,e2,_⟩:=h9 rfl
   subst e1 e2
   simp[viewL]
def elemsE (k:K):PV->Eff (List (ty k))
 | .nil=> .ret []
 | .row false _ l=>match castL k l with
  | some l=> .ret l
  | none=> .fail
 | .ref id ver off n full=>live id ver fun
  | .rowb _ l=>match castL k l with
   | some l=> .ret (viewL full l off n)
   | none=> .fail
  | .box _=> .fail
  | .objb _=> .fail
  | .iterb _ _ _ _ _=> .fail
  | .rowd _ _=> .fail
  | .rowx _ _ _ _=> .fail
 | _=> .fail
def roomB (k:K) (n:Nat):Prop:=n<=9223372036854775807/\n*byt k<=140737488355328
instance (k:K) (n:Nat):Decidable (roomB k n):=inferInstanceAs (Decidable (_/\_))
def eAppend (o:Oper) (t:TypeId) (d s:PV):Eff PV:=match slK t with
 | none=> .fail
 | some k=>(elemsE k s).bind fun l2=>match d with
   | .nil=>gdE (roomB k l2.length) (newBlk (site o) (.rowb k l2) fun ver=> .ret (.ref (site o) ver 0 l2.length true))
   | .ref id ver off n full=>live id ver fun
    | .rowb _ l=>match castL k l with
     | some l=>(match full,Nat.ble 99 id with
      | true,true=>gdE (roomB k (l++l2).length) (.wr id ⟨ver+1,some (.rowb k (l++l2))⟩ (.ret (.ref id (ver+1) 0 (l++l2).length true)))
      | _,_=> .fail)
     | none=> .fail
    | .box _=> .fail
    | .objb _=> .fail
    | .iterb _ _ _ _ _=> .fail
    | .rowd _ _=> .fail
    | .rowx _ _ _ _=> .fail
   | _=> .fail
section
variable {P:Program} {PC:Con} {X:Ctx} {nt:Nat} {Q:Exit->Act->World->Prop} {Z:Env} {a:Act} {w:World} {o:Oper} {v:PV} {s':Sto} {r wr:List Nat}
theorem castL_some {l:List (ty k')} {l2:List (ty k)} (h:castL k l=some l2):∃e:k'=k,l2=e▸l:=by
 unfold castL at h
 split at h
 ·rename_i e;cases h;exact⟨e,rfl⟩
 ·cases h
theorem mul_lt_add {s:Nat} (hi:i<n) (hj:j<s):i*s+j<n*s:=by
 have:(i+1)*s<=n*s:=Nat.mul_le_mul_right _ hi
 rw[Nat.add_mul]at this;omega
def RowCells (S:Nat->Prop) (w:World) {k:K} (l:List (ty k)) (xs:List Value):Prop:=xs.length=l.length*size k/\Cont S w l (fun o=>xs[o]?)
theorem LeafV.one {lf:Leaf} (h:LeafV S w lf u):u.oneCell'=true:=by
 cases lf with
 | sc q=>obtain⟨rfl,hw⟩:=h;cases u<;>simp_all[wfV,Value.oneCell']
 | nest k l=>obtain⟨a,cap,rfl,_⟩:=h;rfl
theorem RowCells.at {S:Nat->Prop} {k:K} {l:List (ty k)} {f:Nat->Option Value} (h:Cont S w l f) {m:Nat} (hm:m<l.length*size k):∃u,f m=some u/\u.oneCell'=true:=by
 have hp:=size_pos k
 have hi:m / size k<l.length:=(Nat.div_lt_iff_lt_mul hp).2 hm
 have hj:m % size k<(leaves l[m / size k]).length:=by rw[leaves_len];exact Nat.mod_lt _ hp
 obtain⟨u,hu,hv⟩:=h (m / size k) _ (qE1 hi) (m % size k) _ (qE1 hj)
 rw[Nat.div_add_mod']at hu
 exact⟨u,hu,hv.one⟩
theorem RowCells.one {l:List (ty k)} (h:RowCells S w l xs):∀u∈xs,u.oneCell'=true:=by
 intro u hu
 obtain⟨m,hm,rfl⟩:=List.mem_iff_getElem.1 hu
 obtain⟨u,h1,h2⟩:=RowCells.at h.2 (m:=m) (by rw[<-h.1];exact hm)
 rw[qE1 hm,Option.some.injEq]at h1
 rw[h1];exact h2
theorem RowCells.append {l1 l2:List (ty k)} {x1 x2:List Value} (h1:RowCells S w l1 x1) (h2:RowCells S w l2 x2):RowCells S w (l1++l2) (x1++x2):=by
 refine⟨by simp[h1.1,h2.1,Nat.add_mul],fun i x hx j lf hlf=> ?_⟩
 have hj:j<size k:=by have:=(qS1.1 hlf).1;rwa[leaves_len]at this
 by_cases hi:i<l1.length
 ·rw[List.getElem?_append_left hi]at hx
  obtain⟨u,h3,h4⟩:=h1.2 i x hx j lf hlf
  refine⟨u,?_,h4⟩
  show(x1++x2)[i*size k+j]?=some u
  rw[List.getElem?_append_left (by rw[h1.1];exact mul_lt_add hi hj)];exact h3
 ·rw[List.getElem?_append_right (by omega)]at hx
  obtain⟨u,h3,h4⟩:=h2.2 _ x hx j lf hlf
  refine⟨u,?_,h4⟩
  have:l1.length*size k<=i*size k:=Nat.mul_le_mul_right _ (by omega)
  show(x1++x2)[i*size k+j]?=some u
  rw[List.getElem?_append_right (by rw[h1.1];omega),h1.1]
  rw[show i*size k+j-l1.length*size k=(i-l1.length)*size k+j by rw[Nat.sub_mul];omega]
  exact h3
theorem RowCells.mono {l:List (ty k)} (h:RowCells S w l xs) (hr:∀{k:K} {u:Value} {l:List (ty k)},Row S w k u l->Row S' w' k u l):RowCells S' w' l xs:=⟨h.1,fun i x hx j lf hlf=>by
 obtain⟨u,hu,hv⟩:=h.2 i x hx j lf hlf
 refine⟨u,hu,?_⟩
 cases lf with
 | sc q=>exact hv
 | nest k' l'=>exact hr hv⟩
theorem RowCells.of {l:List (ty k)} {f:Nat->Option Value} (h:Cont S w l f):∃xs,RowCells S w l xs/\∀(o:Nat) u,xs[o]?=some u->f o=some u:=by
 have key:∀m,m<=l.length*size k->∃xs:List Value,xs.length=m/\∀(o:Nat) u,xs[o]?=some u->f o=some u:=by
  intro m
  induction m with
  | zero=>intro _;exact⟨[],rfl,by simp⟩
  | succ m ih=>
   intro hm
   obtain⟨xs,hl,hxs⟩:=ih (by omega)
   obtain⟨u,hu,_⟩:=RowCells.at h (m:=m) (by omega)
   refine⟨xs++ [u],by simp[hl],fun o u' ho=> ?_⟩
   by_cases hom:o<m
   ·exact hxs o u' (by rw[List.getElem?_append_left (by omega)]at ho;exact ho)
   ·have:o=m:=by
     have:=(qS1.1 ho).1
     simp[hl]at this;omega
    subst this
    rw[List.getElem?_append_right (by omega),hl]at ho
    simp at ho
    subst ho
    exact hu
 obtain⟨xs,hl,hxs⟩:=key _ (Nat.le_refl _)
 refine⟨xs,⟨hl,fun i x hx j lf hlf=> ?_⟩,hxs⟩
 obtain⟨u,hu,hv⟩:=h i x hx j lf hlf
 have hj:j<size k:=by have:=(qS1.1 hlf).1;rwa[leaves_len]at this
 have hlt:i*size k+j<xs.length:=by rw[hl];exact mul_lt_add (qS1.1 hx).1 hj
 have:=hxs _ _ (qE1 hlt)
 rw[hu]at this
 cases this
 exact⟨_,qE1 hlt,hv⟩
theorem elemsE_run {l:List (ty k)} {tm:Array Value} (hst:St X Z w tm J N) (hv:ValC (Fz X w N Z.s) w J Z.s p u) (h:(elemsE k p).Run PC Z.s l s' r wr) :
  s'=Z.s/\∃pa c xs,u= .slice pa l.length c/\RowCells (Fz X w N Z.s) w l xs/\(l≠[]->∃b off,pa=some ⟨b,off,none⟩/\∀(j:Nat) q,xs[j]?=some q->w.cell? ⟨b,off+j,none⟩ = some q):=by
 have fin:∀(l:List (ty k)) (pa:Option Addr),(l≠[]->∃b off,pa=some ⟨b,off,none⟩/\Cont (Fz X w N Z.s) w l (fun o=>w.cell? ⟨b,off+o,none⟩))->
   ∃xs,RowCells (Fz X w N Z.s) w l xs/\(l≠[]->∃b off,pa=some ⟨b,off,none⟩/\∀(j:Nat) q,xs[j]?=some q->w.cell? ⟨b,off+j,none⟩ = some q):=by
  intro l pa hc
  by_cases hne:l=[]
  ·subst hne;exact⟨[],⟨by simp,fun i x hx=>by simp at hx⟩,fun h=>absurd rfl h⟩
  ·obtain⟨b,off,rfl,h1⟩:=hc hne
   obtain⟨xs,h2,h3⟩:=RowCells.of h1
   exact⟨xs,h2,fun _=>⟨b,off,rfl,h3⟩⟩
 unfold elemsE at h
 split at h
 case h_4=>exact h.elim
 case h_1=>
  obtain⟨rfl,rfl,-,-⟩:l=_/\s'=_/\r=[]/\wr=[]:=h
  exact⟨rfl,none,0,[],hv,⟨by simp,fun i x hx=>by simp at hx⟩,fun h=>absurd rfl h⟩
 case h_2=>
  rename_i k' l'
  split at h
  case h_2=>exact h.elim
  rename_i l2 hcl
  obtain⟨rfl,rfl,-,-⟩:l=_/\s'=_/\r=[]/\wr=[]:=h
  obtain⟨rfl,rfl⟩:=castL_some hcl
  obtain⟨_,hrow⟩:=hv
  obtain⟨a,cap,rfl,h1,h2,h3⟩:=hrow.open
  obtain⟨xs,hx1,hx2⟩:=fin _ a fun hne=>by
   obtain⟨b,off,e,_,h4⟩:=h3 hne
   exact⟨b,off,e,h4⟩
  exact⟨rfl,a,cap,xs,rfl,hx1,hx2⟩
 case h_3=>
  rename_i id ver off n full
  have hv0:RefC w J Z.s id ver off n full u:=hv
  obtain⟨_,_,k3⟩:=hv
  obtain⟨blk,r',hb,rfl,h⟩:=live_run h
  cases blk with
  | box cs=>exact h.elim
  | objb o=>exact h.elim
  | iterb=>exact h.elim
  | rowd=>exact h.elim
  | rowx=>exact h.elim
  | rowb k' l'=>
   simp only at h
   split at h
   case h_2=>exact h.elim
   rename_i l2 hcl
   obtain⟨rfl,rfl⟩:=castL_some hcl
   rw[view_eq hst hb .b hv0]at h
   obtain⟨rfl,rfl,-,-⟩:l=_/\s'=_/\r'=[]/\wr=[]:=h
   obtain⟨e1,e2⟩:=k3 _ _ _ hb .b
   have hlen:((l2.drop off).take n).length=n:=by rw[List.length_take,List.length_drop];omega
   have hblk:=hst.blk id _ (by rw[hb])
   rcases e2 with⟨e2,e3⟩ |⟨b,c,o2,e2,e3,e4,e5,e6⟩
   ·rcases hblk with⟨_,e,_⟩ |⟨b,cap,cur,q,_⟩
    ·subst e
     have:n=0:=by simp at e1;omega
     subst this
     exact⟨rfl,none,0,[],by rw[e3];simp,⟨by simp,fun i x hx=>by simp at hx⟩,fun h=>absurd (by simp) h⟩
    ·rw[e2]at q;cases q
   ·rcases hblk with⟨e,_⟩ |⟨b',cap,cur,q1,q2,q3,q4,q5,q6,q7,q8⟩
    ·rw[e2]at e;cases e
    ·rw[e2]at q1;cases q1
     obtain⟨xs,hx1,hx2⟩:=fin ((l2.drop off).take n) (some ⟨b,o2,none⟩) fun hne=>by
      have hn:n≠0:=by intro e;subst e;simp at hne
      have ho:=e5 (.inl hn)
      subst ho
      refine⟨b,off*size k',rfl,fun i x hx j lf hlf=> ?_⟩
      have hi:i<n:=by have:=(qS1.1 hx).1;omega
      rw[List.getElem?_take,if_pos hi,List.getElem?_drop]at hx
      obtain⟨u,h5,h6⟩:=q8 (off+i) x hx j lf hlf
      refine⟨u,?_,h6⟩
      show w.cell? ⟨b,off*size k'+(i*size k'+j),none⟩ = some u
      rw[q4.cell,<-Nat.add_assoc,<-Nat.add_mul];exact h5
     exact⟨rfl,_,c,xs,by rw[e4,hlen],hx1,hx2⟩
theorem elemsE_len {l:List (ty k)} {tm:Array Value} (hst:St X Z w tm J N) (hv:ValC (Fz X w N Z.s) w J Z.s p u) (h:(elemsE k p).Run PC Z.s l s' r wr):l.length<=9223372036854775807:=by
 unfold elemsE at h
 split at h
 case h_4=>exact h.elim
 case h_1=>obtain⟨rfl,-,-,-⟩:l=_/\s'=_/\r=[]/\wr=[]:=h;simp
 case h_2=>
  split at h
  case h_2=>exact h.elim
  rename_i l2 hcl
  obtain⟨rfl,-,-,-⟩:l=_/\s'=_/\r=[]/\wr=[]:=h
  obtain⟨rfl,rfl⟩:=castL_some hcl
  obtain⟨_,a,cap,_,_,h2,_⟩:=hv
  exact h2
 case h_3=>
  rename_i id ver off n full
  obtain⟨blk,r',hb,rfl,h⟩:=live_run h
  cases blk with
  | box cs=>exact h.elim
  | objb o=>exact h.elim
  | iterb=>exact h.elim
  | rowd=>exact h.elim
  | rowx=>exact h.elim
  | rowb k' l'=>
   simp only at h
   split at h
   case h_2=>exact h.elim
   rename_i l2 hcl
   obtain⟨rfl,rfl⟩:=castL_some hcl
   rw[view_eq hst hb .b hv]at h
   obtain⟨rfl,-,-,-⟩:l=_/\s'=_/\r'=[]/\wr=[]:=h
   rcases hst.blk id _ (by rw[hb])with⟨_,e,_⟩ |⟨b,cap,cur,_,_,h0,_⟩
   ·rw[e];simp
   ·rw[List.length_take,List.length_drop];omega
end
open Go.RowKit
section
variable {P:Program} {PC:Con} {X:Ctx} {nt:Nat} {Q:Exit->Act->World->Prop} {Z:Env} {a:Act} {w:World} {o:Oper} {v:PV} {s':Sto} {r wr:List Nat}
theorem append_conc (hF:Facts P) {t ty':TypeId} (ht:slK t=some k) {v:Value} (hown:OwnsRow w (tid k) (size k) v n xs) {pa:Option Addr} {c:Nat} {news:List Value} (hl:news.length=m*size k)
  (hnews:m≠0->∃b off,pa=some ⟨b,off,none⟩/\∀(j:Nat) u,news[j]?=some u->w.cell? ⟨b,off+j,none⟩ = some u) (h1:∀u∈news,u.oneCell'=true) (h63:n+m<=9223372036854775807) (hby:(n+m)*byt k<=140737488355328) :
  ∃v' w',(Builtin.append_ #[t,t] ty' #[v,.slice pa m c]).run P w= .ok v' w'/\OwnsRow w' (tid k) (size k) v' (n+m) (xs++news)/\w.grownBy w' v.ownBlock/\(v'.ownBlock=v.ownBlock∨v'.ownBlock=some w.heap.size):=by
 obtain⟨i,z,q1,q2,q3,q4,q5,-⟩:=hF.el k
 cases pa with
 | some a=>
  refine run_append_row w t ty' (tid k) i z (size k) (byt k) (hF.sl t k ht) q1 q2 q3 q4 q5 (size_pos k) v n xs hown a m c news hl ?_ h1 (by unfold maxLen;exact h63) hby
  intro j u hu
  have hm:m≠0:=by rintro rfl;simp at hl;rw[hl]at hu;simp at hu
  obtain⟨b,off,e,h2⟩:=hnews hm
  cases e
  rw[addr_add]
  exact h2 j u hu
 | none=>
  have hm:m=0:=by
   rcases Nat.eq_zero_or_pos m with h|h
   ·exact h
   ·obtain⟨b,off,e,_⟩:=hnews (by omega);cases e
  subst hm
  have hn:news=[]:=List.eq_nil_of_length_eq_zero (by simpa using hl)
  subst hn
  refine⟨v,w,?_,by simpa using hown,⟨rfl,rfl,rfl,Nat.le_refl _,fun _ _ _=>rfl⟩,.inl rfl⟩
  rcases hown.2 with⟨rfl,rfl⟩ |⟨g,cap,cur,rfl,_,hg,hnc,hcm,hcs,htake⟩
  ·simp[Builtin.append_,run_underlying (hF.sl t k ht),sizeOf,typeInfo,q1,Builtin.lenOf,Builtin.firstCells]
  ·simp[Builtin.append_,run_underlying (hF.sl t k ht),sizeOf,typeInfo,q1,Builtin.lenOf,Builtin.firstCells,hnc,storeCells]
theorem at_of_owns {l:List (ty k)} {v:Value} (hl:l.length<=9223372036854775807) (h:OwnsRow w (tid k) (size k) v l.length xs) (hx:RowCells S w l xs) :
  (v= .slice none 0 0/\l=[])∨∃g cap cur,v= .slice (some ⟨g,0,none⟩) l.length cap/\v.ownBlock=some g/\OwnAt S w g l cap cur:=by
 rcases h.2 with⟨h1,h2⟩ |⟨g,cap,cur,rfl,_,hg,hnc,hcm,hcs,htake⟩
 ·exact .inl ⟨h1,List.eq_nil_of_length_eq_zero h2⟩
 ·refine .inr ⟨g,cap,cur,rfl,by simp[Value.ownBlock],hl,hg,hnc,hcm,hcs,fun i x hi j lf hlf=> ?_⟩
  obtain⟨u,h3,h4⟩:=hx.2 i x hi j lf hlf
  refine⟨u,?_,h4⟩
  have hj:j<size k:=by have:=(qS1.1 hlf).1;rwa[leaves_len]at this
  have hlt:i*size k+j<l.length*size k:=mul_lt_add (qS1.1 hi).1 hj
  simp only at h3
  rw[<-htake,List.getElem?_take,if_pos hlt]at h3
  simpa using h3
theorem owns_of_at {l:List (ty k)} {cur:Array Value} (h:OwnAt S w b l cap cur):∃xs,OwnsRow w (tid k) (size k) (.slice (some ⟨b,0,none⟩) l.length cap) l.length xs/\RowCells S w l xs:=by
 obtain⟨h0,h1,h2,h3,h4,h5⟩:=h
 have hle:l.length*size k<=cur.size:=by rw[h4];exact Nat.mul_le_mul_right _ h2
 refine⟨cur.toList.take (l.length*size k),⟨by simp;omega,.inr ⟨b,cap,cur,rfl,Nat.zero_le _,h1,h2,h3,h4,rfl⟩⟩,by simp;omega,fun i x hx j lf hlf=> ?_⟩
 have hj:j<size k:=by have:=(qS1.1 hlf).1;rwa[leaves_len]at this
 obtain⟨u,h6,h7⟩:=h5 i x hx j lf hlf
 refine⟨u,?_,h7⟩
 show(cur.toList.take (l.length*size k))[i*size k+j]?=some u
 rw[List.getElem?_take,if_pos (mul_lt_add (qS1.1 hx).1 hj)]
 simpa using h6
theorem append_step {tm:Array Value} (h:St X Z w tm J N) (id ver:Nat) (h99:99<=id) (hver:(Z.s id).ver<ver) {l:List (ty k)} {v':Value} (hl:l.length<=9223372036854775807)
  (hown:OwnsRow w' (tid k) (size k) v' l.length xs) (hx:RowCells (Fz X w N Z.s) w l xs) {vo:Option Nat} (hg:w.grownBy w' vo) (hvo:∀g,vo=some g->∃blk,(Z.s id).blk=some blk/\N id=[g]) (hvb:v'.ownBlock=vo∨v'.ownBlock=some w.heap.size) :
  ∃J' N',St X ⟨Z.t,upd Z.s id ⟨ver,some (.rowb k l)⟩⟩ w' tm J' N'/\ValC (Fz X w' N' (upd Z.s id ⟨ver,some (.rowb k l)⟩)) w' J' (upd Z.s id ⟨ver,some (.rowb k l)⟩) (.ref id ver 0 l.length true) v':=by
 have hid:∀p,X.ext[id]?≠some p:=fun p hp=>by
  have:=(qS1.1 hp).1
  have:=X.few
  omega
 obtain⟨p,L,hpL⟩:∃(p:Option (Nat×Nat)) (L:List Nat),(p=none/\l=[]/\L=[]/\v'= .slice none 0 0)∨∃b cap cur,p=some (b,0)/\L=[b]/\v'= .slice (some ⟨b,0,none⟩) l.length cap/\(vo=some b∨(b=w.heap.size/\b<w'.heap.size))/\RowAt w' b cur (tid k)/\l.length<=cap/\cur.size=cap*size k:=by
  rcases hown.2 with⟨h1,h2⟩ |⟨g,cap,cur,h1,_,h3,h4,h5,h6,h7⟩
  ·exact⟨none,[],.inl ⟨rfl,List.eq_nil_of_length_eq_zero h2,rfl,h1⟩⟩
  ·refine⟨some (g,0),[g],.inr ⟨g,cap,cur,rfl,rfl,h1,?_,h3,h4,h6⟩⟩
   rw[show v'.ownBlock=some g by rw[h1];simp[Value.ownBlock]]at hvb
   rcases hvb with e|e
   ·exact .inl e.symm
   ·injection e with e;subst e;exact .inr ⟨rfl,h3.lt⟩
 have hsame:∀x,x<w.heap.size->(∀i blk,i=id->(Z.s i).blk=some blk->x∉N i)->w'.heap[x]?=w.heap[x]?:=by
  intro x hxz hc
  refine hg.block x hxz fun e=> ?_
  obtain⟨blk,h1,h2⟩:=hvo x e.symm
  exact hc id blk rfl h1 (by rw[h2];simp)
 obtain⟨T,hst'⟩:=St.step (Z:=Z) h (upd Z.s id ⟨ver,some (.rowb k l)⟩) (· = id) (w':=w') (J':=upd J id p) (N':=upd N id L) hg.size hsame (fun i hi=>⟨upd_ne _ _ hi,upd_ne _ _ hi,upd_ne _ _ hi⟩)
  (by
   rintro i rfl v o n f u ⟨k1,k2,k3⟩
   refine⟨by rw[upd_same];exact Nat.le_of_lt (Nat.lt_of_le_of_lt k1 hver),k2,fun blk k l e hr=> ?_⟩
   rw[upd_same]at e
   cases e
   omega)
  (by
   rintro i rfl v i' j' u ⟨k1,k2,k3⟩
   refine⟨by rw[upd_same];exact Nat.le_of_lt (Nat.lt_of_le_of_lt k1 hver),k2,fun blk e=> ?_⟩
   rw[upd_same]at e
   cases e
   omega)
  (by
   rintro i blk rfl hbk T
   rw[upd_same]at hbk
   cases hbk
   rw[upd_same]
   rcases hpL with⟨h1,h2,h3,_⟩ |⟨b,cap,cur,h1,h2,h3,_⟩
   ·exact .inl ⟨by rw[upd_same];exact h1,h2,h3⟩
   ·rcases at_of_owns hl hown (hx.mono T.row)with⟨e,_⟩ |⟨g,cap',cur',e,_,h4⟩
    ·rw[h3]at e;cases e
    ·rw[h3]at e;cases e
     exact .inr ⟨b,cap,cur',by rw[upd_same];exact h1,h2,h4⟩)
  (by
   rintro i blk rfl hbk x hx
   rw[upd_same]at hx
   rcases hpL with⟨h1,h2,h3,_⟩ |⟨b,cap,cur,h1,h4,h5,h3,_⟩
   ·rw[h3]at hx;simp at hx
   ·rw[h4]at hx
    have hxb:x=b:=by simpa using hx
    subst hxb
    rcases h3 with h3|⟨h3,h6⟩
    ·obtain⟨blk,h7,h8⟩:=hvo x h3
     exact .inl ⟨i,blk,rfl,h7,by rw[h8];simp⟩
    ·exact .inr ⟨by omega,h6⟩)
  (by
   rintro i blk rfl hbk
   rw[upd_same]
   rcases hpL with⟨h1,h2,h3,_⟩ |⟨b,cap,cur,h1,h4,_⟩
   ·rw[h3];simp
   ·rw[h4];simp)
  (by rintro i i' b1 b2 rfl rfl _ _ hne;exact absurd rfl hne)
  (by
   rintro i q hq rfl
   exact absurd hq (hid q))
  (fun q u n hq e=>absurd e (h.rx_far h99 q u n hq))
  (by
   cases hvo2:vo with
   | none=>exact h.frm.grow hg.os hg.tape hg.output hg.size fun b hb=>hg.block b hb (by rw[hvo2];simp)
   | some g=>
    obtain⟨blk,h1,h2⟩:=hvo g hvo2
    refine Frm.turn h id blk h1 hg.os hg.tape hg.output hg.size (fun b hb hn=>hg.block b hb fun e=>hn ?_) fun i2 b2 off2 n hi2 hn hm=> ?_
    ·rw[h2];rw[hvo2]at e;cases e;simp
    ·exfalso
     obtain⟨e1,cs',e2,e3⟩:=h.ext i2 _ hi2
     have hne:i2≠id:=fun e=>hid _ (e▸hi2)
     have hb2:=h.blk i2 _ e2
     obtain⟨b3,off3,_,_,p1,p2,_⟩:=hb2
     rw[e1]at p1
     cases p1
     exact h.disj i2 id _ _ e2 h1 hne b2 (by rw[p2];simp) hm)
  (by
   refine X.cl w w' h.env fun b hb=>hsame b (by have:=X.hw;have:=h.frm.size;omega) ?_
   rintro i blk rfl h1 hm
   rcases h.new i blk h1 b hm with h2|h2
   ·have:=X.hG b h2;omega
   ·have:=X.hw;omega)
 refine⟨_,_,hst',by show ver<=(upd Z.s _ _ _).ver;rw[upd_same];exact Nat.le_refl _,?_,fun blk2 k2 l2 e hr2=> ?_⟩
 ·rcases hpL with⟨h1,h2,h3,h4⟩ |⟨b,cap,cur,h1,h4,h5,_⟩
  ·exact⟨_,_,_,h4⟩
  ·exact⟨_,_,_,h5⟩
 ·rw[upd_same]at e
  cases e
  cases hr2
  refine⟨by omega,?_⟩
  rw[upd_same]
  rcases hpL with⟨h1,h2,h3,h4⟩ |⟨b,cap,cur,h1,h4,h5,h6,h7,h8,h9⟩
  ·exact .inl ⟨h1,h4⟩
  ·refine .inr ⟨b,cap,0,h1,h8,h5,fun _=>by rw[Nat.zero_mul],fun _=>⟨rfl,rfl,fun c2 E2 fz2 hc2=> ?_⟩⟩
   obtain⟨fz,hh,_⟩:=h7
   rw[hh]at hc2
   cases hc2
   exact h9
end
open Go.RowKit
section
variable {P:Program} {PC:Con} {X:Ctx} {nt:Nat} {Q:Exit->Act->World->Prop} {Z:Env} {a:Act} {w:World} {o:Oper} {v:PV} {s':Sto} {r wr:List Nat}
theorem eAppend_sound (hF:Facts P) {t:TypeId} (ho:o.op= .call {callee:= .builtin .append,args:= #[x,y],argTypes:= #[t,t]}) (hx:opndB nt x=true) (hy:opndB nt y=true) (hg:Good X nt Z a w) (h:(eAppend o t (opd Z.t x) (opd Z.t y)).Run PC Z.s v s' r wr) :
  o.wp P a w (fun a' w'=>Good X nt ⟨putE o.dst v Z.t,s'⟩ a' w') Q:=by
 obtain⟨hs,hd,J,N,hst⟩:=id hg
 have hv:=hst.opd hs hx
 have hvy:=hst.opd hs hy
 unfold eAppend at h
 split at h
 case h_1=>exact h.elim
 rename_i k ht
 obtain⟨l2,s1,r1,w1,r2,w2,h1,h⟩:=bind_run h
 obtain⟨rfl,pa,c,news,he,hfc,hnews⟩:=elemsE_run hst hvy h1
 have fin:∀(vv u:Value) (w':World),a.eval x=vv->(Builtin.append_ #[t,t] o.type #[vv,a.eval y]).run P w= .ok u w'->(execOp a.eval o).run P w= .ok (.value u) w':=by
  intro vv u w' e hrun
  unfold execOp
  simp only[ho,resolve,invoke,builtin,Sem.run_bind,Sem.run_pure,Result.andThen_ok,List.map_toArray,List.map_cons,List.map_nil,e,hrun]
 have hnews':l2.length≠0->∃b off,pa=some ⟨b,off,none⟩/\∀(j:Nat) u,news[j]?=some u->w.cell? ⟨b,off+j,none⟩ = some u:=fun hn=>hnews (by intro e;subst e;simp at hn)
 split at h
 case h_3=>exact h.elim
 case h_1=>
  rename_i hxe
  rw[hxe]at hv
  obtain⟨⟨g1,g2⟩,h⟩:=h
  obtain⟨r',wr',h⟩:=newBlk_run h
  obtain⟨rfl,rfl,-,-⟩:v=_/\s'=_/\r'=[]/\wr'=[]:=h
  obtain⟨v',w',hrun,hown,hgr,hvb⟩:=append_conc (P:=P) (w:=w) (ty':=o.type) hF ht (v:= .slice none 0 0) (n:=0) (xs:=[]) ⟨by simp,.inl ⟨rfl,rfl⟩⟩ (m:=l2.length) (c:=c) (news:=news) hfc.1 hnews' hfc.one (by omega) (by rw[Nat.zero_add];exact g2)
  rw[Nat.zero_add,List.nil_append]at hown
  obtain⟨J',N',q1,q2⟩:=append_step hst (site o) ((Z.s (site o)).ver+1) (site_ge o) (Nat.lt_succ_self _) g1 hown hfc hgr (by simp[Value.ownBlock]) hvb
  exact sound_st hs hd (fin _ v' w' hv (by rw[he];exact hrun)) q1 q2
 case h_2=>
  rename_i id ver off n full hxe
  rw[hxe]at hv
  obtain⟨_,_,k3⟩:=hv
  obtain⟨blk,r',hb,-,h⟩:=live_run h
  cases blk with
  | box cs=>exact h.elim
  | objb o=>exact h.elim
  | iterb=>exact h.elim
  | rowd=>exact h.elim
  | rowx=>exact h.elim
  | rowb k' l'=>
   simp only at h
   split at h
   case h_2=>exact h.elim
   rename_i l hcl
   obtain⟨rfl,rfl⟩:=castL_some hcl
   cases h99:Nat.ble 99 id with
   | false=>rw[h99]at h;cases full<;>exact h.elim
   | true=>
   rw[h99]at h
   have h99:=Nat.le_of_ble_eq_true h99
   cases full with
   | false=>exact h.elim
   | true=>
   have hfull:true=true:=rfl
   obtain⟨⟨g1,g2⟩,w3,-,h⟩:=h
   rw[List.length_append]at g1 g2
   obtain⟨rfl,rfl,-,-⟩:v=_/\s'=_/\r'=[]/\w3=[]:=h
   obtain⟨e1,e2⟩:=k3 _ _ _ hb .b
   have hnl:n=l.length:=by
    rcases e2 with⟨e2,e3⟩ |⟨b,c2,o2,e2,e3,e4,e5,e6⟩
    ·rcases hst.blk id _ (by rw[hb])with⟨_,e,_⟩ |⟨b,cap,cur,q,_⟩
     ·subst e;simp at e1⊢;omega
     ·rw[e2]at q;cases q
    ·exact(e6 hfull).2.1
   have hfull:true=true/\n=l.length:=⟨rfl,hnl⟩
   have hnext:∀p,X.ext[id]?≠some p:=fun p hp=>by
    obtain⟨_,cs,e3,_⟩:=hst.ext id p hp
    rw[hb]at e3;cases e3
   have hblk:=hst.blk id _ (by rw[hb])
   have main:∀(vv:Value) (xs:List Value),a.eval x=vv->OwnsRow w (tid k') (size k') vv n xs->RowCells (Fz X w N Z.s) w l xs->(∀g,vv.ownBlock=some g->∃blk,(Z.s id).blk=some blk/\N id=[g])->
     o.wp P a w (fun a' w'=>Good X nt ⟨putE o.dst (.ref id (ver+1) 0 (l++l2).length true) Z.t,upd Z.s id ⟨ver+1,some (.rowb k' (l++l2))⟩⟩ a' w') Q:=by
    intro vv xs hvv hown0 hfc0 hvo
    obtain⟨v',w',hrun,hown,hgr,hvb⟩:=append_conc (P:=P) (w:=w) (ty':=o.type) hF ht hown0 (m:=l2.length) (c:=c) (news:=news) hfc.1 hnews' hfc.one (by rw[hfull.2];exact g1) (by rw[hfull.2];exact g2)
    have:=append_step hst id (ver+1) h99 (by rw[hb];exact Nat.lt_succ_self _) (l:=l++l2) (by rw[List.length_append];exact g1) (by rw[List.length_append,<-hfull.2];exact hown) (hfc0.append hfc) hgr hvo hvb
    obtain⟨J',N',q1,q2⟩:=this
    exact sound_st hs hd (fin _ v' w' hvv (by rw[he];exact hrun)) q1 q2
   rcases e2 with⟨e2,e3⟩ |⟨b,c2,o2,e2,e3,e4,e5,e6⟩
   ·rcases hblk with⟨_,e,_⟩ |⟨b,cap,cur,q,_⟩
    ·have hn:n=0:=by rw[hfull.2,e];simp
     refine main (.slice none 0 0) [] e3 ⟨by rw[hn];simp,.inl ⟨rfl,hn⟩⟩ (by rw[e];exact⟨by simp,fun i x hx=>by simp at hx⟩) (by simp[Value.ownBlock])
    ·rw[e2]at q;cases q
   ·rcases hblk with⟨e,_⟩ |⟨b',cap,cur,q1,qN,q2⟩
    ·rw[e2]at e;cases e
    ·rw[e2]at q1;cases q1
     obtain⟨f1,f2,f3⟩:=e6 hfull.1
     have ho2:o2=0:=by have h9:=e5 (.inr hfull.1);rw[f1,Nat.zero_mul]at h9;exact h9
     subst ho2
     obtain⟨xs,p1,p2⟩:=owns_of_at q2
     have hcap:c2=cap:=by
      obtain⟨fz,hh,_⟩:=q2.2.1
      have h7:=f3 cur _ fz hh
      have h8:=q2.2.2.2.2.1
      rw[h7]at h8
      exact Nat.eq_of_mul_eq_mul_right (size_pos _) h8
     refine main (.slice (some ⟨b,0,none⟩) n c2) xs e4 ?_ p2 fun g hgg=> ?_
     ·rw[hcap,hfull.2];exact p1
     ·simp only[Value.ownBlock,Option.some.injEq]at hgg
      subst hgg
      exact⟨.rowb k' l,by rw[hb],qN⟩
end
open Go.RowKit
def boundE (n:Nat) (d:Nat):Option PV->Option Nat
 | none=>some d
 | some (.v (.int _ i))=>if 0<=i/\i<=n then some i.toNat else none
 | _=>none
def boundsE (n:Nat) (lo hi:Option PV):Option (Nat×Nat):=match boundE n n hi with
 | none=>none
 | some h=>match boundE h 0 lo with
  | none=>none
  | some l=>some (l,h)
def boundC (n d:Nat) (x:Option PV) (k:Nat->Eff PV):Eff PV:=match x with
 | none=>k d
 | some (.v (.int _ i))=>gdE (0<=i/\i<=n) (k i.toNat)
 | _=> .fail
def boundsC (n:Nat) (lo hi:Option PV) (k:Nat->Nat->Eff PV):Eff PV:=boundC n n hi fun h=>boundC h 0 lo fun l=>k l h
theorem boundC_run {PC:Con} {x:Option PV} {k:Nat->Eff PV} (h:(boundC n d x k).Run PC s v s' r wr):∃m,boundE n d x=some m/\(k m).Run PC s v s' r wr:=by
 unfold boundC at h
 split at h
 ·exact⟨d,rfl,h⟩
 ·obtain⟨hb,h⟩:_/\_:=h
  exact⟨_,if_pos hb,h⟩
 ·exact h.elim
theorem boundsC_run {PC:Con} {lo hi:Option PV} {k:Nat->Nat->Eff PV} (h:(boundsC n lo hi k).Run PC s v s' r wr):∃p q,boundsE n lo hi=some (p,q)/\(k p q).Run PC s v s' r wr:=by
 obtain⟨m,h1,h⟩:=boundC_run h
 obtain⟨l,h2,h⟩:=boundC_run h
 exact⟨l,m,by unfold boundsE;rw[h1];simp only;rw[h2],h⟩
def cutL {α:Type} (lo hi:Option PV) (l:List α) (p q:Nat):List α:=match lo,hi with
 | none,none=>l
 | none,some _=>l.take q
 | some _,none=>l.drop p
 | some _,some _=>(l.take q).drop p
theorem boundE_none (h:boundE n d none=some m):m=d:=by cases h;rfl
theorem cutL_eq {lo hi:Option PV} {l:List α} {p q:Nat} (h:boundsE l.length lo hi=some (p,q)):cutL lo hi l p q=(l.take q).drop p:=by
 unfold boundsE at h
 split at h
 ·cases h
 rename_i q' hq
 split at h
 ·cases h
 rename_i p' hp
 cases h
 unfold cutL
 cases lo<;>cases hi<;>simp only
 ·rw[boundE_none hq,boundE_none hp];simp
 ·rw[boundE_none hp];simp
 ·rw[boundE_none hq];simp
def eSlice (t:TypeId) (x:PV) (lo hi:Option PV):Eff PV:=match x with
 | .v (.string s)=>if isStrT t then boundsC s.size lo hi fun l h=> .ret (.v (.string (s.extract l h)))else .fail
 | .row false k l=>if slK t=some k then boundsC l.length lo hi fun p q=> .ret (.row false k (cutL lo hi l p q))else .fail
 | .ref id ver off n full=>live id ver fun
  | .rowb k _=>if slK t=some k then boundsC n lo hi fun p q=> .ret (.ref id ver (off+p) (q-p) (full&&lo.isNone&&hi.isNone))else .fail
  | .rowd k _=>if slK t=some k then boundsC n lo hi fun p q=> .ret (.ref id ver (off+p) (q-p) (full&&lo.isNone&&hi.isNone))else .fail
  | .box _=> .fail
  | .objb _=> .fail
  | .iterb _ _ _ _ _=> .fail
  | .rowx _ _ _ _=> .fail
 | _=> .fail
section
variable {P:Program} {PC:Con} {X:Ctx} {nt:Nat} {Q:Exit->Act->World->Prop} {Z:Env} {a:Act} {w:World} {o:Oper} {v:PV} {s':Sto} {r wr:List Nat}
theorem eLen_sound (hF:Facts P) {t:TypeId} (ho:o.op= .call {callee:= .builtin .len,args:= #[x],argTypes:= #[t]}) (hx:opndB nt x=true) (hg:Good X nt Z a w) (h:(eLen t (opd Z.t x)).Run PC Z.s v s' r wr) :
  o.wp P a w (fun a' w'=>Good X nt ⟨putE o.dst v Z.t,s'⟩ a' w') Q:=by
 obtain⟨hs,hd,J,N,hst⟩:=id hg
 have hv:=hst.opd hs hx
 have wfn:∀n:Nat,n<=9223372036854775807->wfV (.int .i64 n):=fun n hn=>(wrap_iff .i64 _).2 (by simp[loK,hiK];omega)
 have fin:∀(u:Value) (n:Nat),a.eval x=u->(Builtin.len_ #[t] o.type #[u]).run P w= .ok (.int .i64 n) w->n<=9223372036854775807->v= .v (.int .i64 n)->s'=Z.s->o.wp P a w (fun a' w'=>Good X nt ⟨putE o.dst v Z.t,s'⟩ a' w') Q:=by
  rintro u n he hrun hn rfl rfl
  refine sound_val hs hd hst ?_ ⟨rfl,wfn n hn⟩
  unfold execOp
  simp only[ho,resolve,invoke,builtin,Sem.run_bind,Sem.run_pure,Result.andThen_ok,List.map_toArray,List.map_cons,List.map_nil,he,hrun]
 have slen:∀(p:Option Addr) (n c:Nat),(slK t).isSome=true->(Builtin.len_ #[t] o.type #[.slice p n c]).run P w= .ok (.int .i64 n) w:=by
  intro p n c hk
  obtain⟨k,hk⟩:=Option.isSome_iff_exists.1 hk
  simp[Builtin.len_,run_underlying (hF.sl t k hk),goInt]
 unfold eLen at h
 split at h
 case h_5=>exact h.elim
 case h_1=>
  rename_i s he
  rw[he]at hv
  split at h
  case isFalse=>exact h.elim
  rename_i hst2
  obtain⟨e1,e2,-,-⟩:v=_/\s'=_/\r=[]/\wr=[]:=h
  exact fin _ _ hv.1 (by simp[Builtin.len_,run_underlying (hF.str t hst2),goInt]) hv.2 e1 e2
 case h_2=>
  rename_i he
  rw[he]at hv
  split at h
  case isFalse=>exact h.elim
  rename_i hk
  obtain⟨e1,e2,-,-⟩:v=_/\s'=_/\r=[]/\wr=[]:=h
  exact fin _ 0 hv (slen none 0 0 hk) (by omega) e1 e2
 case h_3=>
  rename_i k l he
  rw[he]at hv
  split at h
  case isFalse=>exact h.elim
  rename_i hk
  obtain⟨e1,e2,-,-⟩:v=_/\s'=_/\r=[]/\wr=[]:=h
  obtain⟨_,p,cap,e3,_,e4,_⟩:=hv
  exact fin _ _ e3 (slen p _ cap hk) e4 e1 e2
 case h_4=>
  rename_i id ver off n full he
  rw[he]at hv
  obtain⟨_,_,k3⟩:=hv
  obtain⟨blk,r',hb,rfl,h⟩:=live_run h
  have go:∀(k:K) (l:List (ty k)),IsRow blk k l->(if(slK t).isSome then .ret (.v (.int .i64 n))else .fail:Eff PV).Run PC Z.s v s' r' wr->o.wp P a w (fun a' w'=>Good X nt ⟨putE o.dst v Z.t,s'⟩ a' w') Q:=by
   intro k l hrw h
   split at h
   case isFalse=>exact h.elim
   rename_i hk
   obtain⟨e1,e2,-,-⟩:v=_/\s'=_/\r'=[]/\wr=[]:=h
   obtain⟨q1,q2⟩:=k3 _ k l hb hrw
   have hh:=row_head hrw (hst.blk id _ (by rw[hb]))
   have hl:l.length<=9223372036854775807:=by
    rcases hh with⟨_,e,_⟩ |⟨b,cap,cur,_,_,h0,_⟩;(rw[e];simp);exact h0
   rcases q2 with⟨q2,q3⟩ |⟨b,c,o2,q2,q3,q4,_⟩
   ·have hn:n=0:=by
     have:l=[]:=by
      rcases hh with⟨_,e,_⟩ |⟨b,cap,cur,q,_⟩;exact e;simp_all
     subst this
     simp at q1;omega
    subst hn
    exact fin _ 0 q3 (slen none 0 0 hk) (by omega) e1 e2
   ·exact fin _ n q4 (slen _ n c hk) (by omega) e1 e2
  cases blk with
  | box cs=>exact h.elim
  | objb o=>exact h.elim
  | iterb=>exact h.elim
  | rowb k l=>exact go k l .b h
  | rowd k l=>exact go k l .d h
  | rowx k l i cs=>exact go k l .x h
def OptR (R:PV->Value->Prop):Option PV->Option Value->Prop
 | none,none=>True
 | some p,some q=>R p q
 | _,_=>False
theorem boundE_run {x:Option PV} {u:Option Value} (hu:OptR (ValC S w J σ) x u) (h:boundE n d x=some m) :
  (u=none/\m=d)∨∃ik i,u=some (.int ik i)/\0<=i/\i<=n/\m=i.toNat:=by
 cases x with
 | none=>
  cases u with
  | none=>cases h;exact .inl ⟨rfl,rfl⟩
  | some q=>exact hu.elim
 | some p=>
  cases u with
  | none=>exact hu.elim
  | some q=>
   unfold boundE at h
   split at h
   ·rename_i e;cases e
   ·rename_i ik i e
    cases e
    split at h
    ·rename_i hi
     cases h
     exact .inr ⟨ik,i,by rw[hu.1],hi.1,hi.2,rfl⟩
    ·cases h
   ·cases h
theorem bound_le {x:Option PV} (hd:d<=n) (h:boundE n d x=some m):m<=n:=by
 unfold boundE at h
 split at h
 ·cases h;exact hd
 ·split at h
  ·rename_i hi;cases h;omega
  ·cases h
 ·cases h
theorem run_sliceBound {ik:IntKind} {i:Int} {y:Nat} {c:BoundsCode} (hu:u= .int ik i) (h0:0<=i) (h1:i<=y):(Instr.sliceBound u y c).run P w= .ok i.toNat w:=by
 subst hu
 simp[Instr.sliceBound,asIntOf,h0,h1]
theorem run_bounds {w0:World} {isS:Bool} {len:Nat} {lo hi:Option PV} {ul uh:Option Value} {p q:Nat} (hl:OptR (ValC S w J σ) lo ul) (hh:OptR (ValC S w J σ) hi uh) (hc:len<=cap)
  (h:boundsE len lo hi=some (p,q)):(Instr.sliceBounds isS len cap ul uh none).run P w0= .ok (p,q,cap) w0/\p<=q/\q<=len:=by
 unfold boundsE at h
 split at h
 ·cases h
 rename_i hv hhv
 split at h
 ·cases h
 rename_i lv hlv
 cases h
 have hq:q<=len:=bound_le (Nat.le_refl _) hhv
 have hp:p<=q:=bound_le (Nat.zero_le _) hlv
 refine⟨?_,hp,hq⟩
 rcases boundE_run hh hhv with⟨rfl,rfl⟩ |⟨ik,i,rfl,h0,h1,rfl⟩
 ·rcases boundE_run hl hlv with⟨rfl,rfl⟩ |⟨ik,i,rfl,h0,h1,rfl⟩
  ·simp[Instr.sliceBounds]
  ·simp[Instr.sliceBounds,run_sliceBound (P:=P) (w:=w0) rfl h0 h1]
 ·have h2:i<=(cap:Int):=by omega
  rcases boundE_run hl hlv with⟨rfl,rfl⟩ |⟨ik',i',rfl,h0',h1',rfl⟩
  ·simp[Instr.sliceBounds,run_sliceBound (P:=P) (w:=w0) rfl h0 h2]
  ·simp[Instr.sliceBounds,run_sliceBound (P:=P) (w:=w0) rfl h0 h2,run_sliceBound (P:=P) (w:=w0) rfl h0' h1']
end
end Go.Px
