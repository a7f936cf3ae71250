/- What a call may hold, as plain values and a store: a small machine over them, the functions of this program as its contracts, and the plain laws: texts Uni0 to Px23. -/
import Derived.WalkKit
import Derived.Lib.Hide
import Derived.WalkSmall
import Derived.Deep.LoopGhost
import Derived.Orders
import Derived.Laws.Cells
import Derived.Laws.OwnMore
import Derived.Maps.AppendAt
set_option linter.unusedSimpArgs false
set_option linter.unusedVariables false
set_option linter.constructorNameAsVariable false
namespace Go.Px
abbrev gG:=@Array.getElem?_append_left
abbrev gN:=@Array.getElem?_eq_getElem
abbrev d5:=@Array.length_toList
abbrev nD:=@Array.size_append
abbrev gW:=@Bool.and_eq_false_iff
abbrev aB:=@Bool.and_eq_true
abbrev tG:=@Bool.and_self
abbrev bE:=@Bool.and_true
abbrev dG:=@Bool.eq_iff_iff
abbrev dJ:=@Bool.false_and
abbrev aJ:=@Bool.false_eq_true
abbrev b9:=@Bool.false_or
abbrev dX:=@Bool.not_eq_false'
abbrev dC:=@Bool.not_eq_true'
abbrev aZ:=@Bool.not_false
abbrev aM:=@Bool.not_true
abbrev bL:=@Bool.or_eq_false_iff
abbrev eZ:=@Bool.or_eq_true
abbrev aK:=@Bool.true_and
abbrev dQ:=@Bool.true_or
abbrev dR:=@ByteArray.append_assoc
abbrev aH:=@ByteArray.size_append
abbrev nS:=@Int.not_le
abbrev C0:=@Int.not_lt
abbrev f0:=@Int.toNat_natCast
abbrev cI:=@List.all_cons
abbrev fB:=@List.all_eq_not_any_not
abbrev gL:=@List.all_nil
abbrev o4:=@List.any_cons
abbrev gT:=@List.any_eq_false
abbrev vE:=@List.any_map
abbrev aQ:=@List.append_assoc
abbrev bO:=@List.append_nil
abbrev n0:=@List.cons_append
abbrev kH:=@List.drop_drop
abbrev lS:=@List.drop_length
abbrev dK:=@List.drop_zero
abbrev aR:=@List.eq_nil_of_length_eq_zero
abbrev kX:=@List.ext_getElem?
abbrev eP:=@List.filter_append
abbrev cH:=@List.flatMap_append
abbrev dD:=@List.flatMap_cons
abbrev dE:=@List.flatten_cons
abbrev bM:=@List.getElem?_append_left
abbrev bI:=@List.getElem?_append_right
abbrev jF:=@List.getElem?_cons_zero
abbrev bK:=@List.getElem?_drop
abbrev dF:=@List.getElem?_eq_none
abbrev bX:=@List.getElem?_map
abbrev bD:=@List.getElem?_of_mem
abbrev jX:=@List.getElem?_set_self
abbrev aU:=@List.getElem?_take
abbrev iT:=@List.getElem?_toArray
abbrev bQ:=@List.getElem_mem
abbrev aW:=@List.length_append
abbrev cL:=@List.length_cons
abbrev cA:=@List.length_drop
abbrev gX:=@List.length_filter_le
abbrev jN:=@List.length_flatMap
abbrev aP:=@List.length_map
abbrev iU:=@List.length_mergeSort
abbrev mK:=@List.length_nil
abbrev fV:=@List.length_singleton
abbrev aF:=@List.length_take
abbrev e8:=@List.map_append
abbrev bR:=@List.map_cons
abbrev iH:=@List.map_nil
abbrev lT:=@List.map_toArray
abbrev pE:=@List.mem_append
abbrev bJ:=@List.mem_append_left
abbrev bG:=@List.mem_append_right
abbrev dS:=@List.mem_cons
abbrev aI:=@List.mem_cons_of_mem
abbrev aN:=@List.mem_cons_self
abbrev jO:=@List.mem_map_of_mem
abbrev iN:=@List.mem_of_find?_eq_some
abbrev iA:=@List.mem_of_mem_take
abbrev jP:=@List.mergeSort_perm
abbrev cV:=@List.nil_append
abbrev j5:=@List.nil_sublist
abbrev nE:=@List.nodup_append
abbrev gH:=@List.nodup_cons
abbrev nT:=@List.nodup_nil
abbrev kY:=@List.size_toArray
abbrev fW:=@List.take_append_drop
abbrev iV:=@List.take_length
abbrev nU:=@List.take_take
abbrev fE:=@Nat.add_assoc
abbrev cF:=@Nat.add_mul
abbrev jG:=@Nat.add_sub_cancel_left
abbrev eY:=@Nat.add_zero
abbrev oA:=@Nat.beq_refl
abbrev aS:=@Nat.eq_of_beq_eq_true
abbrev bY:=@Nat.le_of_ble_eq_true
abbrev oC:=@Nat.le_of_lt
abbrev bB:=@Nat.le_refl
abbrev aX:=@Nat.le_trans
abbrev iW:=@Nat.lt_of_le_of_lt
abbrev eQ:=@Nat.lt_of_lt_of_le
abbrev rP:=@Nat.lt_or_ge
abbrev cM:=@Nat.lt_succ_self
abbrev fQ:=@Nat.min_eq_left
abbrev bF:=@Nat.mul_le_mul_right
abbrev mL:=@Nat.not_lt_zero
abbrev bP:=@Nat.zero_add
abbrev cT:=@Nat.zero_le
abbrev iI:=@Nat.zero_mul
abbrev aC:=@Option.bind_eq_some_iff
abbrev fR:=@Option.map_some
abbrev lK:=@beq_eq_false_iff_ne
abbrev fX:=@beq_iff_eq
abbrev aY:=@decide_eq_false_iff_not
abbrev bN:=@decide_eq_true_eq
variable {α:Type} {b cap d g i j m n off ver:Nat} {w w':World} {S S':Nat->Prop} {u:Value} {us xs:List Value} {L r wr:List Nat} {N N':Nat->List Nat} {J J':Nat->Option (Nat×Nat)} {o:Oper} {c:Code} {x y:Operand} {a:Int}
theorem iR {l:List α} {a:α}:l[i]?=some a↔∃h:i<l.length,l[i]=a:=List.getElem?_eq_some_iff
theorem iD {l:List α} (h:i<l.length):l[i]?=some l[i]:=List.getElem?_eq_getElem h
theorem tF {l:List α} {a:α} (h:l[i]?=some a):a∈l:=List.mem_of_getElem? h
theorem iM {p:Prop} [Decidable p] (h:¬p):decide p=false:=decide_eq_false h
theorem jA {p:Prop} [Decidable p] (h:p):decide p=true:=decide_eq_true h
open Go.RowKit
structure LVp where
 State:Int
 Mark:Bool
 Args:List Int
 Part:List UInt8
structure MQ where
 Fg:Int
 Bg:Int
 Bold:Bool
 Under:Bool
 Turn:Bool
structure DH where
 R:Int
 A:MQ
structure IW where
 W:Int
 H:Int
 Cells:List DH
structure K2 where
 Cells:List DH
structure aAf where
 W:Int
 H:Int
 Main:IW
 Alt:IW
 OnAlt:Bool
 X:Int
 Y:Int
 Wrap:Bool
 A:MQ
 Top:Int
 Bot:Int
 NoWrap:Bool
 Hide:Bool
 SaveX:Int
 SaveY:Int
 SaveA:MQ
 Tabs:List Int
 Limit:Int
 Back:List K2
structure MR where
 P:LVp
 S:aAf
structure yR where
 Id:Int
 Cmd:ByteArray
 Dir:ByteArray
 Life:Int
 Code:Int
 Pid:Int
 Term:MR
structure GE where
 Pane:Int
 Down:Bool
 First:Int
structure F9 where
 Id:Int
 Name:ByteArray
 Tree:List GE
 Active:Int
 Zoom:Bool
structure uJ where
 Name:ByteArray
 Wins:List Int
 Active:Int
structure DJ where
 W:Int
 H:Int
 Limit:Int
 Next:Int
 Panes:List yR
 Wins:List F9
 Sess:List uJ
structure yO where
 Id:Int
 Body:List UInt8
 Safe:Int
structure yQ where
 Name:ByteArray
 Id:Int
structure yS where
 Kind:Int
 Name:ByteArray
 To:ByteArray
 Id:Int
structure IV where
 Room:Int
 Fuse:Int
 Next:Int
 Files:List yO
 Kept:List yQ
 Turns:List yS
structure DI where
 Disk:IV
 Gen:Int
 Seq:Int
 Size:Int
 Stuck:Bool
structure GF where
 Pid:Int
 Pane:Int
structure K1 where
 Pane:Int
 Cmd:ByteArray
 Dir:ByteArray
 W:Int
 H:Int
 Pid:Int
structure DK where
 Next:Int
 Live:List GF
 Asked:List K1
structure LOp where
 Kind:Int
 A:Int
 B:Int
 C:Int
 Name:ByteArray
 Text:ByteArray
 Dir:ByteArray
 Data:List UInt8
structure yP where
 Lost:Bool
 Op:LOp
structure OV where
 Base:DJ
 Top:Int
 Up:Bool
 St:DJ
 Dep:DI
 Disk:IV
 Tab:DK
 Sure:Int
 Done:List yP
structure OU where
 State:Int
 Mark:Bool
 Args:List Int
 Part:List UInt8
structure oN where
 Fg:Int
 Bg:Int
 Bold:Bool
 Under:Bool
 Turn:Bool
structure jB where
 R:Int
 A:oN
structure fY where
 W:Int
 H:Int
 Cells:List jB
structure pX where
 Cells:List jB
structure nG where
 W:Int
 H:Int
 Main:fY
 Alt:fY
 OnAlt:Bool
 X:Int
 Y:Int
 Wrap:Bool
 A:oN
 Top:Int
 Bot:Int
 NoWrap:Bool
 Hide:Bool
 SaveX:Int
 SaveY:Int
 SaveA:oN
 Tabs:List Int
 Limit:Int
 Back:List pX
structure uI where
 P:OU
 S:nG
structure dL where
 Id:Int
 Cmd:ByteArray
 Dir:ByteArray
 Life:Int
 Code:Int
 Pid:Int
 Term:uI
structure bV where
 Pane:Int
 Down:Bool
 First:Int
structure lF where
 Id:Int
 Name:ByteArray
 Tree:List bV
 Active:Int
 Zoom:Bool
structure kM where
 Name:ByteArray
 Wins:List Int
 Active:Int
structure bA where
 W:Int
 H:Int
 Limit:Int
 Next:Int
 Panes:List dL
 Wins:List lF
 Sess:List kM
structure gB where
 Id:Int
 Body:List UInt8
 Safe:Int
structure aT where
 Name:ByteArray
 Id:Int
structure eA where
 Kind:Int
 Name:ByteArray
 To:ByteArray
 Id:Int
structure cO where
 Room:Int
 Fuse:Int
 Next:Int
 Files:List gB
 Kept:List aT
 Turns:List eA
structure j6 where
 Disk:cO
 Gen:Int
 Seq:Int
 Size:Int
 Stuck:Bool
structure jL where
 Pid:Int
 Pane:Int
structure A9 where
 Pane:Int
 Cmd:ByteArray
 Dir:ByteArray
 W:Int
 H:Int
 Pid:Int
structure fL where
 Next:Int
 Live:List jL
 Asked:List A9
structure oK where
 Kind:Int
 A:Int
 B:Int
 C:Int
 Name:ByteArray
 Text:ByteArray
 Dir:ByteArray
 Data:List UInt8
structure iZ where
 Lost:Bool
 Op:oK
structure lE where
 Base:bA
 Top:Int
 Up:Bool
 St:bA
 Dep:j6
 Disk:cO
 Tab:fL
 Sure:Int
 Done:List iZ
structure bS where
 Pane:Int
 X:Int
 Y:Int
 W:Int
 H:Int
inductive K|int|bool|u8|str|iAsk|iAttr|lAttr|lLink|lTurn|lAsk|iProc|iLink|iTurn|iNode|lProc|iCell|iRect|lNode|lCell|lTable|iTable|lOp|lHist|iOp|iHist|iSess|iWin|iVp|iGrid|lVp|lGrid|lWin|lSess|lFile|iFile|lRow|iRow|lDisk|lDepot|iDisk|iDepot|iScr|iTerm|iPane|lScr|lTerm|lPane|lState|lSrv|iState|iSrv
deriving DecidableEq
variable {k k':K}
abbrev ty:K->Type
 | .int=>Int
 | .bool=>Bool
 | .u8=>UInt8
 | .str=>ByteArray
 | .iAsk=>A9
 | .iAttr=>oN
 | .lAttr=>MQ
 | .lLink=>yQ
 | .lTurn=>yS
 | .lAsk=>K1
 | .iProc=>jL
 | .iLink=>aT
 | .iTurn=>eA
 | .iNode=>bV
 | .lProc=>GF
 | .iCell=>jB
 | .iRect=>bS
 | .lNode=>GE
 | .lCell=>DH
 | .lTable=>DK
 | .iTable=>fL
 | .lOp=>LOp
 | .lHist=>yP
 | .iOp=>oK
 | .iHist=>iZ
 | .iSess=>kM
 | .iWin=>lF
 | .iVp=>OU
 | .iGrid=>fY
 | .lVp=>LVp
 | .lGrid=>IW
 | .lWin=>F9
 | .lSess=>uJ
 | .lFile=>yO
 | .iFile=>gB
 | .lRow=>K2
 | .iRow=>pX
 | .lDisk=>IV
 | .lDepot=>DI
 | .iDisk=>cO
 | .iDepot=>j6
 | .iScr=>nG
 | .iTerm=>uI
 | .iPane=>dL
 | .lScr=>aAf
 | .lTerm=>MR
 | .lPane=>yR
 | .lState=>DJ
 | .lSrv=>OV
 | .iState=>bA
 | .iSrv=>lE
inductive d4 where
 | sc (v:Value)
 | nest (k:K) (l:List (ty k))
inductive aA where
 | sc (v:Value)
 | nest (k:K) (l:List (ty k))
 | nl
def size:K->Nat
 | .int=>1
 | .bool=>1
 | .u8=>1
 | .str=>1
 | .iAsk=>6
 | .iAttr=>5
 | .lAttr=>5
 | .lLink=>2
 | .lTurn=>4
 | .lAsk=>6
 | .iProc=>2
 | .iLink=>2
 | .iTurn=>4
 | .iNode=>3
 | .lProc=>2
 | .iCell=>6
 | .iRect=>5
 | .lNode=>3
 | .lCell=>6
 | .lTable=>3
 | .iTable=>3
 | .lOp=>8
 | .lHist=>9
 | .iOp=>8
 | .iHist=>9
 | .iSess=>3
 | .iWin=>5
 | .iVp=>4
 | .iGrid=>3
 | .lVp=>4
 | .lGrid=>3
 | .lWin=>5
 | .lSess=>3
 | .lFile=>3
 | .iFile=>3
 | .lRow=>1
 | .iRow=>1
 | .lDisk=>6
 | .lDepot=>10
 | .iDisk=>6
 | .iDepot=>10
 | .iScr=>31
 | .iTerm=>35
 | .iPane=>41
 | .lScr=>31
 | .lTerm=>35
 | .lPane=>41
 | .lState=>7
 | .lSrv=>37
 | .iState=>7
 | .iSrv=>37
def AX:K->Nat
 | .int=>0
 | .bool=>0
 | .u8=>0
 | .str=>0
 | .iAsk=>0
 | .iAttr=>0
 | .lAttr=>0
 | .lLink=>0
 | .lTurn=>0
 | .lAsk=>0
 | .iProc=>0
 | .iLink=>0
 | .iTurn=>0
 | .iNode=>0
 | .lProc=>0
 | .iCell=>0
 | .iRect=>0
 | .lNode=>0
 | .lCell=>0
 | .lTable=>1
 | .iTable=>1
 | .lOp=>1
 | .lHist=>1
 | .iOp=>1
 | .iHist=>1
 | .iSess=>1
 | .iWin=>1
 | .iVp=>1
 | .iGrid=>1
 | .lVp=>1
 | .lGrid=>1
 | .lWin=>1
 | .lSess=>1
 | .lFile=>1
 | .iFile=>1
 | .lRow=>1
 | .iRow=>1
 | .lDisk=>2
 | .lDepot=>2
 | .iDisk=>2
 | .iDepot=>2
 | .iScr=>2
 | .iTerm=>2
 | .iPane=>2
 | .lScr=>2
 | .lTerm=>2
 | .lPane=>2
 | .lState=>3
 | .lSrv=>3
 | .iState=>3
 | .iSrv=>3
def mJ:K->TypeId
 | .int=>3
 | .bool=>4
 | .u8=>5
 | .str=>9
 | .iAsk=>75
 | .iAttr=>125
 | .lAttr=>161
 | .lLink=>180
 | .lTurn=>183
 | .lAsk=>185
 | .iProc=>190
 | .iLink=>200
 | .iTurn=>202
 | .iNode=>208
 | .lProc=>216
 | .iCell=>250
 | .iRect=>272
 | .lNode=>297
 | .lCell=>391
 | .lTable=>37
 | .iTable=>58
 | .lOp=>101
 | .lHist=>103
 | .iOp=>106
 | .iHist=>108
 | .iSess=>114
 | .iWin=>117
 | .iVp=>120
 | .iGrid=>123
 | .lVp=>157
 | .lGrid=>160
 | .lWin=>172
 | .lSess=>174
 | .lFile=>177
 | .iFile=>199
 | .lRow=>360
 | .iRow=>365
 | .lDisk=>31
 | .lDepot=>33
 | .iDisk=>52
 | .iDepot=>54
 | .iScr=>128
 | .iTerm=>130
 | .iPane=>132
 | .lScr=>164
 | .lTerm=>166
 | .lPane=>168
 | .lState=>26
 | .lSrv=>40
 | .iState=>47
 | .iSrv=>61
def byt:K->Nat
 | .int=>8
 | .bool=>1
 | .u8=>1
 | .str=>16
 | .iAsk=>64
 | .iAttr=>24
 | .lAttr=>24
 | .lLink=>24
 | .lTurn=>48
 | .lAsk=>64
 | .iProc=>16
 | .iLink=>24
 | .iTurn=>48
 | .iNode=>24
 | .lProc=>16
 | .iCell=>32
 | .iRect=>40
 | .lNode=>24
 | .lCell=>32
 | .lTable=>56
 | .iTable=>56
 | .lOp=>104
 | .lHist=>112
 | .iOp=>104
 | .iHist=>112
 | .iSess=>48
 | .iWin=>64
 | .iVp=>64
 | .iGrid=>40
 | .lVp=>64
 | .lGrid=>40
 | .lWin=>64
 | .lSess=>48
 | .lFile=>40
 | .iFile=>40
 | .lRow=>24
 | .iRow=>24
 | .lDisk=>96
 | .lDepot=>128
 | .iDisk=>96
 | .iDepot=>128
 | .iScr=>272
 | .iTerm=>336
 | .iPane=>400
 | .lScr=>272
 | .lTerm=>336
 | .lPane=>400
 | .lState=>104
 | .lSrv=>536
 | .iState=>104
 | .iSrv=>536
abbrev sI (n:Int):d4:= .sc (.int .i64 n)
abbrev sB (n:Bool):d4:= .sc (.bool n)
abbrev sS (n:ByteArray):d4:= .sc (.string n)
def aG: {k:K}->ty k->List d4
 | .int,x=> [sI x]
 | .bool,x=> [sB x]
 | .u8,x=> [.sc (.int .u8 x.toNat)]
 | .str,x=> [sS x]
 | .iAsk,x=> [sI x.Pane,sS x.Cmd,sS x.Dir,sI x.W,sI x.H,sI x.Pid]
 | .iAttr,x=> [sI x.Fg,sI x.Bg,sB x.Bold,sB x.Under,sB x.Turn]
 | .lAttr,x=> [sI x.Fg,sI x.Bg,sB x.Bold,sB x.Under,sB x.Turn]
 | .lLink,x=> [sS x.Name,sI x.Id]
 | .lTurn,x=> [sI x.Kind,sS x.Name,sS x.To,sI x.Id]
 | .lAsk,x=> [sI x.Pane,sS x.Cmd,sS x.Dir,sI x.W,sI x.H,sI x.Pid]
 | .iProc,x=> [sI x.Pid,sI x.Pane]
 | .iLink,x=> [sS x.Name,sI x.Id]
 | .iTurn,x=> [sI x.Kind,sS x.Name,sS x.To,sI x.Id]
 | .iNode,x=> [sI x.Pane,sB x.Down,sI x.First]
 | .lProc,x=> [sI x.Pid,sI x.Pane]
 | .iCell,x=> [sI x.R,sI x.A.Fg,sI x.A.Bg,sB x.A.Bold,sB x.A.Under,sB x.A.Turn]
 | .iRect,x=> [sI x.Pane,sI x.X,sI x.Y,sI x.W,sI x.H]
 | .lNode,x=> [sI x.Pane,sB x.Down,sI x.First]
 | .lCell,x=> [sI x.R,sI x.A.Fg,sI x.A.Bg,sB x.A.Bold,sB x.A.Under,sB x.A.Turn]
 | .lTable,x=> [sI x.Next,.nest .lProc x.Live,.nest .lAsk x.Asked]
 | .iTable,x=> [sI x.Next,.nest .iProc x.Live,.nest .iAsk x.Asked]
 | .lOp,x=> [sI x.Kind,sI x.A,sI x.B,sI x.C,sS x.Name,sS x.Text,sS x.Dir,.nest .u8 x.Data]
 | .lHist,x=> [sB x.Lost,sI x.Op.Kind,sI x.Op.A,sI x.Op.B,sI x.Op.C,sS x.Op.Name,sS x.Op.Text,sS x.Op.Dir,.nest .u8 x.Op.Data]
 | .iOp,x=> [sI x.Kind,sI x.A,sI x.B,sI x.C,sS x.Name,sS x.Text,sS x.Dir,.nest .u8 x.Data]
 | .iHist,x=> [sB x.Lost,sI x.Op.Kind,sI x.Op.A,sI x.Op.B,sI x.Op.C,sS x.Op.Name,sS x.Op.Text,sS x.Op.Dir,.nest .u8 x.Op.Data]
 | .iSess,x=> [sS x.Name,.nest .int x.Wins,sI x.Active]
 | .iWin,x=> [sI x.Id,sS x.Name,.nest .iNode x.Tree,sI x.Active,sB x.Zoom]
 | .iVp,x=> [sI x.State,sB x.Mark,.nest .int x.Args,.nest .u8 x.Part]
 | .iGrid,x=> [sI x.W,sI x.H,.nest .iCell x.Cells]
 | .lVp,x=> [sI x.State,sB x.Mark,.nest .int x.Args,.nest .u8 x.Part]
 | .lGrid,x=> [sI x.W,sI x.H,.nest .lCell x.Cells]
 | .lWin,x=> [sI x.Id,sS x.Name,.nest .lNode x.Tree,sI x.Active,sB x.Zoom]
 | .lSess,x=> [sS x.Name,.nest .int x.Wins,sI x.Active]
 | .lFile,x=> [sI x.Id,.nest .u8 x.Body,sI x.Safe]
 | .iFile,x=> [sI x.Id,.nest .u8 x.Body,sI x.Safe]
 | .lRow,x=> [.nest .lCell x.Cells]
 | .iRow,x=> [.nest .iCell x.Cells]
 | .lDisk,x=> [sI x.Room,sI x.Fuse,sI x.Next,.nest .lFile x.Files,.nest .lLink x.Kept,.nest .lTurn x.Turns]
 | .lDepot,x=> [sI x.Disk.Room,sI x.Disk.Fuse,sI x.Disk.Next,.nest .lFile x.Disk.Files,.nest .lLink x.Disk.Kept,.nest .lTurn x.Disk.Turns,sI x.Gen,sI x.Seq,sI x.Size,sB x.Stuck]
 | .iDisk,x=> [sI x.Room,sI x.Fuse,sI x.Next,.nest .iFile x.Files,.nest .iLink x.Kept,.nest .iTurn x.Turns]
 | .iDepot,x=> [sI x.Disk.Room,sI x.Disk.Fuse,sI x.Disk.Next,.nest .iFile x.Disk.Files,.nest .iLink x.Disk.Kept,.nest .iTurn x.Disk.Turns,sI x.Gen,sI x.Seq,sI x.Size,sB x.Stuck]
 | .iScr,x=> [sI x.W,sI x.H,sI x.Main.W,sI x.Main.H,.nest .iCell x.Main.Cells,sI x.Alt.W,sI x.Alt.H,.nest .iCell x.Alt.Cells,sB x.OnAlt,sI x.X,sI x.Y,sB x.Wrap,sI x.A.Fg,sI x.A.Bg,sB x.A.Bold,sB x.A.Under,sB x.A.Turn,sI x.Top,sI x.Bot,sB x.NoWrap,sB x.Hide,sI x.SaveX,sI x.SaveY,sI x.SaveA.Fg,sI x.SaveA.Bg,sB x.SaveA.Bold,sB x.SaveA.Under,sB x.SaveA.Turn,.nest .int x.Tabs,sI x.Limit,.nest .iRow x.Back]
 | .iTerm,x=> [sI x.P.State,sB x.P.Mark,.nest .int x.P.Args,.nest .u8 x.P.Part,sI x.S.W,sI x.S.H,sI x.S.Main.W,sI x.S.Main.H,.nest .iCell x.S.Main.Cells,sI x.S.Alt.W,sI x.S.Alt.H,.nest .iCell x.S.Alt.Cells,sB x.S.OnAlt,sI x.S.X,sI x.S.Y,sB x.S.Wrap,sI x.S.A.Fg,sI x.S.A.Bg,sB x.S.A.Bold,sB x.S.A.Under,sB x.S.A.Turn,sI x.S.Top,sI x.S.Bot,sB x.S.NoWrap,sB x.S.Hide,sI x.S.SaveX,sI x.S.SaveY,sI x.S.SaveA.Fg,sI x.S.SaveA.Bg,sB x.S.SaveA.Bold,sB x.S.SaveA.Under,sB x.S.SaveA.Turn,.nest .int x.S.Tabs,sI x.S.Limit,.nest .iRow x.S.Back]
 | .iPane,x=> [sI x.Id,sS x.Cmd,sS x.Dir,sI x.Life,sI x.Code,sI x.Pid,sI x.Term.P.State,sB x.Term.P.Mark,.nest .int x.Term.P.Args,.nest .u8 x.Term.P.Part,sI x.Term.S.W,sI x.Term.S.H,sI x.Term.S.Main.W,sI x.Term.S.Main.H,.nest .iCell x.Term.S.Main.Cells,sI x.Term.S.Alt.W,sI x.Term.S.Alt.H,.nest .iCell x.Term.S.Alt.Cells,sB x.Term.S.OnAlt,sI x.Term.S.X,sI x.Term.S.Y,sB x.Term.S.Wrap,sI x.Term.S.A.Fg,sI x.Term.S.A.Bg,sB x.Term.S.A.Bold,sB x.Term.S.A.Under,sB x.Term.S.A.Turn,sI x.Term.S.Top,sI x.Term.S.Bot,sB x.Term.S.NoWrap,sB x.Term.S.Hide,sI x.Term.S.SaveX,sI x.Term.S.SaveY,sI x.Term.S.SaveA.Fg,sI x.Term.S.SaveA.Bg,sB x.Term.S.SaveA.Bold,sB x.Term.S.SaveA.Under,sB x.Term.S.SaveA.Turn,.nest .int x.Term.S.Tabs,sI x.Term.S.Limit,.nest .iRow x.Term.S.Back]
 | .lScr,x=> [sI x.W,sI x.H,sI x.Main.W,sI x.Main.H,.nest .lCell x.Main.Cells,sI x.Alt.W,sI x.Alt.H,.nest .lCell x.Alt.Cells,sB x.OnAlt,sI x.X,sI x.Y,sB x.Wrap,sI x.A.Fg,sI x.A.Bg,sB x.A.Bold,sB x.A.Under,sB x.A.Turn,sI x.Top,sI x.Bot,sB x.NoWrap,sB x.Hide,sI x.SaveX,sI x.SaveY,sI x.SaveA.Fg,sI x.SaveA.Bg,sB x.SaveA.Bold,sB x.SaveA.Under,sB x.SaveA.Turn,.nest .int x.Tabs,sI x.Limit,.nest .lRow x.Back]
 | .lTerm,x=> [sI x.P.State,sB x.P.Mark,.nest .int x.P.Args,.nest .u8 x.P.Part,sI x.S.W,sI x.S.H,sI x.S.Main.W,sI x.S.Main.H,.nest .lCell x.S.Main.Cells,sI x.S.Alt.W,sI x.S.Alt.H,.nest .lCell x.S.Alt.Cells,sB x.S.OnAlt,sI x.S.X,sI x.S.Y,sB x.S.Wrap,sI x.S.A.Fg,sI x.S.A.Bg,sB x.S.A.Bold,sB x.S.A.Under,sB x.S.A.Turn,sI x.S.Top,sI x.S.Bot,sB x.S.NoWrap,sB x.S.Hide,sI x.S.SaveX,sI x.S.SaveY,sI x.S.SaveA.Fg,sI x.S.SaveA.Bg,sB x.S.SaveA.Bold,sB x.S.SaveA.Under,sB x.S.SaveA.Turn,.nest .int x.S.Tabs,sI x.S.Limit,.nest .lRow x.S.Back]
 | .lPane,x=> [sI x.Id,sS x.Cmd,sS x.Dir,sI x.Life,sI x.Code,sI x.Pid,sI x.Term.P.State,sB x.Term.P.Mark,.nest .int x.Term.P.Args,.nest .u8 x.Term.P.Part,sI x.Term.S.W,sI x.Term.S.H,sI x.Term.S.Main.W,sI x.Term.S.Main.H,.nest .lCell x.Term.S.Main.Cells,sI x.Term.S.Alt.W,sI x.Term.S.Alt.H,.nest .lCell x.Term.S.Alt.Cells,sB x.Term.S.OnAlt,sI x.Term.S.X,sI x.Term.S.Y,sB x.Term.S.Wrap,sI x.Term.S.A.Fg,sI x.Term.S.A.Bg,sB x.Term.S.A.Bold,sB x.Term.S.A.Under,sB x.Term.S.A.Turn,sI x.Term.S.Top,sI x.Term.S.Bot,sB x.Term.S.NoWrap,sB x.Term.S.Hide,sI x.Term.S.SaveX,sI x.Term.S.SaveY,sI x.Term.S.SaveA.Fg,sI x.Term.S.SaveA.Bg,sB x.Term.S.SaveA.Bold,sB x.Term.S.SaveA.Under,sB x.Term.S.SaveA.Turn,.nest .int x.Term.S.Tabs,sI x.Term.S.Limit,.nest .lRow x.Term.S.Back]
 | .lState,x=> [sI x.W,sI x.H,sI x.Limit,sI x.Next,.nest .lPane x.Panes,.nest .lWin x.Wins,.nest .lSess x.Sess]
 | .lSrv,x=> [sI x.Base.W,sI x.Base.H,sI x.Base.Limit,sI x.Base.Next,.nest .lPane x.Base.Panes,.nest .lWin x.Base.Wins,.nest .lSess x.Base.Sess,sI x.Top,sB x.Up,sI x.St.W,sI x.St.H,sI x.St.Limit,sI x.St.Next,.nest .lPane x.St.Panes,.nest .lWin x.St.Wins,.nest .lSess x.St.Sess,sI x.Dep.Disk.Room,sI x.Dep.Disk.Fuse,sI x.Dep.Disk.Next,.nest .lFile x.Dep.Disk.Files,.nest .lLink x.Dep.Disk.Kept,.nest .lTurn x.Dep.Disk.Turns,sI x.Dep.Gen,sI x.Dep.Seq,sI x.Dep.Size,sB x.Dep.Stuck,sI x.Disk.Room,sI x.Disk.Fuse,sI x.Disk.Next,.nest .lFile x.Disk.Files,.nest .lLink x.Disk.Kept,.nest .lTurn x.Disk.Turns,sI x.Tab.Next,.nest .lProc x.Tab.Live,.nest .lAsk x.Tab.Asked,sI x.Sure,.nest .lHist x.Done]
 | .iState,x=> [sI x.W,sI x.H,sI x.Limit,sI x.Next,.nest .iPane x.Panes,.nest .iWin x.Wins,.nest .iSess x.Sess]
 | .iSrv,x=> [sI x.Base.W,sI x.Base.H,sI x.Base.Limit,sI x.Base.Next,.nest .iPane x.Base.Panes,.nest .iWin x.Base.Wins,.nest .iSess x.Base.Sess,sI x.Top,sB x.Up,sI x.St.W,sI x.St.H,sI x.St.Limit,sI x.St.Next,.nest .iPane x.St.Panes,.nest .iWin x.St.Wins,.nest .iSess x.St.Sess,sI x.Dep.Disk.Room,sI x.Dep.Disk.Fuse,sI x.Dep.Disk.Next,.nest .iFile x.Dep.Disk.Files,.nest .iLink x.Dep.Disk.Kept,.nest .iTurn x.Dep.Disk.Turns,sI x.Dep.Gen,sI x.Dep.Seq,sI x.Dep.Size,sB x.Dep.Stuck,sI x.Disk.Room,sI x.Disk.Fuse,sI x.Disk.Next,.nest .iFile x.Disk.Files,.nest .iLink x.Disk.Kept,.nest .iTurn x.Disk.Turns,sI x.Tab.Next,.nest .iProc x.Tab.Live,.nest .iAsk x.Tab.Asked,sI x.Sure,.nest .iHist x.Done]
theorem cP:∀{k:K} (x:ty k),(aG x).length=size k
 | .int,_| .bool,_| .u8,_| .str,_| .iAsk,_| .iAttr,_| .lAttr,_| .lLink,_| .lTurn,_| .lAsk,_| .iProc,_| .iLink,_| .iTurn,_| .iNode,_| .lProc,_| .iCell,_| .iRect,_| .lNode,_| .lCell,_| .lTable,_| .iTable,_| .lOp,_| .lHist,_| .iOp,_| .iHist,_| .iSess,_| .iWin,_| .iVp,_| .iGrid,_| .lVp,_| .lGrid,_| .lWin,_| .lSess,_| .lFile,_| .iFile,_| .lRow,_| .iRow,_| .lDisk,_| .lDepot,_| .iDisk,_| .iDepot,_| .iScr,_| .iTerm,_| .iPane,_| .lScr,_| .lTerm,_| .lPane,_| .lState,_| .lSrv,_| .iState,_| .iSrv,_=>rfl
theorem mH:∀k,0<size k| .int| .bool| .u8| .str| .iAsk| .iAttr| .lAttr| .lLink| .lTurn| .lAsk| .iProc| .iLink| .iTurn| .iNode| .lProc| .iCell| .iRect| .lNode| .lCell| .lTable| .iTable| .lOp| .lHist| .iOp| .iHist| .iSess| .iWin| .iVp| .iGrid| .lVp| .lGrid| .lWin| .lSess| .lFile| .iFile| .lRow| .iRow| .lDisk| .lDepot| .iDisk| .iDepot| .iScr| .iTerm| .iPane| .lScr| .lTerm| .lPane| .lState| .lSrv| .iState| .iSrv=>by decide
def YC:d4->Option K
 | .sc _=>none
 | .nest k _=>some k
theorem CP:∀{k:K} (x:ty k) (j:Nat) (k':K) (l:List (ty k')),(aG x)[j]?=some (.nest k' l)->AX k'<AX k:=by
 intro k x j k' l h
 have e:((aG x).map YC)[j]?=some (some k'):=by rw[bX,h];rfl
 have h3:some k'∈(aG x).map YC:=tF e
 cases k<;>simp only[aG,YC,bR,iH,dS,List.not_mem_nil,or_false,reduceCtorEq,false_or,Option.some.injEq]at h3
 all_goals (first|(rcases h3 with h3|h3|h3|h3|h3|h3|h3|h3|h3|h3|h3|h3|h3|h3|h3|h3<;>subst h3<;>decide)|(rcases h3 with h3|h3|h3|h3|h3|h3|h3|h3|h3|h3|h3|h3|h3|h3|h3<;>subst h3<;>decide)|(rcases h3 with h3|h3|h3|h3|h3|h3|h3|h3|h3|h3|h3|h3|h3|h3<;>subst h3<;>decide)|(rcases h3 with h3|h3|h3|h3|h3|h3|h3|h3|h3|h3|h3|h3|h3<;>subst h3<;>decide)|(rcases h3 with h3|h3|h3|h3|h3|h3|h3|h3|h3|h3|h3|h3<;>subst h3<;>decide)|(rcases h3 with h3|h3|h3|h3|h3|h3|h3|h3|h3|h3|h3<;>subst h3<;>decide)|(rcases h3 with h3|h3|h3|h3|h3|h3|h3|h3|h3|h3<;>subst h3<;>decide)|(rcases h3 with h3|h3|h3|h3|h3|h3|h3|h3|h3<;>subst h3<;>decide)|(rcases h3 with h3|h3|h3|h3|h3|h3|h3|h3<;>subst h3<;>decide)|(rcases h3 with h3|h3|h3|h3|h3|h3|h3<;>subst h3<;>decide)|(rcases h3 with h3|h3|h3|h3|h3|h3<;>subst h3<;>decide)|(rcases h3 with h3|h3|h3|h3|h3<;>subst h3<;>decide)|(rcases h3 with h3|h3|h3|h3<;>subst h3<;>decide)|(rcases h3 with h3|h3|h3<;>subst h3<;>decide)|(rcases h3 with h3|h3<;>subst h3<;>decide)|(subst h3;decide))
def flat:K->Bool
 | .int=>true
 | .bool=>true
 | .u8=>true
 | .str=>true
 | .iAsk=>true
 | .iAttr=>true
 | .lAttr=>true
 | .lLink=>true
 | .lTurn=>true
 | .lAsk=>true
 | .iProc=>true
 | .iLink=>true
 | .iTurn=>true
 | .iNode=>true
 | .lProc=>true
 | .iCell=>true
 | .iRect=>true
 | .lNode=>true
 | .lCell=>true
 | .lTable=>false
 | .iTable=>false
 | .lOp=>false
 | .lHist=>false
 | .iOp=>false
 | .iHist=>false
 | .iSess=>false
 | .iWin=>false
 | .iVp=>false
 | .iGrid=>false
 | .lVp=>false
 | .lGrid=>false
 | .lWin=>false
 | .lSess=>false
 | .lFile=>false
 | .iFile=>false
 | .lRow=>false
 | .iRow=>false
 | .lDisk=>false
 | .lDepot=>false
 | .iDisk=>false
 | .iDepot=>false
 | .iScr=>false
 | .iTerm=>false
 | .iPane=>false
 | .lScr=>false
 | .lTerm=>false
 | .lPane=>false
 | .lState=>false
 | .lSrv=>false
 | .iState=>false
 | .iSrv=>false
theorem X4:∀{k:K},flat k=true->∀(x:ty k) (lf:d4),lf∈aG x->∃v,lf= .sc v:=by
 intro k e x lf h
 have z:((aG x).map YC).all (·.isNone)=true:=by cases k<;>first|rfl|cases e
 have D:=List.all_eq_true.1 z _ (List.mem_map.2 ⟨lf,h,rfl⟩)
 cases lf with
 | sc v=>exact⟨v,rfl⟩
 | nest k l=>cases D
def aA.list (k:K):aA->Option (List (ty k))
 | .nest k' l=>if h:k'=k then some (h▸l)else none
 | .nl=>some []
 | .sc _=>none
def aA.int (k:IntKind):aA->Option Int| .sc (.int k' n)=>if k'=k then some n else none|_=>none
def aA.u8:aA->Option UInt8| .sc (.int .u8 n)=>some (UInt8.ofNat n.toNat)|_=>none
def aA.str:aA->Option ByteArray| .sc (.string n)=>some n|_=>none
def aA.bool:aA->Option Bool| .sc (.bool n)=>some n|_=>none
def aDg:List aA->Option (ty .int)
 | c0:: []=>(c0.int .i64).bind fun vc0=>some (vc0:ty .int)
 | _=>none
def YM:List aA->Option (ty .bool)
 | c0:: []=>(c0.bool).bind fun vc0=>some (vc0:ty .bool)
 | _=>none
def aHH:List aA->Option (ty .u8)
 | c0:: []=>(c0.u8).bind fun vc0=>some (vc0:ty .u8)
 | _=>none
def aDj:List aA->Option (ty .str)
 | c0:: []=>(c0.str).bind fun vc0=>some (vc0:ty .str)
 | _=>none
def YO:List aA->Option (ty .iAsk)
 | c0::c1::c2::c3::c4::c5:: []=>(c0.int .i64).bind fun vc0=>(c1.str).bind fun vc1=>(c2.str).bind fun vc2=>(c3.int .i64).bind fun vc3=>(c4.int .i64).bind fun vc4=>(c5.int .i64).bind fun vc5=>some (⟨vc0,vc1,vc2,vc3,vc4,vc5⟩:ty .iAsk)
 | _=>none
def QX:List aA->Option (ty .iAttr)
 | c0::c1::c2::c3::c4:: []=>(c0.int .i64).bind fun vc0=>(c1.int .i64).bind fun vc1=>(c2.bool).bind fun vc2=>(c3.bool).bind fun vc3=>(c4.bool).bind fun vc4=>some (⟨vc0,vc1,vc2,vc3,vc4⟩:ty .iAttr)
 | _=>none
def RF:List aA->Option (ty .lAttr)
 | c0::c1::c2::c3::c4:: []=>(c0.int .i64).bind fun vc0=>(c1.int .i64).bind fun vc1=>(c2.bool).bind fun vc2=>(c3.bool).bind fun vc3=>(c4.bool).bind fun vc4=>some (⟨vc0,vc1,vc2,vc3,vc4⟩:ty .lAttr)
 | _=>none
def RM:List aA->Option (ty .lLink)
 | c0::c1:: []=>(c0.str).bind fun vc0=>(c1.int .i64).bind fun vc1=>some (⟨vc0,vc1⟩:ty .lLink)
 | _=>none
def RU:List aA->Option (ty .lTurn)
 | c0::c1::c2::c3:: []=>(c0.int .i64).bind fun vc0=>(c1.str).bind fun vc1=>(c2.str).bind fun vc2=>(c3.int .i64).bind fun vc3=>some (⟨vc0,vc1,vc2,vc3⟩:ty .lTurn)
 | _=>none
def YY:List aA->Option (ty .lAsk)
 | c0::c1::c2::c3::c4::c5:: []=>(c0.int .i64).bind fun vc0=>(c1.str).bind fun vc1=>(c2.str).bind fun vc2=>(c3.int .i64).bind fun vc3=>(c4.int .i64).bind fun vc4=>(c5.int .i64).bind fun vc5=>some (⟨vc0,vc1,vc2,vc3,vc4,vc5⟩:ty .lAsk)
 | _=>none
def Q8:List aA->Option (ty .iProc)
 | c0::c1:: []=>(c0.int .i64).bind fun vc0=>(c1.int .i64).bind fun vc1=>some (⟨vc0,vc1⟩:ty .iProc)
 | _=>none
def Q5:List aA->Option (ty .iLink)
 | c0::c1:: []=>(c0.str).bind fun vc0=>(c1.int .i64).bind fun vc1=>some (⟨vc0,vc1⟩:ty .iLink)
 | _=>none
def RE:List aA->Option (ty .iTurn)
 | c0::c1::c2::c3:: []=>(c0.int .i64).bind fun vc0=>(c1.str).bind fun vc1=>(c2.str).bind fun vc2=>(c3.int .i64).bind fun vc3=>some (⟨vc0,vc1,vc2,vc3⟩:ty .iTurn)
 | _=>none
def Q6:List aA->Option (ty .iNode)
 | c0::c1::c2:: []=>(c0.int .i64).bind fun vc0=>(c1.bool).bind fun vc1=>(c2.int .i64).bind fun vc2=>some (⟨vc0,vc1,vc2⟩:ty .iNode)
 | _=>none
def RP:List aA->Option (ty .lProc)
 | c0::c1:: []=>(c0.int .i64).bind fun vc0=>(c1.int .i64).bind fun vc1=>some (⟨vc0,vc1⟩:ty .lProc)
 | _=>none
def QY:List aA->Option (ty .iCell)
 | c0::c1::c2::c3::c4::c5:: []=>(c0.int .i64).bind fun vc0=>(c1.int .i64).bind fun vc1=>(c2.int .i64).bind fun vc2=>(c3.bool).bind fun vc3=>(c4.bool).bind fun vc4=>(c5.bool).bind fun vc5=>some (⟨vc0,⟨vc1,vc2,vc3,vc4,vc5⟩⟩:ty .iCell)
 | _=>none
def Q9:List aA->Option (ty .iRect)
 | c0::c1::c2::c3::c4:: []=>(c0.int .i64).bind fun vc0=>(c1.int .i64).bind fun vc1=>(c2.int .i64).bind fun vc2=>(c3.int .i64).bind fun vc3=>(c4.int .i64).bind fun vc4=>some (⟨vc0,vc1,vc2,vc3,vc4⟩:ty .iRect)
 | _=>none
def RN:List aA->Option (ty .lNode)
 | c0::c1::c2:: []=>(c0.int .i64).bind fun vc0=>(c1.bool).bind fun vc1=>(c2.int .i64).bind fun vc2=>some (⟨vc0,vc1,vc2⟩:ty .lNode)
 | _=>none
def RG:List aA->Option (ty .lCell)
 | c0::c1::c2::c3::c4::c5:: []=>(c0.int .i64).bind fun vc0=>(c1.int .i64).bind fun vc1=>(c2.int .i64).bind fun vc2=>(c3.bool).bind fun vc3=>(c4.bool).bind fun vc4=>(c5.bool).bind fun vc5=>some (⟨vc0,⟨vc1,vc2,vc3,vc4,vc5⟩⟩:ty .lCell)
 | _=>none
def LY:List aA->Option (ty .lTable)
 | c0::c1::c2:: []=>(c0.int .i64).bind fun vc0=>(c1.list .lProc).bind fun vc1=>(c2.list .lAsk).bind fun vc2=>some (⟨vc0,vc1,vc2⟩:ty .lTable)
 | _=>none
def LV:List aA->Option (ty .iTable)
 | c0::c1::c2:: []=>(c0.int .i64).bind fun vc0=>(c1.list .iProc).bind fun vc1=>(c2.list .iAsk).bind fun vc2=>some (⟨vc0,vc1,vc2⟩:ty .iTable)
 | _=>none
def aDh:List aA->Option (ty .lOp)
 | c0::c1::c2::c3::c4::c5::c6::c7:: []=>(c0.int .i64).bind fun vc0=>(c1.int .i64).bind fun vc1=>(c2.int .i64).bind fun vc2=>(c3.int .i64).bind fun vc3=>(c4.str).bind fun vc4=>(c5.str).bind fun vc5=>(c6.str).bind fun vc6=>(c7.list .u8).bind fun vc7=>some (⟨vc0,vc1,vc2,vc3,vc4,vc5,vc6,vc7⟩:ty .lOp)
 | _=>none
def RL:List aA->Option (ty .lHist)
 | c0::c1::c2::c3::c4::c5::c6::c7::c8:: []=>(c0.bool).bind fun vc0=>(c1.int .i64).bind fun vc1=>(c2.int .i64).bind fun vc2=>(c3.int .i64).bind fun vc3=>(c4.int .i64).bind fun vc4=>(c5.str).bind fun vc5=>(c6.str).bind fun vc6=>(c7.str).bind fun vc7=>(c8.list .u8).bind fun vc8=>some (⟨vc0,⟨vc1,vc2,vc3,vc4,vc5,vc6,vc7,vc8⟩⟩:ty .lHist)
 | _=>none
def aDe:List aA->Option (ty .iOp)
 | c0::c1::c2::c3::c4::c5::c6::c7:: []=>(c0.int .i64).bind fun vc0=>(c1.int .i64).bind fun vc1=>(c2.int .i64).bind fun vc2=>(c3.int .i64).bind fun vc3=>(c4.str).bind fun vc4=>(c5.str).bind fun vc5=>(c6.str).bind fun vc6=>(c7.list .u8).bind fun vc7=>some (⟨vc0,vc1,vc2,vc3,vc4,vc5,vc6,vc7⟩:ty .iOp)
 | _=>none
def Q4:List aA->Option (ty .iHist)
 | c0::c1::c2::c3::c4::c5::c6::c7::c8:: []=>(c0.bool).bind fun vc0=>(c1.int .i64).bind fun vc1=>(c2.int .i64).bind fun vc2=>(c3.int .i64).bind fun vc3=>(c4.int .i64).bind fun vc4=>(c5.str).bind fun vc5=>(c6.str).bind fun vc6=>(c7.str).bind fun vc7=>(c8.list .u8).bind fun vc8=>some (⟨vc0,⟨vc1,vc2,vc3,vc4,vc5,vc6,vc7,vc8⟩⟩:ty .iHist)
 | _=>none
def RA:List aA->Option (ty .iSess)
 | c0::c1::c2:: []=>(c0.str).bind fun vc0=>(c1.list .int).bind fun vc1=>(c2.int .i64).bind fun vc2=>some (⟨vc0,vc1,vc2⟩:ty .iSess)
 | _=>none
def YW:List aA->Option (ty .iWin)
 | c0::c1::c2::c3::c4:: []=>(c0.int .i64).bind fun vc0=>(c1.str).bind fun vc1=>(c2.list .iNode).bind fun vc2=>(c3.int .i64).bind fun vc3=>(c4.bool).bind fun vc4=>some (⟨vc0,vc1,vc2,vc3,vc4⟩:ty .iWin)
 | _=>none
def aDf:List aA->Option (ty .iVp)
 | c0::c1::c2::c3:: []=>(c0.int .i64).bind fun vc0=>(c1.bool).bind fun vc1=>(c2.list .int).bind fun vc2=>(c3.list .u8).bind fun vc3=>some (⟨vc0,vc1,vc2,vc3⟩:ty .iVp)
 | _=>none
def Q3:List aA->Option (ty .iGrid)
 | c0::c1::c2:: []=>(c0.int .i64).bind fun vc0=>(c1.int .i64).bind fun vc1=>(c2.list .iCell).bind fun vc2=>some (⟨vc0,vc1,vc2⟩:ty .iGrid)
 | _=>none
def aDi:List aA->Option (ty .lVp)
 | c0::c1::c2::c3:: []=>(c0.int .i64).bind fun vc0=>(c1.bool).bind fun vc1=>(c2.list .int).bind fun vc2=>(c3.list .u8).bind fun vc3=>some (⟨vc0,vc1,vc2,vc3⟩:ty .lVp)
 | _=>none
def RK:List aA->Option (ty .lGrid)
 | c0::c1::c2:: []=>(c0.int .i64).bind fun vc0=>(c1.int .i64).bind fun vc1=>(c2.list .lCell).bind fun vc2=>some (⟨vc0,vc1,vc2⟩:ty .lGrid)
 | _=>none
def Y6:List aA->Option (ty .lWin)
 | c0::c1::c2::c3::c4:: []=>(c0.int .i64).bind fun vc0=>(c1.str).bind fun vc1=>(c2.list .lNode).bind fun vc2=>(c3.int .i64).bind fun vc3=>(c4.bool).bind fun vc4=>some (⟨vc0,vc1,vc2,vc3,vc4⟩:ty .lWin)
 | _=>none
def RQ:List aA->Option (ty .lSess)
 | c0::c1::c2:: []=>(c0.str).bind fun vc0=>(c1.list .int).bind fun vc1=>(c2.int .i64).bind fun vc2=>some (⟨vc0,vc1,vc2⟩:ty .lSess)
 | _=>none
def RJ:List aA->Option (ty .lFile)
 | c0::c1::c2:: []=>(c0.int .i64).bind fun vc0=>(c1.list .u8).bind fun vc1=>(c2.int .i64).bind fun vc2=>some (⟨vc0,vc1,vc2⟩:ty .lFile)
 | _=>none
def Q2:List aA->Option (ty .iFile)
 | c0::c1::c2:: []=>(c0.int .i64).bind fun vc0=>(c1.list .u8).bind fun vc1=>(c2.int .i64).bind fun vc2=>some (⟨vc0,vc1,vc2⟩:ty .iFile)
 | _=>none
def Y0:List aA->Option (ty .lRow)
 | c0:: []=>(c0.list .lCell).bind fun vc0=>some (⟨vc0⟩:ty .lRow)
 | _=>none
def YQ:List aA->Option (ty .iRow)
 | c0:: []=>(c0.list .iCell).bind fun vc0=>some (⟨vc0⟩:ty .iRow)
 | _=>none
def RI:List aA->Option (ty .lDisk)
 | c0::c1::c2::c3::c4::c5:: []=>(c0.int .i64).bind fun vc0=>(c1.int .i64).bind fun vc1=>(c2.int .i64).bind fun vc2=>(c3.list .lFile).bind fun vc3=>(c4.list .lLink).bind fun vc4=>(c5.list .lTurn).bind fun vc5=>some (⟨vc0,vc1,vc2,vc3,vc4,vc5⟩:ty .lDisk)
 | _=>none
def LW:List aA->Option (ty .lDepot)
 | c0::c1::c2::c3::c4::c5::c6::c7::c8::c9:: []=>(c0.int .i64).bind fun vc0=>(c1.int .i64).bind fun vc1=>(c2.int .i64).bind fun vc2=>(c3.list .lFile).bind fun vc3=>(c4.list .lLink).bind fun vc4=>(c5.list .lTurn).bind fun vc5=>(c6.int .i64).bind fun vc6=>(c7.int .i64).bind fun vc7=>(c8.int .i64).bind fun vc8=>(c9.bool).bind fun vc9=>some (⟨⟨vc0,vc1,vc2,vc3,vc4,vc5⟩,vc6,vc7,vc8,vc9⟩:ty .lDepot)
 | _=>none
def Q1:List aA->Option (ty .iDisk)
 | c0::c1::c2::c3::c4::c5:: []=>(c0.int .i64).bind fun vc0=>(c1.int .i64).bind fun vc1=>(c2.int .i64).bind fun vc2=>(c3.list .iFile).bind fun vc3=>(c4.list .iLink).bind fun vc4=>(c5.list .iTurn).bind fun vc5=>some (⟨vc0,vc1,vc2,vc3,vc4,vc5⟩:ty .iDisk)
 | _=>none
def LT:List aA->Option (ty .iDepot)
 | c0::c1::c2::c3::c4::c5::c6::c7::c8::c9:: []=>(c0.int .i64).bind fun vc0=>(c1.int .i64).bind fun vc1=>(c2.int .i64).bind fun vc2=>(c3.list .iFile).bind fun vc3=>(c4.list .iLink).bind fun vc4=>(c5.list .iTurn).bind fun vc5=>(c6.int .i64).bind fun vc6=>(c7.int .i64).bind fun vc7=>(c8.int .i64).bind fun vc8=>(c9.bool).bind fun vc9=>some (⟨⟨vc0,vc1,vc2,vc3,vc4,vc5⟩,vc6,vc7,vc8,vc9⟩:ty .iDepot)
 | _=>none
def YS:List aA->Option (ty .iScr)
 | c0::c1::c2::c3::c4::c5::c6::c7::c8::c9::c10::c11::c12::c13::c14::c15::c16::c17::c18::c19::c20::c21::c22::c23::c24::c25::c26::c27::c28::c29::c30:: []=>(c0.int .i64).bind fun vc0=>(c1.int .i64).bind fun vc1=>(c2.int .i64).bind fun vc2=>(c3.int .i64).bind fun vc3=>(c4.list .iCell).bind fun vc4=>(c5.int .i64).bind fun vc5=>(c6.int .i64).bind fun vc6=>(c7.list .iCell).bind fun vc7=>(c8.bool).bind fun vc8=>(c9.int .i64).bind fun vc9=>(c10.int .i64).bind fun vc10=>(c11.bool).bind fun vc11=>(c12.int .i64).bind fun vc12=>(c13.int .i64).bind fun vc13=>(c14.bool).bind fun vc14=>(c15.bool).bind fun vc15=>(c16.bool).bind fun vc16=>(c17.int .i64).bind fun vc17=>(c18.int .i64).bind fun vc18=>(c19.bool).bind fun vc19=>(c20.bool).bind fun vc20=>(c21.int .i64).bind fun vc21=>(c22.int .i64).bind fun vc22=>(c23.int .i64).bind fun vc23=>(c24.int .i64).bind fun vc24=>(c25.bool).bind fun vc25=>(c26.bool).bind fun vc26=>(c27.bool).bind fun vc27=>(c28.list .int).bind fun vc28=>(c29.int .i64).bind fun vc29=>(c30.list .iRow).bind fun vc30=>some (⟨vc0,vc1,⟨vc2,vc3,vc4⟩,⟨vc5,vc6,vc7⟩,vc8,vc9,vc10,vc11,⟨vc12,vc13,vc14,vc15,vc16⟩,vc17,vc18,vc19,vc20,vc21,vc22,⟨vc23,vc24,vc25,vc26,vc27⟩,vc28,vc29,vc30⟩:ty .iScr)
 | _=>none
def RD:List aA->Option (ty .iTerm)
 | c0::c1::c2::c3::c4::c5::c6::c7::c8::c9::c10::c11::c12::c13::c14::c15::c16::c17::c18::c19::c20::c21::c22::c23::c24::c25::c26::c27::c28::c29::c30::c31::c32::c33::c34:: []=>(c0.int .i64).bind fun vc0=>(c1.bool).bind fun vc1=>(c2.list .int).bind fun vc2=>(c3.list .u8).bind fun vc3=>(c4.int .i64).bind fun vc4=>(c5.int .i64).bind fun vc5=>(c6.int .i64).bind fun vc6=>(c7.int .i64).bind fun vc7=>(c8.list .iCell).bind fun vc8=>(c9.int .i64).bind fun vc9=>(c10.int .i64).bind fun vc10=>(c11.list .iCell).bind fun vc11=>(c12.bool).bind fun vc12=>(c13.int .i64).bind fun vc13=>(c14.int .i64).bind fun vc14=>(c15.bool).bind fun vc15=>(c16.int .i64).bind fun vc16=>(c17.int .i64).bind fun vc17=>(c18.bool).bind fun vc18=>(c19.bool).bind fun vc19=>(c20.bool).bind fun vc20=>(c21.int .i64).bind fun vc21=>(c22.int .i64).bind fun vc22=>(c23.bool).bind fun vc23=>(c24.bool).bind fun vc24=>(c25.int .i64).bind fun vc25=>(c26.int .i64).bind fun vc26=>(c27.int .i64).bind fun vc27=>(c28.int .i64).bind fun vc28=>(c29.bool).bind fun vc29=>(c30.bool).bind fun vc30=>(c31.bool).bind fun vc31=>(c32.list .int).bind fun vc32=>(c33.int .i64).bind fun vc33=>(c34.list .iRow).bind fun vc34=>some (⟨⟨vc0,vc1,vc2,vc3⟩,⟨vc4,vc5,⟨vc6,vc7,vc8⟩,⟨vc9,vc10,vc11⟩,vc12,vc13,vc14,vc15,⟨vc16,vc17,vc18,vc19,vc20⟩,vc21,vc22,vc23,vc24,vc25,vc26,⟨vc27,vc28,vc29,vc30,vc31⟩,vc32,vc33,vc34⟩⟩:ty .iTerm)
 | _=>none
def Q7:List aA->Option (ty .iPane)
 | c0::c1::c2::c3::c4::c5::c6::c7::c8::c9::c10::c11::c12::c13::c14::c15::c16::c17::c18::c19::c20::c21::c22::c23::c24::c25::c26::c27::c28::c29::c30::c31::c32::c33::c34::c35::c36::c37::c38::c39::c40:: []=>(c0.int .i64).bind fun vc0=>(c1.str).bind fun vc1=>(c2.str).bind fun vc2=>(c3.int .i64).bind fun vc3=>(c4.int .i64).bind fun vc4=>(c5.int .i64).bind fun vc5=>(c6.int .i64).bind fun vc6=>(c7.bool).bind fun vc7=>(c8.list .int).bind fun vc8=>(c9.list .u8).bind fun vc9=>(c10.int .i64).bind fun vc10=>(c11.int .i64).bind fun vc11=>(c12.int .i64).bind fun vc12=>(c13.int .i64).bind fun vc13=>(c14.list .iCell).bind fun vc14=>(c15.int .i64).bind fun vc15=>(c16.int .i64).bind fun vc16=>(c17.list .iCell).bind fun vc17=>(c18.bool).bind fun vc18=>(c19.int .i64).bind fun vc19=>(c20.int .i64).bind fun vc20=>(c21.bool).bind fun vc21=>(c22.int .i64).bind fun vc22=>(c23.int .i64).bind fun vc23=>(c24.bool).bind fun vc24=>(c25.bool).bind fun vc25=>(c26.bool).bind fun vc26=>(c27.int .i64).bind fun vc27=>(c28.int .i64).bind fun vc28=>(c29.bool).bind fun vc29=>(c30.bool).bind fun vc30=>(c31.int .i64).bind fun vc31=>(c32.int .i64).bind fun vc32=>(c33.int .i64).bind fun vc33=>(c34.int .i64).bind fun vc34=>(c35.bool).bind fun vc35=>(c36.bool).bind fun vc36=>(c37.bool).bind fun vc37=>(c38.list .int).bind fun vc38=>(c39.int .i64).bind fun vc39=>(c40.list .iRow).bind fun vc40=>some (⟨vc0,vc1,vc2,vc3,vc4,vc5,⟨⟨vc6,vc7,vc8,vc9⟩,⟨vc10,vc11,⟨vc12,vc13,vc14⟩,⟨vc15,vc16,vc17⟩,vc18,vc19,vc20,vc21,⟨vc22,vc23,vc24,vc25,vc26⟩,vc27,vc28,vc29,vc30,vc31,vc32,⟨vc33,vc34,vc35,vc36,vc37⟩,vc38,vc39,vc40⟩⟩⟩:ty .iPane)
 | _=>none
def Y2:List aA->Option (ty .lScr)
 | c0::c1::c2::c3::c4::c5::c6::c7::c8::c9::c10::c11::c12::c13::c14::c15::c16::c17::c18::c19::c20::c21::c22::c23::c24::c25::c26::c27::c28::c29::c30:: []=>(c0.int .i64).bind fun vc0=>(c1.int .i64).bind fun vc1=>(c2.int .i64).bind fun vc2=>(c3.int .i64).bind fun vc3=>(c4.list .lCell).bind fun vc4=>(c5.int .i64).bind fun vc5=>(c6.int .i64).bind fun vc6=>(c7.list .lCell).bind fun vc7=>(c8.bool).bind fun vc8=>(c9.int .i64).bind fun vc9=>(c10.int .i64).bind fun vc10=>(c11.bool).bind fun vc11=>(c12.int .i64).bind fun vc12=>(c13.int .i64).bind fun vc13=>(c14.bool).bind fun vc14=>(c15.bool).bind fun vc15=>(c16.bool).bind fun vc16=>(c17.int .i64).bind fun vc17=>(c18.int .i64).bind fun vc18=>(c19.bool).bind fun vc19=>(c20.bool).bind fun vc20=>(c21.int .i64).bind fun vc21=>(c22.int .i64).bind fun vc22=>(c23.int .i64).bind fun vc23=>(c24.int .i64).bind fun vc24=>(c25.bool).bind fun vc25=>(c26.bool).bind fun vc26=>(c27.bool).bind fun vc27=>(c28.list .int).bind fun vc28=>(c29.int .i64).bind fun vc29=>(c30.list .lRow).bind fun vc30=>some (⟨vc0,vc1,⟨vc2,vc3,vc4⟩,⟨vc5,vc6,vc7⟩,vc8,vc9,vc10,vc11,⟨vc12,vc13,vc14,vc15,vc16⟩,vc17,vc18,vc19,vc20,vc21,vc22,⟨vc23,vc24,vc25,vc26,vc27⟩,vc28,vc29,vc30⟩:ty .lScr)
 | _=>none
def RT:List aA->Option (ty .lTerm)
 | c0::c1::c2::c3::c4::c5::c6::c7::c8::c9::c10::c11::c12::c13::c14::c15::c16::c17::c18::c19::c20::c21::c22::c23::c24::c25::c26::c27::c28::c29::c30::c31::c32::c33::c34:: []=>(c0.int .i64).bind fun vc0=>(c1.bool).bind fun vc1=>(c2.list .int).bind fun vc2=>(c3.list .u8).bind fun vc3=>(c4.int .i64).bind fun vc4=>(c5.int .i64).bind fun vc5=>(c6.int .i64).bind fun vc6=>(c7.int .i64).bind fun vc7=>(c8.list .lCell).bind fun vc8=>(c9.int .i64).bind fun vc9=>(c10.int .i64).bind fun vc10=>(c11.list .lCell).bind fun vc11=>(c12.bool).bind fun vc12=>(c13.int .i64).bind fun vc13=>(c14.int .i64).bind fun vc14=>(c15.bool).bind fun vc15=>(c16.int .i64).bind fun vc16=>(c17.int .i64).bind fun vc17=>(c18.bool).bind fun vc18=>(c19.bool).bind fun vc19=>(c20.bool).bind fun vc20=>(c21.int .i64).bind fun vc21=>(c22.int .i64).bind fun vc22=>(c23.bool).bind fun vc23=>(c24.bool).bind fun vc24=>(c25.int .i64).bind fun vc25=>(c26.int .i64).bind fun vc26=>(c27.int .i64).bind fun vc27=>(c28.int .i64).bind fun vc28=>(c29.bool).bind fun vc29=>(c30.bool).bind fun vc30=>(c31.bool).bind fun vc31=>(c32.list .int).bind fun vc32=>(c33.int .i64).bind fun vc33=>(c34.list .lRow).bind fun vc34=>some (⟨⟨vc0,vc1,vc2,vc3⟩,⟨vc4,vc5,⟨vc6,vc7,vc8⟩,⟨vc9,vc10,vc11⟩,vc12,vc13,vc14,vc15,⟨vc16,vc17,vc18,vc19,vc20⟩,vc21,vc22,vc23,vc24,vc25,vc26,⟨vc27,vc28,vc29,vc30,vc31⟩,vc32,vc33,vc34⟩⟩:ty .lTerm)
 | _=>none
def RO:List aA->Option (ty .lPane)
 | c0::c1::c2::c3::c4::c5::c6::c7::c8::c9::c10::c11::c12::c13::c14::c15::c16::c17::c18::c19::c20::c21::c22::c23::c24::c25::c26::c27::c28::c29::c30::c31::c32::c33::c34::c35::c36::c37::c38::c39::c40:: []=>(c0.int .i64).bind fun vc0=>(c1.str).bind fun vc1=>(c2.str).bind fun vc2=>(c3.int .i64).bind fun vc3=>(c4.int .i64).bind fun vc4=>(c5.int .i64).bind fun vc5=>(c6.int .i64).bind fun vc6=>(c7.bool).bind fun vc7=>(c8.list .int).bind fun vc8=>(c9.list .u8).bind fun vc9=>(c10.int .i64).bind fun vc10=>(c11.int .i64).bind fun vc11=>(c12.int .i64).bind fun vc12=>(c13.int .i64).bind fun vc13=>(c14.list .lCell).bind fun vc14=>(c15.int .i64).bind fun vc15=>(c16.int .i64).bind fun vc16=>(c17.list .lCell).bind fun vc17=>(c18.bool).bind fun vc18=>(c19.int .i64).bind fun vc19=>(c20.int .i64).bind fun vc20=>(c21.bool).bind fun vc21=>(c22.int .i64).bind fun vc22=>(c23.int .i64).bind fun vc23=>(c24.bool).bind fun vc24=>(c25.bool).bind fun vc25=>(c26.bool).bind fun vc26=>(c27.int .i64).bind fun vc27=>(c28.int .i64).bind fun vc28=>(c29.bool).bind fun vc29=>(c30.bool).bind fun vc30=>(c31.int .i64).bind fun vc31=>(c32.int .i64).bind fun vc32=>(c33.int .i64).bind fun vc33=>(c34.int .i64).bind fun vc34=>(c35.bool).bind fun vc35=>(c36.bool).bind fun vc36=>(c37.bool).bind fun vc37=>(c38.list .int).bind fun vc38=>(c39.int .i64).bind fun vc39=>(c40.list .lRow).bind fun vc40=>some (⟨vc0,vc1,vc2,vc3,vc4,vc5,⟨⟨vc6,vc7,vc8,vc9⟩,⟨vc10,vc11,⟨vc12,vc13,vc14⟩,⟨vc15,vc16,vc17⟩,vc18,vc19,vc20,vc21,⟨vc22,vc23,vc24,vc25,vc26⟩,vc27,vc28,vc29,vc30,vc31,vc32,⟨vc33,vc34,vc35,vc36,vc37⟩,vc38,vc39,vc40⟩⟩⟩:ty .lPane)
 | _=>none
def LX:List aA->Option (ty .lState)
 | c0::c1::c2::c3::c4::c5::c6:: []=>(c0.int .i64).bind fun vc0=>(c1.int .i64).bind fun vc1=>(c2.int .i64).bind fun vc2=>(c3.int .i64).bind fun vc3=>(c4.list .lPane).bind fun vc4=>(c5.list .lWin).bind fun vc5=>(c6.list .lSess).bind fun vc6=>some (⟨vc0,vc1,vc2,vc3,vc4,vc5,vc6⟩:ty .lState)
 | _=>none
def Y4:List aA->Option (ty .lSrv)
 | c0::c1::c2::c3::c4::c5::c6::c7::c8::c9::c10::c11::c12::c13::c14::c15::c16::c17::c18::c19::c20::c21::c22::c23::c24::c25::c26::c27::c28::c29::c30::c31::c32::c33::c34::c35::c36:: []=>(c0.int .i64).bind fun vc0=>(c1.int .i64).bind fun vc1=>(c2.int .i64).bind fun vc2=>(c3.int .i64).bind fun vc3=>(c4.list .lPane).bind fun vc4=>(c5.list .lWin).bind fun vc5=>(c6.list .lSess).bind fun vc6=>(c7.int .i64).bind fun vc7=>(c8.bool).bind fun vc8=>(c9.int .i64).bind fun vc9=>(c10.int .i64).bind fun vc10=>(c11.int .i64).bind fun vc11=>(c12.int .i64).bind fun vc12=>(c13.list .lPane).bind fun vc13=>(c14.list .lWin).bind fun vc14=>(c15.list .lSess).bind fun vc15=>(c16.int .i64).bind fun vc16=>(c17.int .i64).bind fun vc17=>(c18.int .i64).bind fun vc18=>(c19.list .lFile).bind fun vc19=>(c20.list .lLink).bind fun vc20=>(c21.list .lTurn).bind fun vc21=>(c22.int .i64).bind fun vc22=>(c23.int .i64).bind fun vc23=>(c24.int .i64).bind fun vc24=>(c25.bool).bind fun vc25=>(c26.int .i64).bind fun vc26=>(c27.int .i64).bind fun vc27=>(c28.int .i64).bind fun vc28=>(c29.list .lFile).bind fun vc29=>(c30.list .lLink).bind fun vc30=>(c31.list .lTurn).bind fun vc31=>(c32.int .i64).bind fun vc32=>(c33.list .lProc).bind fun vc33=>(c34.list .lAsk).bind fun vc34=>(c35.int .i64).bind fun vc35=>(c36.list .lHist).bind fun vc36=>some (⟨⟨vc0,vc1,vc2,vc3,vc4,vc5,vc6⟩,vc7,vc8,⟨vc9,vc10,vc11,vc12,vc13,vc14,vc15⟩,⟨⟨vc16,vc17,vc18,vc19,vc20,vc21⟩,vc22,vc23,vc24,vc25⟩,⟨vc26,vc27,vc28,vc29,vc30,vc31⟩,⟨vc32,vc33,vc34⟩,vc35,vc36⟩:ty .lSrv)
 | _=>none
def LU:List aA->Option (ty .iState)
 | c0::c1::c2::c3::c4::c5::c6:: []=>(c0.int .i64).bind fun vc0=>(c1.int .i64).bind fun vc1=>(c2.int .i64).bind fun vc2=>(c3.int .i64).bind fun vc3=>(c4.list .iPane).bind fun vc4=>(c5.list .iWin).bind fun vc5=>(c6.list .iSess).bind fun vc6=>some (⟨vc0,vc1,vc2,vc3,vc4,vc5,vc6⟩:ty .iState)
 | _=>none
def YU:List aA->Option (ty .iSrv)
 | c0::c1::c2::c3::c4::c5::c6::c7::c8::c9::c10::c11::c12::c13::c14::c15::c16::c17::c18::c19::c20::c21::c22::c23::c24::c25::c26::c27::c28::c29::c30::c31::c32::c33::c34::c35::c36:: []=>(c0.int .i64).bind fun vc0=>(c1.int .i64).bind fun vc1=>(c2.int .i64).bind fun vc2=>(c3.int .i64).bind fun vc3=>(c4.list .iPane).bind fun vc4=>(c5.list .iWin).bind fun vc5=>(c6.list .iSess).bind fun vc6=>(c7.int .i64).bind fun vc7=>(c8.bool).bind fun vc8=>(c9.int .i64).bind fun vc9=>(c10.int .i64).bind fun vc10=>(c11.int .i64).bind fun vc11=>(c12.int .i64).bind fun vc12=>(c13.list .iPane).bind fun vc13=>(c14.list .iWin).bind fun vc14=>(c15.list .iSess).bind fun vc15=>(c16.int .i64).bind fun vc16=>(c17.int .i64).bind fun vc17=>(c18.int .i64).bind fun vc18=>(c19.list .iFile).bind fun vc19=>(c20.list .iLink).bind fun vc20=>(c21.list .iTurn).bind fun vc21=>(c22.int .i64).bind fun vc22=>(c23.int .i64).bind fun vc23=>(c24.int .i64).bind fun vc24=>(c25.bool).bind fun vc25=>(c26.int .i64).bind fun vc26=>(c27.int .i64).bind fun vc27=>(c28.int .i64).bind fun vc28=>(c29.list .iFile).bind fun vc29=>(c30.list .iLink).bind fun vc30=>(c31.list .iTurn).bind fun vc31=>(c32.int .i64).bind fun vc32=>(c33.list .iProc).bind fun vc33=>(c34.list .iAsk).bind fun vc34=>(c35.int .i64).bind fun vc35=>(c36.list .iHist).bind fun vc36=>some (⟨⟨vc0,vc1,vc2,vc3,vc4,vc5,vc6⟩,vc7,vc8,⟨vc9,vc10,vc11,vc12,vc13,vc14,vc15⟩,⟨⟨vc16,vc17,vc18,vc19,vc20,vc21⟩,vc22,vc23,vc24,vc25⟩,⟨vc26,vc27,vc28,vc29,vc30,vc31⟩,⟨vc32,vc33,vc34⟩,vc35,vc36⟩:ty .iSrv)
 | _=>none
def nJ:(k:K)->List aA->Option (ty k)
 | .int=>aDg
 | .bool=>YM
 | .u8=>aHH
 | .str=>aDj
 | .iAsk=>YO
 | .iAttr=>QX
 | .lAttr=>RF
 | .lLink=>RM
 | .lTurn=>RU
 | .lAsk=>YY
 | .iProc=>Q8
 | .iLink=>Q5
 | .iTurn=>RE
 | .iNode=>Q6
 | .lProc=>RP
 | .iCell=>QY
 | .iRect=>Q9
 | .lNode=>RN
 | .lCell=>RG
 | .lTable=>LY
 | .iTable=>LV
 | .lOp=>aDh
 | .lHist=>RL
 | .iOp=>aDe
 | .iHist=>Q4
 | .iSess=>RA
 | .iWin=>YW
 | .iVp=>aDf
 | .iGrid=>Q3
 | .lVp=>aDi
 | .lGrid=>RK
 | .lWin=>Y6
 | .lSess=>RQ
 | .lFile=>RJ
 | .iFile=>Q2
 | .lRow=>Y0
 | .iRow=>YQ
 | .lDisk=>RI
 | .lDepot=>LW
 | .iDisk=>Q1
 | .iDepot=>LT
 | .iScr=>YS
 | .iTerm=>RD
 | .iPane=>Q7
 | .lScr=>Y2
 | .lTerm=>RT
 | .lPane=>RO
 | .lState=>LX
 | .lSrv=>Y4
 | .iState=>LU
 | .iSrv=>YU
def jU {α:Type} (t:Nat):List (Nat×α)->Option α
 | []=>none
 | (k,v)::l=>if k=t then some v else jU t l
theorem iQ {α:Type} {t:Nat} {x:α}:∀{l:List (Nat×α)},jU t l=some x->(t,x)∈l
 | (k,v)::l,h=>by
  unfold jU at h
  split at h
  ·rename_i e;cases h;subst e;exact aN ..
  ·exact aI _ (iQ h)
 | [],h=>by cases h
def slL:List (TypeId×K):=[(22,.lPane),(23,.lWin),(24,.lSess),(27,.lFile),(28,.lLink),(29,.lTurn),(34,.lProc),(35,.lAsk),(38,.lHist),(43,.iPane),(44,.iWin),(45,.iSess),(48,.iFile),(49,.iLink),(50,.iTurn),(55,.iProc),(56,.iAsk),(59,.iHist),(73,.int),(83,.str),(99,.u8),(115,.iNode),(121,.iCell),(126,.iRow),(158,.lCell),(162,.lRow),(170,.lNode),(192,.bool),(252,.iRect),(370,.iGrid)]
def F3 (t:TypeId):Option K:=jU t slL
def tyL:List (TypeId×Bool×Nat):=[(157,true,4),(161,true,5),(391,true,6),(160,true,3),(360,true,1),(164,true,31),(166,true,35),(168,true,41),(297,true,3),(172,true,5),(174,true,3),(26,true,7),(177,true,3),(180,true,2),(183,true,4),(31,true,6),(33,true,10),(216,true,2),(185,true,6),(37,true,3),(101,true,8),(103,true,9),(40,true,37),(120,true,4),(125,true,5),(250,true,6),(123,true,3),(365,true,1),(128,true,31),(130,true,35),(132,true,41),(208,true,3),(117,true,5),(114,true,3),(47,true,7),(199,true,3),(200,true,2),(202,true,4),(52,true,6),(54,true,10),(190,true,2),(75,true,6),(58,true,3),(106,true,8),(108,true,9),(61,true,37),(272,true,5),(2,false,1),(3,false,1),(4,false,1),(5,false,1),(9,false,1),(12,false,1),(21,false,1),(312,false,1),(347,false,1),(349,false,1),(22,false,1),(23,false,1),(24,false,1),(27,false,1),(28,false,1),(29,false,1),(34,false,1),(35,false,1),(38,false,1),(43,false,1),(44,false,1),(45,false,1),(48,false,1),(49,false,1),(50,false,1),(55,false,1),(56,false,1),(59,false,1),(73,false,1),(83,false,1),(99,false,1),(115,false,1),(121,false,1),(126,false,1),(158,false,1),(162,false,1),(170,false,1),(192,false,1),(252,false,1),(370,false,1),(372,false,1)]
def tyB (t:TypeId):Option (Bool×Nat):=jU t tyL
def aFb:List (TypeId×List (Nat×Bool×Nat)):=[(157,[(0,false,1),(1,false,1),(2,false,1),(3,false,1)]),(119,[(0,false,1),(1,false,1),(2,false,1),(3,false,1)]),(161,[(0,false,1),(1,false,1),(2,false,1),(3,false,1),(4,false,1)]),(124,[(0,false,1),(1,false,1),(2,false,1),(3,false,1),(4,false,1)]),(391,[(0,false,1),(1,true,5)]),(390,[(0,false,1),(1,true,5)]),(160,[(0,false,1),(1,false,1),(2,false,1)]),(159,[(0,false,1),(1,false,1),(2,false,1)]),(360,[(0,false,1)]),(359,[(0,false,1)]),(164,[(0,false,1),(1,false,1),(2,true,3),(5,true,3),(8,false,1),(9,false,1),(10,false,1),(11,false,1),(12,true,5),(17,false,1),(18,false,1),(19,false,1),(20,false,1),(21,false,1),(22,false,1),(23,true,5),(28,false,1),(29,false,1),(30,false,1)]),(163,[(0,false,1),(1,false,1),(2,true,3),(5,true,3),(8,false,1),(9,false,1),(10,false,1),(11,false,1),(12,true,5),(17,false,1),(18,false,1),(19,false,1),(20,false,1),(21,false,1),(22,false,1),(23,true,5),(28,false,1),(29,false,1),(30,false,1)]),(166,[(0,true,4),(4,true,31)]),(165,[(0,true,4),(4,true,31)]),(168,[(0,false,1),(1,false,1),(2,false,1),(3,false,1),(4,false,1),(5,false,1),(6,true,35)]),(167,[(0,false,1),(1,false,1),(2,false,1),(3,false,1),(4,false,1),(5,false,1),(6,true,35)]),(297,[(0,false,1),(1,false,1),(2,false,1)]),(207,[(0,false,1),(1,false,1),(2,false,1)]),(172,[(0,false,1),(1,false,1),(2,false,1),(3,false,1),(4,false,1)]),(171,[(0,false,1),(1,false,1),(2,false,1),(3,false,1),(4,false,1)]),(174,[(0,false,1),(1,false,1),(2,false,1)]),(113,[(0,false,1),(1,false,1),(2,false,1)]),(26,[(0,false,1),(1,false,1),(2,false,1),(3,false,1),(4,false,1),(5,false,1),(6,false,1)]),(25,[(0,false,1),(1,false,1),(2,false,1),(3,false,1),(4,false,1),(5,false,1),(6,false,1)]),(177,[(0,false,1),(1,false,1),(2,false,1)]),(176,[(0,false,1),(1,false,1),(2,false,1)]),(180,[(0,false,1),(1,false,1)]),(179,[(0,false,1),(1,false,1)]),(183,[(0,false,1),(1,false,1),(2,false,1),(3,false,1)]),(182,[(0,false,1),(1,false,1),(2,false,1),(3,false,1)]),(31,[(0,false,1),(1,false,1),(2,false,1),(3,false,1),(4,false,1),(5,false,1)]),(30,[(0,false,1),(1,false,1),(2,false,1),(3,false,1),(4,false,1),(5,false,1)]),(33,[(0,true,6),(6,false,1),(7,false,1),(8,false,1),(9,false,1)]),(32,[(0,true,6),(6,false,1),(7,false,1),(8,false,1),(9,false,1)]),(216,[(0,false,1),(1,false,1)]),(189,[(0,false,1),(1,false,1)]),(185,[(0,false,1),(1,false,1),(2,false,1),(3,false,1),(4,false,1),(5,false,1)]),(74,[(0,false,1),(1,false,1),(2,false,1),(3,false,1),(4,false,1),(5,false,1)]),(37,[(0,false,1),(1,false,1),(2,false,1)]),(36,[(0,false,1),(1,false,1),(2,false,1)]),(101,[(0,false,1),(1,false,1),(2,false,1),(3,false,1),(4,false,1),(5,false,1),(6,false,1),(7,false,1)]),(100,[(0,false,1),(1,false,1),(2,false,1),(3,false,1),(4,false,1),(5,false,1),(6,false,1),(7,false,1)]),(103,[(0,false,1),(1,true,8)]),(102,[(0,false,1),(1,true,8)]),(40,[(0,true,7),(7,false,1),(8,false,1),(9,true,7),(16,true,10),(26,true,6),(32,true,3),(35,false,1),(36,false,1)]),(39,[(0,true,7),(7,false,1),(8,false,1),(9,true,7),(16,true,10),(26,true,6),(32,true,3),(35,false,1),(36,false,1)]),(120,[(0,false,1),(1,false,1),(2,false,1),(3,false,1)]),(125,[(0,false,1),(1,false,1),(2,false,1),(3,false,1),(4,false,1)]),(250,[(0,false,1),(1,true,5)]),(249,[(0,false,1),(1,true,5)]),(123,[(0,false,1),(1,false,1),(2,false,1)]),(122,[(0,false,1),(1,false,1),(2,false,1)]),(365,[(0,false,1)]),(364,[(0,false,1)]),(128,[(0,false,1),(1,false,1),(2,true,3),(5,true,3),(8,false,1),(9,false,1),(10,false,1),(11,false,1),(12,true,5),(17,false,1),(18,false,1),(19,false,1),(20,false,1),(21,false,1),(22,false,1),(23,true,5),(28,false,1),(29,false,1),(30,false,1)]),(127,[(0,false,1),(1,false,1),(2,true,3),(5,true,3),(8,false,1),(9,false,1),(10,false,1),(11,false,1),(12,true,5),(17,false,1),(18,false,1),(19,false,1),(20,false,1),(21,false,1),(22,false,1),(23,true,5),(28,false,1),(29,false,1),(30,false,1)]),(130,[(0,true,4),(4,true,31)]),(129,[(0,true,4),(4,true,31)]),(132,[(0,false,1),(1,false,1),(2,false,1),(3,false,1),(4,false,1),(5,false,1),(6,true,35)]),(131,[(0,false,1),(1,false,1),(2,false,1),(3,false,1),(4,false,1),(5,false,1),(6,true,35)]),(208,[(0,false,1),(1,false,1),(2,false,1)]),(117,[(0,false,1),(1,false,1),(2,false,1),(3,false,1),(4,false,1)]),(116,[(0,false,1),(1,false,1),(2,false,1),(3,false,1),(4,false,1)]),(114,[(0,false,1),(1,false,1),(2,false,1)]),(47,[(0,false,1),(1,false,1),(2,false,1),(3,false,1),(4,false,1),(5,false,1),(6,false,1)]),(46,[(0,false,1),(1,false,1),(2,false,1),(3,false,1),(4,false,1),(5,false,1),(6,false,1)]),(199,[(0,false,1),(1,false,1),(2,false,1)]),(200,[(0,false,1),(1,false,1)]),(202,[(0,false,1),(1,false,1),(2,false,1),(3,false,1)]),(52,[(0,false,1),(1,false,1),(2,false,1),(3,false,1),(4,false,1),(5,false,1)]),(51,[(0,false,1),(1,false,1),(2,false,1),(3,false,1),(4,false,1),(5,false,1)]),(54,[(0,true,6),(6,false,1),(7,false,1),(8,false,1),(9,false,1)]),(53,[(0,true,6),(6,false,1),(7,false,1),(8,false,1),(9,false,1)]),(190,[(0,false,1),(1,false,1)]),(75,[(0,false,1),(1,false,1),(2,false,1),(3,false,1),(4,false,1),(5,false,1)]),(58,[(0,false,1),(1,false,1),(2,false,1)]),(57,[(0,false,1),(1,false,1),(2,false,1)]),(106,[(0,false,1),(1,false,1),(2,false,1),(3,false,1),(4,false,1),(5,false,1),(6,false,1),(7,false,1)]),(108,[(0,false,1),(1,true,8)]),(107,[(0,false,1),(1,true,8)]),(61,[(0,true,7),(7,false,1),(8,false,1),(9,true,7),(16,true,10),(26,true,6),(32,true,3),(35,false,1),(36,false,1)]),(60,[(0,true,7),(7,false,1),(8,false,1),(9,true,7),(16,true,10),(26,true,6),(32,true,3),(35,false,1),(36,false,1)]),(272,[(0,false,1),(1,false,1),(2,false,1),(3,false,1),(4,false,1)]),(271,[(0,false,1),(1,false,1),(2,false,1),(3,false,1),(4,false,1)])]
def X5 (t:TypeId) (i:Nat):Option (Nat×Bool×Nat):=match jU t aFb with
 | some l=>l[i]?
 | none=>none
def zK:(k:K)->ty k
 | .int=>(0:Int)
 | .bool=>(false:Bool)
 | .u8=>(0:UInt8)
 | .str=>(ByteArray.empty:ByteArray)
 | .iAsk=>(⟨0,ByteArray.empty,ByteArray.empty,0,0,0⟩:A9)
 | .iAttr=>(⟨0,0,false,false,false⟩:oN)
 | .lAttr=>(⟨0,0,false,false,false⟩:MQ)
 | .lLink=>(⟨ByteArray.empty,0⟩:yQ)
 | .lTurn=>(⟨0,ByteArray.empty,ByteArray.empty,0⟩:yS)
 | .lAsk=>(⟨0,ByteArray.empty,ByteArray.empty,0,0,0⟩:K1)
 | .iProc=>(⟨0,0⟩:jL)
 | .iLink=>(⟨ByteArray.empty,0⟩:aT)
 | .iTurn=>(⟨0,ByteArray.empty,ByteArray.empty,0⟩:eA)
 | .iNode=>(⟨0,false,0⟩:bV)
 | .lProc=>(⟨0,0⟩:GF)
 | .iCell=>(⟨0,⟨0,0,false,false,false⟩⟩:jB)
 | .iRect=>(⟨0,0,0,0,0⟩:bS)
 | .lNode=>(⟨0,false,0⟩:GE)
 | .lCell=>(⟨0,⟨0,0,false,false,false⟩⟩:DH)
 | .lTable=>(⟨0,[],[]⟩:DK)
 | .iTable=>(⟨0,[],[]⟩:fL)
 | .lOp=>(⟨0,0,0,0,ByteArray.empty,ByteArray.empty,ByteArray.empty,[]⟩:LOp)
 | .lHist=>(⟨false,⟨0,0,0,0,ByteArray.empty,ByteArray.empty,ByteArray.empty,[]⟩⟩:yP)
 | .iOp=>(⟨0,0,0,0,ByteArray.empty,ByteArray.empty,ByteArray.empty,[]⟩:oK)
 | .iHist=>(⟨false,⟨0,0,0,0,ByteArray.empty,ByteArray.empty,ByteArray.empty,[]⟩⟩:iZ)
 | .iSess=>(⟨ByteArray.empty,[],0⟩:kM)
 | .iWin=>(⟨0,ByteArray.empty,[],0,false⟩:lF)
 | .iVp=>(⟨0,false,[],[]⟩:OU)
 | .iGrid=>(⟨0,0,[]⟩:fY)
 | .lVp=>(⟨0,false,[],[]⟩:LVp)
 | .lGrid=>(⟨0,0,[]⟩:IW)
 | .lWin=>(⟨0,ByteArray.empty,[],0,false⟩:F9)
 | .lSess=>(⟨ByteArray.empty,[],0⟩:uJ)
 | .lFile=>(⟨0,[],0⟩:yO)
 | .iFile=>(⟨0,[],0⟩:gB)
 | .lRow=>(⟨[]⟩:K2)
 | .iRow=>(⟨[]⟩:pX)
 | .lDisk=>(⟨0,0,0,[],[],[]⟩:IV)
 | .lDepot=>(⟨⟨0,0,0,[],[],[]⟩,0,0,0,false⟩:DI)
 | .iDisk=>(⟨0,0,0,[],[],[]⟩:cO)
 | .iDepot=>(⟨⟨0,0,0,[],[],[]⟩,0,0,0,false⟩:j6)
 | .iScr=>(⟨0,0,⟨0,0,[]⟩,⟨0,0,[]⟩,false,0,0,false,⟨0,0,false,false,false⟩,0,0,false,false,0,0,⟨0,0,false,false,false⟩,[],0,[]⟩:nG)
 | .iTerm=>(⟨⟨0,false,[],[]⟩,⟨0,0,⟨0,0,[]⟩,⟨0,0,[]⟩,false,0,0,false,⟨0,0,false,false,false⟩,0,0,false,false,0,0,⟨0,0,false,false,false⟩,[],0,[]⟩⟩:uI)
 | .iPane=>(⟨0,ByteArray.empty,ByteArray.empty,0,0,0,⟨⟨0,false,[],[]⟩,⟨0,0,⟨0,0,[]⟩,⟨0,0,[]⟩,false,0,0,false,⟨0,0,false,false,false⟩,0,0,false,false,0,0,⟨0,0,false,false,false⟩,[],0,[]⟩⟩⟩:dL)
 | .lScr=>(⟨0,0,⟨0,0,[]⟩,⟨0,0,[]⟩,false,0,0,false,⟨0,0,false,false,false⟩,0,0,false,false,0,0,⟨0,0,false,false,false⟩,[],0,[]⟩:aAf)
 | .lTerm=>(⟨⟨0,false,[],[]⟩,⟨0,0,⟨0,0,[]⟩,⟨0,0,[]⟩,false,0,0,false,⟨0,0,false,false,false⟩,0,0,false,false,0,0,⟨0,0,false,false,false⟩,[],0,[]⟩⟩:MR)
 | .lPane=>(⟨0,ByteArray.empty,ByteArray.empty,0,0,0,⟨⟨0,false,[],[]⟩,⟨0,0,⟨0,0,[]⟩,⟨0,0,[]⟩,false,0,0,false,⟨0,0,false,false,false⟩,0,0,false,false,0,0,⟨0,0,false,false,false⟩,[],0,[]⟩⟩⟩:yR)
 | .lState=>(⟨0,0,0,0,[],[],[]⟩:DJ)
 | .lSrv=>(⟨⟨0,0,0,0,[],[],[]⟩,0,false,⟨0,0,0,0,[],[],[]⟩,⟨⟨0,0,0,[],[],[]⟩,0,0,0,false⟩,⟨0,0,0,[],[],[]⟩,⟨0,[],[]⟩,0,[]⟩:OV)
 | .iState=>(⟨0,0,0,0,[],[],[]⟩:bA)
 | .iSrv=>(⟨⟨0,0,0,0,[],[],[]⟩,0,false,⟨0,0,0,0,[],[],[]⟩,⟨⟨0,0,0,[],[],[]⟩,0,0,0,false⟩,⟨0,0,0,[],[],[]⟩,⟨0,[],[]⟩,0,[]⟩:lE)
abbrev zi:d4:= .sc (.int .i64 0)
abbrev zb:d4:= .sc (.bool false)
abbrev zs:d4:= .sc (.string ByteArray.empty)
def aIH:List (TypeId×List d4):=[(157,[zi,zb,.nest .int [],.nest .u8 []]),(161,[zi,zi,zb,zb,zb]),(391,[zi,zi,zi,zb,zb,zb]),(160,[zi,zi,.nest .lCell []]),(360,[.nest .lCell []]),(164,[zi,zi,zi,zi,.nest .lCell [],zi,zi,.nest .lCell [],zb,zi,zi,zb,zi,zi,zb,zb,zb,zi,zi,zb,zb,zi,zi,zi,zi,zb,zb,zb,.nest .int [],zi,.nest .lRow []]),(166,[zi,zb,.nest .int [],.nest .u8 [],zi,zi,zi,zi,.nest .lCell [],zi,zi,.nest .lCell [],zb,zi,zi,zb,zi,zi,zb,zb,zb,zi,zi,zb,zb,zi,zi,zi,zi,zb,zb,zb,.nest .int [],zi,.nest .lRow []]),(168,[zi,zs,zs,zi,zi,zi,zi,zb,.nest .int [],.nest .u8 [],zi,zi,zi,zi,.nest .lCell [],zi,zi,.nest .lCell [],zb,zi,zi,zb,zi,zi,zb,zb,zb,zi,zi,zb,zb,zi,zi,zi,zi,zb,zb,zb,.nest .int [],zi,.nest .lRow []]),(297,[zi,zb,zi]),(172,[zi,zs,.nest .lNode [],zi,zb]),(174,[zs,.nest .int [],zi]),(26,[zi,zi,zi,zi,.nest .lPane [],.nest .lWin [],.nest .lSess []]),(177,[zi,.nest .u8 [],zi]),(180,[zs,zi]),(183,[zi,zs,zs,zi]),(31,[zi,zi,zi,.nest .lFile [],.nest .lLink [],.nest .lTurn []]),(33,[zi,zi,zi,.nest .lFile [],.nest .lLink [],.nest .lTurn [],zi,zi,zi,zb]),(216,[zi,zi]),(185,[zi,zs,zs,zi,zi,zi]),(37,[zi,.nest .lProc [],.nest .lAsk []]),(101,[zi,zi,zi,zi,zs,zs,zs,.nest .u8 []]),(103,[zb,zi,zi,zi,zi,zs,zs,zs,.nest .u8 []]),(40,[zi,zi,zi,zi,.nest .lPane [],.nest .lWin [],.nest .lSess [],zi,zb,zi,zi,zi,zi,.nest .lPane [],.nest .lWin [],.nest .lSess [],zi,zi,zi,.nest .lFile [],.nest .lLink [],.nest .lTurn [],zi,zi,zi,zb,zi,zi,zi,.nest .lFile [],.nest .lLink [],.nest .lTurn [],zi,.nest .lProc [],.nest .lAsk [],zi,.nest .lHist []]),(120,[zi,zb,.nest .int [],.nest .u8 []]),(125,[zi,zi,zb,zb,zb]),(250,[zi,zi,zi,zb,zb,zb]),(123,[zi,zi,.nest .iCell []]),(365,[.nest .iCell []]),(128,[zi,zi,zi,zi,.nest .iCell [],zi,zi,.nest .iCell [],zb,zi,zi,zb,zi,zi,zb,zb,zb,zi,zi,zb,zb,zi,zi,zi,zi,zb,zb,zb,.nest .int [],zi,.nest .iRow []]),(130,[zi,zb,.nest .int [],.nest .u8 [],zi,zi,zi,zi,.nest .iCell [],zi,zi,.nest .iCell [],zb,zi,zi,zb,zi,zi,zb,zb,zb,zi,zi,zb,zb,zi,zi,zi,zi,zb,zb,zb,.nest .int [],zi,.nest .iRow []]),(132,[zi,zs,zs,zi,zi,zi,zi,zb,.nest .int [],.nest .u8 [],zi,zi,zi,zi,.nest .iCell [],zi,zi,.nest .iCell [],zb,zi,zi,zb,zi,zi,zb,zb,zb,zi,zi,zb,zb,zi,zi,zi,zi,zb,zb,zb,.nest .int [],zi,.nest .iRow []]),(208,[zi,zb,zi]),(117,[zi,zs,.nest .iNode [],zi,zb]),(114,[zs,.nest .int [],zi]),(47,[zi,zi,zi,zi,.nest .iPane [],.nest .iWin [],.nest .iSess []]),(199,[zi,.nest .u8 [],zi]),(200,[zs,zi]),(202,[zi,zs,zs,zi]),(52,[zi,zi,zi,.nest .iFile [],.nest .iLink [],.nest .iTurn []]),(54,[zi,zi,zi,.nest .iFile [],.nest .iLink [],.nest .iTurn [],zi,zi,zi,zb]),(190,[zi,zi]),(75,[zi,zs,zs,zi,zi,zi]),(58,[zi,.nest .iProc [],.nest .iAsk []]),(106,[zi,zi,zi,zi,zs,zs,zs,.nest .u8 []]),(108,[zb,zi,zi,zi,zi,zs,zs,zs,.nest .u8 []]),(61,[zi,zi,zi,zi,.nest .iPane [],.nest .iWin [],.nest .iSess [],zi,zb,zi,zi,zi,zi,.nest .iPane [],.nest .iWin [],.nest .iSess [],zi,zi,zi,.nest .iFile [],.nest .iLink [],.nest .iTurn [],zi,zi,zi,zb,zi,zi,zi,.nest .iFile [],.nest .iLink [],.nest .iTurn [],zi,.nest .iProc [],.nest .iAsk [],zi,.nest .iHist []]),(272,[zi,zi,zi,zi,zi]),(119,[zi,zb,.nest .int [],.nest .u8 []]),(124,[zi,zi,zb,zb,zb]),(390,[zi,zi,zi,zb,zb,zb]),(159,[zi,zi,.nest .lCell []]),(359,[.nest .lCell []]),(163,[zi,zi,zi,zi,.nest .lCell [],zi,zi,.nest .lCell [],zb,zi,zi,zb,zi,zi,zb,zb,zb,zi,zi,zb,zb,zi,zi,zi,zi,zb,zb,zb,.nest .int [],zi,.nest .lRow []]),(165,[zi,zb,.nest .int [],.nest .u8 [],zi,zi,zi,zi,.nest .lCell [],zi,zi,.nest .lCell [],zb,zi,zi,zb,zi,zi,zb,zb,zb,zi,zi,zb,zb,zi,zi,zi,zi,zb,zb,zb,.nest .int [],zi,.nest .lRow []]),(167,[zi,zs,zs,zi,zi,zi,zi,zb,.nest .int [],.nest .u8 [],zi,zi,zi,zi,.nest .lCell [],zi,zi,.nest .lCell [],zb,zi,zi,zb,zi,zi,zb,zb,zb,zi,zi,zb,zb,zi,zi,zi,zi,zb,zb,zb,.nest .int [],zi,.nest .lRow []]),(207,[zi,zb,zi]),(171,[zi,zs,.nest .lNode [],zi,zb]),(113,[zs,.nest .int [],zi]),(25,[zi,zi,zi,zi,.nest .lPane [],.nest .lWin [],.nest .lSess []]),(176,[zi,.nest .u8 [],zi]),(179,[zs,zi]),(182,[zi,zs,zs,zi]),(30,[zi,zi,zi,.nest .lFile [],.nest .lLink [],.nest .lTurn []]),(32,[zi,zi,zi,.nest .lFile [],.nest .lLink [],.nest .lTurn [],zi,zi,zi,zb]),(189,[zi,zi]),(74,[zi,zs,zs,zi,zi,zi]),(36,[zi,.nest .lProc [],.nest .lAsk []]),(100,[zi,zi,zi,zi,zs,zs,zs,.nest .u8 []]),(102,[zb,zi,zi,zi,zi,zs,zs,zs,.nest .u8 []]),(39,[zi,zi,zi,zi,.nest .lPane [],.nest .lWin [],.nest .lSess [],zi,zb,zi,zi,zi,zi,.nest .lPane [],.nest .lWin [],.nest .lSess [],zi,zi,zi,.nest .lFile [],.nest .lLink [],.nest .lTurn [],zi,zi,zi,zb,zi,zi,zi,.nest .lFile [],.nest .lLink [],.nest .lTurn [],zi,.nest .lProc [],.nest .lAsk [],zi,.nest .lHist []]),(249,[zi,zi,zi,zb,zb,zb]),(122,[zi,zi,.nest .iCell []]),(364,[.nest .iCell []]),(127,[zi,zi,zi,zi,.nest .iCell [],zi,zi,.nest .iCell [],zb,zi,zi,zb,zi,zi,zb,zb,zb,zi,zi,zb,zb,zi,zi,zi,zi,zb,zb,zb,.nest .int [],zi,.nest .iRow []]),(129,[zi,zb,.nest .int [],.nest .u8 [],zi,zi,zi,zi,.nest .iCell [],zi,zi,.nest .iCell [],zb,zi,zi,zb,zi,zi,zb,zb,zb,zi,zi,zb,zb,zi,zi,zi,zi,zb,zb,zb,.nest .int [],zi,.nest .iRow []]),(131,[zi,zs,zs,zi,zi,zi,zi,zb,.nest .int [],.nest .u8 [],zi,zi,zi,zi,.nest .iCell [],zi,zi,.nest .iCell [],zb,zi,zi,zb,zi,zi,zb,zb,zb,zi,zi,zb,zb,zi,zi,zi,zi,zb,zb,zb,.nest .int [],zi,.nest .iRow []]),(116,[zi,zs,.nest .iNode [],zi,zb]),(46,[zi,zi,zi,zi,.nest .iPane [],.nest .iWin [],.nest .iSess []]),(51,[zi,zi,zi,.nest .iFile [],.nest .iLink [],.nest .iTurn []]),(53,[zi,zi,zi,.nest .iFile [],.nest .iLink [],.nest .iTurn [],zi,zi,zi,zb]),(57,[zi,.nest .iProc [],.nest .iAsk []]),(107,[zb,zi,zi,zi,zi,zs,zs,zs,.nest .u8 []]),(60,[zi,zi,zi,zi,.nest .iPane [],.nest .iWin [],.nest .iSess [],zi,zb,zi,zi,zi,zi,.nest .iPane [],.nest .iWin [],.nest .iSess [],zi,zi,zi,.nest .iFile [],.nest .iLink [],.nest .iTurn [],zi,zi,zi,zb,zi,zi,zi,.nest .iFile [],.nest .iLink [],.nest .iTurn [],zi,.nest .iProc [],.nest .iAsk [],zi,.nest .iHist []]),(271,[zi,zi,zi,zi,zi]),(2,[zi]),(3,[zi]),(4,[zb]),(5,[.sc (.int .u8 0)]),(9,[zs]),(12,[.sc (.int .u64 0)]),(21,[.sc (.int .i32 0)]),(312,[.sc (.int .u64 0)]),(347,[.sc (.int .u32 0)]),(349,[.sc (.int .u64 0)]),(22,[.nest .lPane []]),(23,[.nest .lWin []]),(24,[.nest .lSess []]),(27,[.nest .lFile []]),(28,[.nest .lLink []]),(29,[.nest .lTurn []]),(34,[.nest .lProc []]),(35,[.nest .lAsk []]),(38,[.nest .lHist []]),(43,[.nest .iPane []]),(44,[.nest .iWin []]),(45,[.nest .iSess []]),(48,[.nest .iFile []]),(49,[.nest .iLink []]),(50,[.nest .iTurn []]),(55,[.nest .iProc []]),(56,[.nest .iAsk []]),(59,[.nest .iHist []]),(73,[.nest .int []]),(83,[.nest .str []]),(99,[.nest .u8 []]),(115,[.nest .iNode []]),(121,[.nest .iCell []]),(126,[.nest .iRow []]),(158,[.nest .lCell []]),(162,[.nest .lRow []]),(170,[.nest .lNode []]),(192,[.nest .bool []]),(252,[.nest .iRect []]),(370,[.nest .iGrid []]),(372,[.sc .nilFunc])]
def W6 (t:TypeId):Option (List d4):=jU t aIH
def aMF:List TypeId:=[9]
def QD (t:TypeId):Bool:=aMF.contains t
def aKg:List TypeId:=[4]
def YA (t:TypeId):Bool:=aKg.contains t
inductive Cv where
 | int (k:IntKind)|toBytes|toStr
def cvL:List (TypeId×TypeId×Cv):=[(2,2,.int .i64),(2,3,.int .i64),(2,5,.int .u8),(2,12,.int .u64),(2,21,.int .i32),(2,312,.int .u64),(2,347,.int .u32),(2,349,.int .u64),(3,2,.int .i64),(3,3,.int .i64),(3,5,.int .u8),(3,12,.int .u64),(3,21,.int .i32),(3,312,.int .u64),(3,347,.int .u32),(3,349,.int .u64),(5,2,.int .i64),(5,3,.int .i64),(5,5,.int .u8),(5,12,.int .u64),(5,21,.int .i32),(5,312,.int .u64),(5,347,.int .u32),(5,349,.int .u64),(12,2,.int .i64),(12,3,.int .i64),(12,5,.int .u8),(12,12,.int .u64),(12,21,.int .i32),(12,312,.int .u64),(12,347,.int .u32),(12,349,.int .u64),(21,2,.int .i64),(21,3,.int .i64),(21,5,.int .u8),(21,12,.int .u64),(21,21,.int .i32),(21,312,.int .u64),(21,347,.int .u32),(21,349,.int .u64),(312,2,.int .i64),(312,3,.int .i64),(312,5,.int .u8),(312,12,.int .u64),(312,21,.int .i32),(312,312,.int .u64),(312,347,.int .u32),(312,349,.int .u64),(347,2,.int .i64),(347,3,.int .i64),(347,5,.int .u8),(347,12,.int .u64),(347,21,.int .i32),(347,312,.int .u64),(347,347,.int .u32),(347,349,.int .u64),(349,2,.int .i64),(349,3,.int .i64),(349,5,.int .u8),(349,12,.int .u64),(349,21,.int .i32),(349,312,.int .u64),(349,347,.int .u32),(349,349,.int .u64),(9,99,.toBytes),(99,9,.toStr)]
def aEm (s t:Nat):List (Nat×Nat×Cv)->Option Cv
 | []=>none
 | (a,b,v)::l=>if a=s/\b=t then some v else aEm s t l
def cvT (s t:TypeId):Option Cv:=aEm s t cvL
theorem FF {s t:Nat} {x:Cv}:∀{l:List (Nat×Nat×Cv)},aEm s t l=some x->(s,t,x)∈l
 | (a,b,v)::l,h=>by
  unfold aEm at h
  split at h
  ·rename_i e;cases h;obtain⟨rfl,rfl⟩:=e;exact aN ..
  ·exact aI _ (FF h)
 | [],h=>by cases h
inductive MK|s|i|b
def MK.td:MK->TypeDesc
 | .s=> .string
 | .i=> .int .i64
 | .b=> .bool
def aMv:List (TypeId×(MK×Value)):=[(268,(.i,.bool false))]
def aK6 (t:TypeId):Option (MK×Value):=jU t aMv
def aPw:List (TypeId×Nat):=[(285,1),(380,1),(396,1),(423,31)]
def aPx (t:TypeId):Option Nat:=jU t aPw
def aLM:List K:=[.int,.bool,.u8,.str,.iAsk,.iAttr,.lAttr,.lLink,.lTurn,.lAsk,.iProc,.iLink,.iTurn,.iNode,.lProc,.iCell,.iRect,.lNode,.lCell,.lTable,.iTable,.lOp,.lHist,.iOp,.iHist,.iSess,.iWin,.iVp,.iGrid,.lVp,.lGrid,.lWin,.lSess,.lFile,.iFile,.lRow,.iRow,.lDisk,.lDepot,.iDisk,.iDepot,.iScr,.iTerm,.iPane,.lScr,.lTerm,.lPane,.lState,.lSrv,.iState,.iSrv]
theorem aHC:∀k,k∈aLM:=by intro k;cases k<;>decide
def wrL:List (Nat×Nat):=[(17,16)]
def mvL:List (FuncId×List Bool):=[(218,[true,false]),(263,[true,false,true]),(265,[true,false]),(302,[true])]
def mvT (f:FuncId):List Bool:=match jU f mvL with
 | some l=>l
 | none=> []
def lnL:List FuncId:=[194]
def lnT (f:FuncId):Bool:=lnL.any fun g=>Nat.beq g f
def aMR:List (FuncId×TypeId):=[]
def aLA (f:FuncId):Option TypeId:=jU f aMR
def aMC:List (FuncId×(Nat×Nat×Nat)):=[]
def aLe (f:FuncId):Option (Nat×Nat×Nat):=jU f aMC
open Go.RowKit
def sD:Value->Prop
 | .int k n=>k.wrap n=n
 | .string s=>s.size<=9223372036854775807
 | .bool _=>True
 | .pointer none=>True
 | .nilFunc=>True
 | .map none=>True
 | _=>False
def VB (e:TypeId) (n:Nat) (fz:Nat×Nat):Prop:=fz.2=0∨(n<=fz.1/\e=mJ .u8)
def gY (w:World) (g:Nat) (cur:Array Value) (e:TypeId):Prop:=∃fz,w.heap[g]?=some (.cells cur e fz)/\VB e cur.size fz
theorem gY.lt {cur:Array Value} {e:TypeId} (h:gY w g cur e):g<w.heap.size:=by
 obtain⟨_,h,_⟩:=h
 exact(Array.getElem?_eq_some_iff.1 h).1
theorem gY.cell {w:World} {g:Nat} {cur:Array Value} {e:TypeId} (h:gY w g cur e) (o:Nat):w.cell? ⟨g,o,none⟩ = cur[o]?:=by
 obtain⟨fz,h,_⟩:=h
 exact cell_of_row w g o cur e fz h
theorem gY.keep {cur:Array Value} {e:TypeId} (h:gY w g cur e) (z:w'.heap[g]?=w.heap[g]?):gY w' g cur e:=by
 obtain⟨fz,h,D⟩:=h
 exact⟨fz,z.trans h,D⟩
def IZ (S:Nat->Prop) (w:World):Nat->(k:K)->Value->List (ty k)->Prop
 | 0,_,_,_=>False
 | n+1,k,v,l=>∃a cap,v= .slice a l.length cap/\l.length<=cap/\l.length<=9223372036854775807/\
   (l≠[]->∃b off,a=some ⟨b,off,none⟩/\S b/\∀(i:Nat) x,l[i]?=some x->∀(j:Nat) lf,(aG x)[j]?=some lf->
    ∃u,w.cell? ⟨b,off+i*size k+j,none⟩ = some u/\match lf with
     | .sc q=>u=q/\sD q
     | .nest k' l'=>IZ S w n k' u l')
theorem IZ.mono {S S':Nat->Prop} {w w':World} (D:∀b,S b->S' b) (H:∀b o u,S b->w.cell? ⟨b,o,none⟩ = some u->w'.cell? ⟨b,o,none⟩ = some u) :
  ∀(n:Nat) {k:K} {v:Value} {l:List (ty k)},IZ S w n k v l->IZ S' w' n k v l
 | 0,_,_,_,h=>h.elim
 | n+1,k,v,l,h=>by
  obtain⟨a,cap,rfl,R,W,Y⟩:=h
  refine⟨a,cap,rfl,R,W,fun e=> ?_⟩
  obtain⟨b,off,rfl,I,h4⟩:=Y e
  refine⟨b,off,rfl,D b I,fun i x hx j lf z=> ?_⟩
  obtain⟨u,hu,M⟩:=h4 i x hx j lf z
  refine⟨u,H _ _ _ I hu,?_⟩
  cases lf with
  | sc q=>exact M
  | nest k' l'=>exact IZ.mono D H n M
theorem IZ.fuel {S:Nat->Prop} {w:World}:∀(n m:Nat) {k:K} {v:Value} {l:List (ty k)},AX k<n->AX k<m->IZ S w n k v l->IZ S w m k v l
 | 0,_,_,_,_,h,_,_=>absurd h (mL _)
 | _+1,0,_,_,_,_,h,_=>absurd h (mL _)
 | n+1,m+1,k,v,l,hn,hm,h=>by
  obtain⟨a,cap,rfl,H,I,M⟩:=h
  refine⟨a,cap,rfl,H,I,fun z=> ?_⟩
  obtain⟨b,off,rfl,R,W⟩:=M z
  refine⟨b,off,rfl,R,fun i x Y j lf e=> ?_⟩
  obtain⟨u,hu,D⟩:=W i x Y j lf e
  refine⟨u,hu,?_⟩
  cases lf with
  | sc q=>exact D
  | nest k' l'=>
   have hr:=CP x j k' l' e
   exact IZ.fuel n m (by omega) (by omega) D
def wY (S:Nat->Prop) (w:World) (k:K) (v:Value) (l:List (ty k)):Prop:=IZ S w (AX k+1) k v l
theorem wY.mono {S S':Nat->Prop} {w w':World} (e:∀b,S b->S' b) (z:∀b o u,S b->w.cell? ⟨b,o,none⟩ = some u->w'.cell? ⟨b,o,none⟩ = some u)
  {k:K} {v:Value} {l:List (ty k)} (h:wY S w k v l):wY S' w' k v l:=IZ.mono e z _ h
def mY (S:Nat->Prop) (w:World):d4->Value->Prop
 | .sc q,u=>u=q/\sD q
 | .nest k l,u=>wY S w k u l
theorem mY.mono {S S':Nat->Prop} {w w':World} (e:∀b,S b->S' b) (z:∀b o u,S b->w.cell? ⟨b,o,none⟩ = some u->w'.cell? ⟨b,o,none⟩ = some u) {lf:d4} {u:Value} (h:mY S w lf u):mY S' w' lf u:=by
 cases lf with
 | sc q=>exact h
 | nest k l=>exact wY.mono e z h
theorem aHv {lf:d4} (h:match lf with
     | .sc q=>u=q/\sD q
     | .nest k' e=>IZ S w n k' u e) (z:∀k' e,lf= .nest k' e->AX k'<n):mY S w lf u:=by
 cases lf with
 | sc v=>exact h
 | nest k' e=>exact IZ.fuel n _ (z k' e rfl) (cM _) h
def vR (S:Nat->Prop) (w:World) {k:K} (l:List (ty k)) (f:Nat->Option Value):Prop:=
 ∀(i:Nat) x,l[i]?=some x->∀(j:Nat) lf,(aG x)[j]?=some lf->∃u,f (i*size k+j)=some u/\mY S w lf u
theorem vR.mono {S S':Nat->Prop} {w w':World} {k:K} {l:List (ty k)} {f z:Nat->Option Value} (h:vR S w l f) (D:∀o u,f o=some u->z o=some u) (H:∀b,S b->S' b) (I:∀b o u,S b->w.cell? ⟨b,o,none⟩ = some u->w'.cell? ⟨b,o,none⟩ = some u):vR S' w' l z:=fun i x M j lf e=>by
 obtain⟨u,R,W⟩:=h i x M j lf e
 exact⟨u,D _ _ R,W.mono H I⟩
theorem wY.open {v:Value} {l:List (ty k)} (h:wY S w k v l):∃a cap,v= .slice a l.length cap/\l.length<=cap/\l.length<=9223372036854775807/\(l≠[]->∃b off,a=some ⟨b,off,none⟩/\S b/\vR S w l (fun o=>w.cell? ⟨b,off+o,none⟩)):=by
 obtain⟨a,cap,e,H,I,M⟩:=h
 refine⟨a,cap,e,H,I,fun D=> ?_⟩
 obtain⟨b,off,R,W,Y⟩:=M D
 refine⟨b,off,R,W,fun i x hx j lf z=> ?_⟩
 obtain⟨u,hu,h5⟩:=Y i x hx j lf z
 exact⟨u,by show w.cell? ⟨b,off+(i*size k+j),none⟩ = some u;rw[<-fE];exact hu,aHv h5 fun k' l' e=>CP x j k' l' (by rw[z,e])⟩
theorem wY.make {l:List (ty k)} {a:Option Addr} (H:l.length<=cap) (I:l.length<=9223372036854775807) (M:l≠[]->∃b off,a=some ⟨b,off,none⟩/\S b/\vR S w l (fun o=>w.cell? ⟨b,off+o,none⟩)):wY S w k (.slice a l.length cap) l:=by
 refine⟨a,cap,rfl,H,I,fun z=> ?_⟩
 obtain⟨b,off,R,W,Y⟩:=M z
 refine⟨b,off,R,W,fun i x hx j lf e=> ?_⟩
 obtain⟨u,hu,D⟩:=Y i x hx j lf e
 refine⟨u,by rw[fE];exact hu,?_⟩
 cases lf with
 | sc v=>exact D
 | nest k' l'=>exact IZ.fuel _ _ (cM _) (CP x j k' l' e) D
theorem wY.nil:wY S w k (.slice none 0 0) []:=⟨none,0,rfl,bB _,cT _,fun h=>absurd rfl h⟩
def C4 (S:Nat->Prop) (w:World) (b:Nat) {k:K} (l:List (ty k)) (cap:Nat) (cur:Array Value):Prop:=
 l.length<=9223372036854775807/\gY w b cur (mJ k)/\l.length<=cap/\cap<=maxLen/\cur.size=cap*size k/\vR S w l (fun o=>cur[o]?)
def G6 (S:Nat->Prop) (w:World) (k:K) (v:Value) (l:List (ty k)) (fp:List Nat):Prop:=
 (v= .slice none 0 0/\l=[]/\fp=[])∨∃g cap cur,v= .slice (some ⟨g,0,none⟩) l.length cap/\fp=[g]/\C4 S w g l cap cur
theorem C4.mono {S S':Nat->Prop} {w w':World} {b:Nat} {k:K} {l:List (ty k)} {cap:Nat} {cur:Array Value} (h:C4 S w b l cap cur) (e:w'.heap[b]?=w.heap[b]?) (z:∀b,S b->S' b) (D:∀b o u,S b->w.cell? ⟨b,o,none⟩ = some u->w'.cell? ⟨b,o,none⟩ = some u):C4 S' w' b l cap cur:=by
 obtain⟨H,I,M,R,W,Y⟩:=h
 exact⟨H,I.keep e,M,R,W,Y.mono (fun _ _ h=>h) z D⟩
theorem G6.mono {S S':Nat->Prop} {w w':World} {k:K} {v:Value} {l:List (ty k)} {fp:List Nat} (h:G6 S w k v l fp) (z:∀b∈fp,w'.heap[b]?=w.heap[b]?) (D:∀b,S b->S' b) (H:∀b o u,S b->w.cell? ⟨b,o,none⟩ = some u->w'.cell? ⟨b,o,none⟩ = some u):G6 S' w' k v l fp:=by
 rcases h with h|⟨g,cap,cur,I,e,M⟩
 ·exact .inl h
 ·exact .inr ⟨g,cap,cur,I,e,M.mono (z g (by rw[e];simp)) D H⟩
theorem G6.lt {S:Nat->Prop} {w:World} {k:K} {v:Value} {l:List (ty k)} {fp:List Nat} (h:G6 S w k v l fp):∀b∈fp,b<w.heap.size:=by
 rcases h with⟨_,_,rfl⟩ |⟨g,cap,cur,D,rfl,e⟩
 ·simp
 ·intro b z
  have:b=g:=by simpa using z
  subst this
  exact e.2.1.lt
theorem G6.nodup {v:Value} {l:List (ty k)} {fp:List Nat} (h:G6 S w k v l fp):fp.Nodup:=by
 rcases h with⟨_,_,rfl⟩ |⟨g,cap,cur,e,rfl,z⟩ <;>simp
theorem C4.row {l:List (ty k)} {c:Nat} {cur:Array Value} (h:C4 S w g l cap cur) (e:∀b,S b->S' b) (z:S' g) (D:l.length<=c):wY S' w k (.slice (some ⟨g,0,none⟩) l.length c) l:=by
 obtain⟨H,I,W,Y,h5,M⟩:=h
 exact wY.make D H fun _=>⟨g,0,rfl,z,M.mono (fun o u R=>by rw[bP,I.cell];exact R) e fun _ _ _ _ h=>h⟩
theorem G6.row {S S':Nat->Prop} {w:World} {k:K} {v:Value} {l:List (ty k)} {fp:List Nat} (h:G6 S w k v l fp) (D:∀b,S b->S' b) (e:∀b∈fp,S' b):wY S' w k v l:=by
 rcases h with⟨rfl,rfl,_⟩ |⟨g,cap,cur,rfl,rfl,z⟩
 ·exact wY.nil
 ·exact z.row D (e g (by simp)) z.2.2.1
def bZ {α J:Type} (R:α->J->List Nat->Prop):List α->List J->List Nat->Prop
 | [],[],L=>L=[]
 | a::as,b::bs,L=>∃L1 L2,L=L1++L2/\R a b L1/\bZ R as bs L2
 | _,_,_=>False
theorem bZ.mono {α J:Type} {R R':α->J->List Nat->Prop}:∀{as:List α} {bs:List J} {L:List Nat},(∀a b L',(∀x∈L',x∈L)->R a b L'->R' a b L')->bZ R as bs L->bZ R' as bs L
 | [],[],_,_,h=>h
 | _::_,_::_,L,D,⟨L1,L2,e,H,I⟩=>by
  subst e
  exact⟨L1,L2,rfl,D _ _ _ (fun x z=>by simp[z]) H,bZ.mono (fun a b L' M h=>D a b L' (fun x z=>by simp[M x z]) h) I⟩
 | [],_::_,_,_,h=>h.elim
 | _::_,[],_,_,h=>h.elim
theorem bZ.len {α J:Type} {R:α->J->List Nat->Prop}:∀{as:List α} {bs:List J} {L:List Nat},bZ R as bs L->as.length=bs.length
 | [],[],_,_=>rfl
 | _::_,_::_,_,⟨_,_,_,_,h⟩=>congrArg (· + 1) (bZ.len h)
 | [],_::_,_,h=>h.elim
 | _::_,[],_,h=>h.elim
theorem bZ.app {α J:Type} {R:α->J->List Nat->Prop}:∀{as z:List α} {bs D:List J} {L L2:List Nat},bZ R as bs L->bZ R z D L2->bZ R (as++z) (bs++D) (L++L2)
 | [],_,[],_,L,_,h,H=>by cases h;exact H
 | a::as,_,b::bs,_,L,_,⟨L1,L3,e,I,M⟩,H=>by
  subst e
  exact⟨L1,_,by rw[aQ],I,bZ.app M H⟩
 | [],_,_::_,_,_,_,h,_=>h.elim
 | _::_,_,[],_,_,_,h,_=>h.elim
theorem bZ.cut {α J:Type} {R:α->J->List Nat->Prop}:∀{as z:List α} {bs:List J} {L:List Nat},bZ R (as++z) bs L->∃D H L1 L2,bs=D++H/\L=L1++L2/\bZ R as D L1/\bZ R z H L2
 | [],z,bs,L,h=>⟨[],bs,[],L,rfl,rfl,rfl,h⟩
 | a::as,z,b::bs,L,⟨L1,L2,e,I,M⟩=>by
  obtain⟨D,H,M1,M2,rfl,rfl,W,Y⟩:=bZ.cut M
  subst e
  exact⟨b::D,H,L1++M1,M2,rfl,by rw[aQ],⟨L1,M1,rfl,I,W⟩,Y⟩
 | _::_,_,[],_,h=>h.elim
theorem bZ.at {α J:Type} {R:α->J->List Nat->Prop} {as:List α} {bs:List J} {L:List Nat} (h:bZ R as bs L) {p:Nat} {a:α} (W:as[p]?=some a) :
  ∃b L1 Lp L2,bs[p]?=some b/\L=L1++(Lp++L2)/\R a b Lp/\∀z D Lp',R z D Lp'->bZ R (as.set p z) (bs.set p D) (L1++(Lp'++L2)):=by
 have hp:=(iR.1 W).1
 have ea:as=as.take p++a::as.drop (p+1):=by
  have:=iR.1 W
  obtain⟨_,e⟩:=this
  rw[<-e,List.getElem_cons_drop,fW]
 have Y:(as.take p).length=p:=by rw[aF];omega
 rw[ea]at h
 obtain⟨M,I,L1,L2,rfl,rfl,h1,h2⟩:=bZ.cut h
 have H:M.length=p:=by rw[<-h1.len,Y]
 cases I with
 | nil=>exact h2.elim
 | cons b I=>
  obtain⟨Lp,L3,e,h3,h4⟩:=h2
  subst e
  refine⟨b,L1,Lp,L3,by rw[bI (by omega)];simp[H],rfl,h3,fun z D Lp' h5=> ?_⟩
  have e1:as.set p z=as.take p++z::as.drop (p+1):=by
   conv=>lhs;rw[ea]
   rw[List.set_append_right _ _ (by omega)]
   simp[Y]
  have e2:(M++b::I).set p D=M++D::I:=by
   rw[List.set_append_right _ _ (by omega)]
   simp[H]
  rw[e1,e2]
  exact h1.app ⟨Lp',L3,rfl,h5,h4⟩
def rV (w:World):Nat->(k:K)->Value->List (ty k)->List Nat->Prop
 | 0,_,_,_,_=>False
 | n+1,k,v,l,L=>(v= .slice none 0 0/\l=[]/\L=[])∨∃g cap cur L',v= .slice (some ⟨g,0,none⟩) l.length cap/\L=g::L'/\l.length<=9223372036854775807/\gY w g cur (mJ k)/\l.length<=cap/\cap<=maxLen/\cur.size=cap*size k/\
   bZ (fun lf u L=>match lf with
    | .sc q=>(u=q/\sD q)/\L=[]
    | .nest k' l'=>rV w n k' u l' L) (l.flatMap aG) (cur.toList.take (l.length*size k)) L'
def rQ (w:World) (k:K) (v:Value) (l:List (ty k)) (L:List Nat):Prop:=rV w (AX k+1) k v l L
def iE (w:World) (lf:d4) (u:Value) (L:List Nat):Prop:=match lf with
 | .sc q=>(u=q/\sD q)/\L=[]
 | .nest k l=>rQ w k u l L
theorem rV.keep {w w':World}:∀(n:Nat) {k:K} {v:Value} {l:List (ty k)} {L:List Nat},rV w n k v l L->(∀b∈L,w'.heap[b]?=w.heap[b]?)->rV w' n k v l L
 | 0,_,_,_,_,h,_=>h.elim
 | n+1,k,v,l,L,h,e=>by
  rcases h with h|⟨g,cap,cur,L',z,D,H,I,R,W,Y,h8⟩
  ·exact .inl h
  ·subst D
   refine .inr ⟨g,cap,cur,L',z,rfl,H,I.keep (e g (by simp)),R,W,Y,bZ.mono (fun lf u M hM h=> ?_) h8⟩
   cases lf with
   | sc q=>exact h
   | nest k' l'=>exact rV.keep n h fun b hb=>e b (by simp[hM b hb])
theorem rV.fuel {w:World}:∀(n m:Nat) {k:K} {v:Value} {l:List (ty k)} {L:List Nat},AX k<n->AX k<m->rV w n k v l L->rV w m k v l L
 | 0,_,_,_,_,_,h,_,_=>absurd h (mL _)
 | _+1,0,_,_,_,_,_,h,_=>absurd h (mL _)
 | n+1,m+1,k,v,l,L,hn,I,h=>by
  rcases h with h|⟨g,cap,cur,L',Y,h2,h3,h4,h5,h6,h7,h8⟩
  ·exact .inl h
  ·refine .inr ⟨g,cap,cur,L',Y,h2,h3,h4,h5,h6,h7,?_⟩
   have key:∀{as:List d4} {bs:List Value} {M:List Nat},(∀lf∈as,∀k' z,lf= .nest k' z->AX k'<AX k)->bZ (fun lf u L=>match lf with
    | .sc q=>(u=q/\sD q)/\L=[]
    | .nest k' z=>rV w n k' u z L) as bs M->bZ (fun lf u L=>match lf with
    | .sc q=>(u=q/\sD q)/\L=[]
    | .nest k' z=>rV w m k' u z L) as bs M:=by
    intro as
    induction as with
    | nil=>intro bs M _ h;cases bs<;>exact h
    | cons lf as ih=>
     intro bs M R h
     cases bs with
     | nil=>exact h.elim
     | cons u bs=>
      obtain⟨M1,M2,e,W,D⟩:=h
      refine⟨M1,M2,e,?_,ih (fun lf' I=>R lf' (aI _ I)) D⟩
      cases lf with
      | sc q=>exact W
      | nest k' z=>
       have:=R _ (aN ..) k' z rfl
       exact rV.fuel n m (by omega) (by omega) W
   refine key (fun lf H k' z e=> ?_) h8
   obtain⟨x,_,hx⟩:=List.mem_flatMap.1 H
   obtain⟨j,hj⟩:=bD hx
   exact CP x j k' z (by rw[hj,e])
theorem rQ.keep {w w':World} {k:K} {v:Value} {l:List (ty k)} {L:List Nat} (h:rQ w k v l L) (e:∀b∈L,w'.heap[b]?=w.heap[b]?):rQ w' k v l L:=rV.keep _ h e
theorem iE.keep {w w':World} {lf:d4} {v:Value} {L:List Nat} (h:iE w lf v L) (e:∀b∈L,w'.heap[b]?=w.heap[b]?):iE w' lf v L:=by
 cases lf with
 | sc q=>exact h
 | nest k l=>exact rQ.keep h e
def DAt (w:World) (b:Nat) {k:K} (l:List (ty k)) (cap:Nat) (cur:Array Value) (L:List Nat):Prop:=
 l.length<=9223372036854775807/\gY w b cur (mJ k)/\l.length<=cap/\cap<=maxLen/\cur.size=cap*size k/\bZ (iE w) (l.flatMap aG) (cur.toList.take (l.length*size k)) L
theorem aFj (Y:∀k',AX k'<AX k->AX k'<n) {l:List (ty k)}:bZ (fun lf u L=>match lf with
    | .sc q=>(u=q/\sD q)/\L=[]
    | .nest k' z=>rV w n k' u z L) (l.flatMap aG) us L↔bZ (iE w) (l.flatMap aG) us L:=by
 have key:∀(as:List d4) (bs:List Value) (M:List Nat),(∀lf∈as,∀k' z,lf= .nest k' z->AX k'<n)->(bZ (fun lf u L=>match lf with
    | .sc q=>(u=q/\sD q)/\L=[]
    | .nest k' z=>rV w n k' u z L) as bs M↔bZ (iE w) as bs M):=by
  intro as
  induction as with
  | nil=>intro bs M _;cases bs<;>exact Iff.rfl
  | cons lf as ih=>
   intro bs M R
   cases bs with
   | nil=>exact Iff.rfl
   | cons u bs=>
    have ih:=fun M=>ih bs M fun lf' hm=>R lf' (aI _ hm)
    have W:∀M1,(match lf with
    | .sc q=>(u=q/\sD q)/\M1=[]
    | .nest k' z=>rV w n k' u z M1)↔iE w lf u M1:=by
     intro M1
     cases lf with
     | sc q=>exact Iff.rfl
     | nest k' z=>
      have:=R _ (aN ..) k' z rfl
      exact⟨rV.fuel _ _ this (cM _),rV.fuel _ _ (cM _) this⟩
    exact⟨fun⟨M1,M2,e,D,H⟩=>⟨M1,M2,e,(W M1).1 D,(ih M2).1 H⟩,fun⟨M1,M2,e,D,H⟩=>⟨M1,M2,e,(W M1).2 D,(ih M2).2 H⟩⟩
 refine key _ _ _ fun lf I k' z e=> ?_
 obtain⟨x,_,hx⟩:=List.mem_flatMap.1 I
 obtain⟨j,hj⟩:=bD hx
 exact Y k' (CP x j k' z (by rw[hj,e]))
theorem iO {v:Value} {l:List (ty k)}:rQ w k v l L↔(v= .slice none 0 0/\l=[]/\L=[])∨∃g cap cur L',v= .slice (some ⟨g,0,none⟩) l.length cap/\L=g::L'/\DAt w g l cap cur L':=by
 have Y:=fun(us:List Value) (L:List Nat)=>aFj (w:=w) (k:=k) (n:=AX k) (fun _ h=>h) (l:=l) (us:=us) (L:=L)
 constructor
 ·rintro(h|⟨g,cap,cur,L',e,z,D,H,I,M,R,W⟩)
  ·exact .inl h
  ·exact .inr ⟨g,cap,cur,L',e,z,D,H,I,M,R,(Y _ _).1 W⟩
 ·rintro(h|⟨g,cap,cur,L',e,z,D,H,I,M,R,W⟩)
  ·exact .inl h
  ·exact .inr ⟨g,cap,cur,L',e,z,D,H,I,M,R,(Y _ _).2 W⟩
theorem DAt.keep {w w':World} {b:Nat} {k:K} {l:List (ty k)} {cap:Nat} {cur:Array Value} {L:List Nat} (h:DAt w b l cap cur L) (e:w'.heap[b]?=w.heap[b]?) (z:∀b∈L,w'.heap[b]?=w.heap[b]?):DAt w' b l cap cur L:=by
 obtain⟨D,H,I,R,W,Y⟩:=h
 exact⟨D,H.keep e,I,R,W,bZ.mono (fun a u M hM h=>iE.keep h fun b e=>z b (hM b e)) Y⟩
theorem DZ {k:K}:∀{l:List (ty k)} {i j:Nat} {x:ty k},l[i]?=some x->j<size k->(l.flatMap aG)[i*size k+j]?=(aG x)[j]?
 | y::l,0,j,x,h,e=>by
  simp at h;subst h
  rw[dD,bM (by rw[cP];omega)]
  congr 1;omega
 | y::l,i+1,j,x,h,e=>by
  rw[dD,bI (by rw[cP,cF];omega),cP,show(i+1)*size k+j-size k=i*size k+j by rw[cF];omega]
  exact DZ (by simpa using h) e
 | [],_,_,_,h,_=>by simp at h
theorem yW {k:K}:∀{l:List (ty k)},(l.flatMap aG).length=l.length*size k
 | []=>by simp
 | x::l=>by rw[dD,aW,cP,yW,cL,cF];omega
theorem rQ.row {S:Nat->Prop} {w:World}:∀(n:Nat) {k:K} {v:Value} {l:List (ty k)} {L:List Nat},AX k<n->rQ w k v l L->(∀b∈L,S b)->wY S w k v l
 | 0,_,_,_,_,h,_,_=>absurd h (mL _)
 | n+1,k,v,l,L,hn,h,D=>by
  rcases iO.1 h with⟨rfl,rfl,_⟩ |⟨g,cap,cur,L',rfl,rfl,M,R,W,h4,h5,Y⟩
  ·exact wY.nil
  ·refine wY.make W M fun hne=>⟨g,0,rfl,D g (by simp),fun i x H j lf e=> ?_⟩
   have hj:j<size k:=by have:=(iR.1 e).1;rwa[cP]at this
   have hi:=(iR.1 H).1
   obtain⟨u,M1,Mp,M2,z,e2,I,-⟩:=Y.at (p:=i*size k+j) (a:=lf) (by rw[DZ H hj];exact e)
   rw[aU]at z
   split at z
   case isFalse=>cases z
   refine⟨u,by show w.cell? ⟨g,0+(i*size k+j),none⟩ = some u;rw[bP,R.cell];simpa using z,?_⟩
   cases lf with
   | sc q=>exact I.1
   | nest k' l'=>exact rQ.row n (by have:=CP x j k' l' e;omega) I fun b hb=>D b (by rw[e2];simp[hb])
theorem DAt.cont {l:List (ty k)} {cur:Array Value} (h:DAt w b l cap cur L) (H:∀b∈L,S b):C4 S w b l cap cur:=by
 obtain⟨I,M,R,W,Y,h6⟩:=h
 refine⟨I,M,R,W,Y,fun i x hx j lf e=> ?_⟩
 have hj:j<size k:=by have:=(iR.1 e).1;rwa[cP]at this
 obtain⟨u,M1,Mp,M2,z,e2,D,-⟩:=h6.at (p:=i*size k+j) (a:=lf) (by rw[DZ hx hj];exact e)
 rw[aU]at z
 split at z
 case isFalse=>cases z
 refine⟨u,by simpa using z,?_⟩
 cases lf with
 | sc q=>exact D.1
 | nest k' l'=>exact rQ.row _ (cM _) D fun b hb=>H b (by rw[e2];simp[hb])
open Go.RowKit
inductive PV where
 | v (x:Value)
 | nil
 | row (own:Bool) (k:K) (l:List (ty k))
 | ref (id ver off n:Nat) (full:Bool)
 | ptr (id ver i j:Nat)
 | eptr (k:K) (l:List (ty k)) (i j:Nat)
 | agg (cs:List PV)
 | tup (vs:List PV)
 | fn (f:FuncId) (caps:List PV)
 | obj (o:Obj)
 | un
 | dead
 | drow (k:K) (l:List (ty k))
 | gb (r:PV) (back:List PV)
instance:Inhabited PV:=⟨.dead⟩
variable {p v:PV}
inductive oE where
 | box (cs:List PV)
 | rowb (k:K) (l:List (ty k))
 | rowd (k:K) (l:List (ty k))
 | rowx (k:K) (l:List (ty k)) (i:Nat) (cs:List PV)
 | objb (o:Obj)
 | iterb (mid mver since:Nat) (seen:Array Nat) (stepped:Nat)
inductive kR:oE->(k:K)->List (ty k)->Prop
 | b {k:K} {l:List (ty k)}:kR (.rowb k l) k l
 | d {k:K} {l:List (ty k)}:kR (.rowd k l) k l
 | x {k:K} {l:List (ty k)} {i:Nat} {cs:List PV}:kR (.rowx k l i cs) k l
inductive l3:oE->(k:K)->List (ty k)->Prop
 | b {k:K} {l:List (ty k)}:l3 (.rowb k l) k l
 | d {k:K} {l:List (ty k)}:l3 (.rowd k l) k l
theorem l3.row {b:oE} {l:List (ty k)} (h:l3 b k l):kR b k l:=by cases h<;>constructor
def QW (o:Obj) (b:Nat):Value:=match o with
 | .map _ _=> .map (some b)
 | _=> .pointer (some ⟨b,0,none⟩)
structure Ent where
 ver:Nat
 blk:Option oE
abbrev cU:=Nat->Ent
variable {s s' σ:cU}
structure gU where
 t:Nat->PV
 s:cU
variable {Z:gU}
def eN {α:Type} (f:Nat->α) (i:Nat) (a:α):Nat->α:=fun j=>if j=i then a else f j
theorem aD (f:Nat->α) (i:Nat) (a:α):eN f i a i=a:=if_pos rfl
theorem bU (f:Nat->α) (a:α) (h:j≠i):eN f i a j=f j:=if_neg h
def bC {α J:Type} (R:α->J->Prop):List α->List J->Prop
 | [],[]=>True
 | a::as,b::bs=>R a b/\bC R as bs
 | _,_=>False
theorem bC.mono {α J:Type} {R R':α->J->Prop} (h:∀a b,R a b->R' a b):∀{as:List α} {bs:List J},bC R as bs->bC R' as bs
 | [],[],_=>trivial
 | _::_,_::_,⟨e,z⟩=>⟨h _ _ e,bC.mono h z⟩
theorem bC.len {α J:Type} {R:α->J->Prop}:∀{as:List α} {bs:List J},bC R as bs->as.length=bs.length
 | [],[],_=>rfl
 | _::_,_::_,⟨_,e⟩=>congrArg (· + 1) (bC.len e)
theorem bC.get {α J:Type} {R:α->J->Prop}:∀{as:List α} {bs:List J},bC R as bs->∀(i:Nat) a,as[i]?=some a->∃b,bs[i]?=some b/\R a b
 | a::as,b::bs,⟨z,D⟩,0,x,e=>by simp at e;subst e;exact⟨b,rfl,z⟩
 | a::as,b::bs,⟨z,D⟩,i+1,x,e=>by simpa using bC.get D i x (by simpa using e)
 | [],[],_,i,x,e=>by simp at e
section
variable (S:Nat->Prop) (w:World) (J:Nat->Option (Nat×Nat)) (σ:cU)
def oF (id ver off n:Nat) (full:Bool) (u:Value):Prop:=
 ver<=(σ id).ver/\(∃p n' c,u= .slice p n' c)/\∀blk k l,σ id=⟨ver,some blk⟩->kR blk k l->off+n<=l.length/\((J id=none/\u= .slice none 0 0)∨∃b c o,J id=some (b,0)/\n<=c/\u= .slice (some ⟨b,o,none⟩) n c/\(n≠0∨full=true->o=off*size k)/\
  (full=true->off=0/\n=l.length/\∀cur E fz,w.heap[b]?=some (.cells cur E fz)->cur.size=c*size k))
def uE (id ver i j:Nat) (u:Value):Prop:=
 ver<=(σ id).ver/\((∃p,u= .pointer (some p))∨∃p,u= .map (some p))/\∀blk,σ id=⟨ver,some blk⟩->∃b off,J id=some (b,off)/\match blk with
  | .box _=>u= .pointer (some ⟨b,off+j,none⟩)
  | .rowb k l=>off=0/\i<l.length/\u= .pointer (some ⟨b,i*size k+j,none⟩)
  | .rowd k l=>off=0/\i<l.length/\u= .pointer (some ⟨b,i*size k+j,none⟩)
  | .rowx k l _ _=>off=0/\i<l.length/\u= .pointer (some ⟨b,i*size k+j,none⟩)
  | .objb o=>j=0->off=0/\u=QW o b
  | .iterb _ _ _ _ _=>j=0->off=0/\u= .pointer (some ⟨b,0,none⟩)
def DB:PV->Value->Prop
 | .v x,u=>u=x/\sD x
 | .nil,u=>u= .slice none 0 0
 | .row own k l,u=>own=false/\wY S w k u l
 | .ref id ver off n full,u=>oF w J σ id ver off n full u
 | .ptr id ver i j,u=>uE J σ id ver i j u
 | .eptr k l i j,u=>∃b off,i<l.length/\u= .pointer (some ⟨b,off+i*size k+j,none⟩)/\wY S w k (.slice (some ⟨b,off,none⟩) l.length l.length) l
 | .un,u=>u=undef
 | .dead,_=>True
 | _,_=>False
def e9:PV->Value->Prop
 | .fn f caps,u=>∃us,u= .func (.func f) #[] us/\bC (DB S w J σ) caps us.toList
 | p,u=>DB S w J σ p u
def GA:PV->Value->Prop
 | .agg cs,u=>∃us,u= .agg us/\bC (e9 S w J σ) cs us.toList
 | p,u=>e9 S w J σ p u
def gM:PV->Value->Prop
 | .tup vs,u=>∃us,u= .tuple us/\bC (GA S w J σ) vs us.toList
 | p,u=>GA S w J σ p u
def yE (N:List Nat) (id:Nat):oE->Prop
 | .box cs=>∃b off cur E,J id=some (b,off)/\N=[b]/\gY w b cur E/\off+cs.length<=cur.size/\∀(j:Nat) p,cs[j]?=some p->∃u,cur[off+j]?=some u/\u.oneCell'=true/\e9 S w J σ p u
 | .rowb k l=>(J id=none/\l=[]/\N=[])∨∃b cap cur,J id=some (b,0)/\N=[b]/\C4 S w b l cap cur
 | .rowd k l=>(J id=none/\l=[]/\N=[])∨∃b cap cur L,J id=some (b,0)/\N=b::L/\DAt w b l cap cur L
 | .rowx k l i cs=>∃b cap cur L1 L2,J id=some (b,0)/\N=b::(L1++L2)/\l.length<=9223372036854775807/\gY w b cur (mJ k)/\l.length<=cap/\cap<=maxLen/\cur.size=cap*size k/\i<l.length/\cs.length=size k/\
   (∀(j:Nat) p,cs[j]?=some p->∃u,cur[i*size k+j]?=some u/\u.oneCell'=true/\e9 S w J σ p u)/\
   bZ (iE w) ((l.take i).flatMap aG) (cur.toList.take (i*size k)) L1/\bZ (iE w) ((l.drop (i+1)).flatMap aG) ((cur.toList.take (l.length*size k)).drop ((i+1)*size k)) L2
 | .objb o=>∃b,J id=some (b,0)/\N=[b]/\w.heap[b]?=some o
 | .iterb mid mver since seen stepped=>∃b m,J id=some (b,0)/\N=[b]/\w.heap[b]?=some (.mapIter (some m) since seen stepped)/\uE J σ mid mver 0 0 (.map (some m))
end
def Occ (N:Nat->List Nat) (σ:cU) (b:Nat):Prop:=∃id blk,(σ id).blk=some blk/\b∈N id
structure mM where
 w0:World
 F:List Nat
 ext:List (Nat×Nat)
 lens:List Nat
 E:World->Prop
 S:Nat->Prop
 few:ext.length<=49
 rx:Nat->Option (Value×Nat)
 G:Nat
 hG:∀b∈F,G<=b
 hw:G<=w0.heap.size
 cl:∀w w':World,E w->(∀b,b<G->w'.heap[b]?=w.heap[b]?)->E w'
def Fz (X:mM) (w:World) (N:Nat->List Nat) (σ:cU) (b:Nat):Prop:=b<w.heap.size/\¬Occ N σ b/\(X.S b∨b∈X.F∨X.w0.heap.size<=b)
structure Frm (X:mM) (w:World):Prop where
 os:w.os=X.w0.os
 tape:w.tape=X.w0.tape
 output:w.output=X.w0.output
 size:X.w0.heap.size<=w.heap.size
 old:∀b,b<X.w0.heap.size->b∉X.F->w.heap[b]?=X.w0.heap[b]?
 part:∀(j b off n:Nat),X.ext[j]?=some (b,off)->X.lens[j]?=some n->∃(c0 c:Array Value) (E:TypeId) (fz:Nat×Nat),X.w0.heap[b]?=some (Obj.cells c0 E fz)/\w.heap[b]?=some (Obj.cells c E fz)/\c.size=c0.size/\∀o,o<off∨off+n<=o->c[o]?=c0[o]?
structure lN (X:mM) (S:Nat->Prop) (Z:gU) (w:World) (tm:Array Value) (J:Nat->Option (Nat×Nat)) (N:Nat->List Nat):Prop where
 tmp:∀(t:Nat) u,tm[t]?=some u->gM S w J Z.s (Z.t t) u
 blk:∀id b,(Z.s id).blk=some b->yE S w J Z.s (N id) id b
 lt:∀id b,(Z.s id).blk=some b->∀x∈N id,x<w.heap.size
 nodup:∀id b,(Z.s id).blk=some b->(N id).Nodup
 disj:∀id id' b b',(Z.s id).blk=some b->(Z.s id').blk=some b'->id≠id'->∀x∈N id,x∉N id'
 new:∀id b,(Z.s id).blk=some b->∀x∈N id,x∈X.F∨X.w0.heap.size<=x
 ext:∀j p,X.ext[j]?=some p->J j=some p/\∃cs,(Z.s j).blk=some (.box cs)/\X.lens[j]?=some cs.length
 rxt:∀q u n,X.rx q=some (u,n)->q<49/\∃blk k l,Z.s (50+q)=⟨0,some blk⟩/\kR blk k l/\l.length=n/\oF w J Z.s (50+q) 0 0 n true u
 frm:Frm X w
 env:X.E w
 fz:∀b,S b->Fz X w N Z.s b
abbrev St (X:mM) (Z:gU) (w:World) (tm:Array Value) (J:Nat->Option (Nat×Nat)) (N:Nat->List Nat):Prop:=lN X (Fz X w N Z.s) Z w tm J N
def oL:aA->d4->Prop
 | .sc v,l=>sD v->l= .sc v
 | .nest k x,l=>l= .nest k x
 | .nl,l=>∃k,l= .nest k []
theorem aA.list_spec {c:aA} {l:List (ty k)} (h:c.list k=some l):oL c (.nest k l):=by
 unfold aA.list at h
 cases c with
 | sc v=>cases h
 | nl=>cases h;exact⟨k,rfl⟩
 | nest k' z=>
  simp only at h
  split at h
  ·rename_i e;subst e;cases h;rfl
  ·cases h
theorem aMO {n:Int} (h:sD (.int .u8 n)):((UInt8.ofNat n.toNat).toNat:Int)=n:=by
 have e:n % 256=n:=h
 have z:(UInt8.ofNat n.toNat).toNat=n.toNat % 256:=UInt8.toNat_ofNat'
 omega
theorem aA.int_spec {k:IntKind} {c:aA} {n:Int} (h:c.int k=some n):oL c (.sc (.int k n)):=by
 unfold aA.int at h
 split at h
 ·split at h
  ·rename_i e;cases h;subst e;exact fun _=>rfl
  ·cases h
 ·cases h
theorem aA.u8_spec {c:aA} {n:UInt8} (h:c.u8=some n):oL c (.sc (.int .u8 n.toNat)):=by
 unfold aA.u8 at h;split at h<;>cases h;exact fun e=>by rw[aMO e]
theorem aA.str_spec {c:aA} {n:ByteArray} (h:c.str=some n):oL c (.sc (.string n)):=by
 unfold aA.str at h;split at h<;>cases h;exact fun _=>rfl
theorem aA.bool_spec {c:aA} {n:Bool} (h:c.bool=some n):oL c (.sc (.bool n)):=by
 unfold aA.bool at h;split at h<;>cases h;exact fun _=>rfl
theorem aBc {ls:List aA} {x:ty .int} (h:aDg ls=some x):bC oL ls (aG x):=by
 unfold aDg at h
 split at h
 ·simp only[aC,Option.some.injEq]at h
  obtain⟨z,e,rfl⟩:=h
  exact⟨aA.int_spec e,trivial⟩
 ·cases h
theorem YN {ls:List aA} {x:ty .bool} (h:YM ls=some x):bC oL ls (aG x):=by
 unfold YM at h
 split at h
 ·simp only[aC,Option.some.injEq]at h
  obtain⟨z,e,rfl⟩:=h
  exact⟨aA.bool_spec e,trivial⟩
 ·cases h
theorem aDk {ls:List aA} {x:ty .u8} (h:aHH ls=some x):bC oL ls (aG x):=by
 unfold aHH at h
 split at h
 ·simp only[aC,Option.some.injEq]at h
  obtain⟨z,e,rfl⟩:=h
  exact⟨aA.u8_spec e,trivial⟩
 ·cases h
theorem aBf {ls:List aA} {x:ty .str} (h:aDj ls=some x):bC oL ls (aG x):=by
 unfold aDj at h
 split at h
 ·simp only[aC,Option.some.injEq]at h
  obtain⟨z,e,rfl⟩:=h
  exact⟨aA.str_spec e,trivial⟩
 ·cases h
theorem YP {ls:List aA} {x:ty .iAsk} (h:YO ls=some x):bC oL ls (aG x):=by
 unfold YO at h
 split at h
 ·simp only[aC,Option.some.injEq]at h
  obtain⟨R,e,W,z,Y,D,x3,H,x4,I,x5,M,rfl⟩:=h
  exact⟨aA.int_spec e,aA.str_spec z,aA.str_spec D,aA.int_spec H,aA.int_spec I,aA.int_spec M,trivial⟩
 ·cases h
theorem TY {ls:List aA} {x:ty .iAttr} (h:QX ls=some x):bC oL ls (aG x):=by
 unfold QX at h
 split at h
 ·simp only[aC,Option.some.injEq]at h
  obtain⟨M,e,R,z,W,D,Y,H,x4,I,rfl⟩:=h
  exact⟨aA.int_spec e,aA.int_spec z,aA.bool_spec D,aA.bool_spec H,aA.bool_spec I,trivial⟩
 ·cases h
theorem UH {ls:List aA} {x:ty .lAttr} (h:RF ls=some x):bC oL ls (aG x):=by
 unfold RF at h
 split at h
 ·simp only[aC,Option.some.injEq]at h
  obtain⟨M,e,R,z,W,D,Y,H,x4,I,rfl⟩:=h
  exact⟨aA.int_spec e,aA.int_spec z,aA.bool_spec D,aA.bool_spec H,aA.bool_spec I,trivial⟩
 ·cases h
theorem UN {ls:List aA} {x:ty .lLink} (h:RM ls=some x):bC oL ls (aG x):=by
 unfold RM at h
 split at h
 ·simp only[aC,Option.some.injEq]at h
  obtain⟨D,e,H,z,rfl⟩:=h
  exact⟨aA.str_spec e,aA.int_spec z,trivial⟩
 ·cases h
theorem UT {ls:List aA} {x:ty .lTurn} (h:RU ls=some x):bC oL ls (aG x):=by
 unfold RU at h
 split at h
 ·simp only[aC,Option.some.injEq]at h
  obtain⟨I,e,M,z,R,D,W,H,rfl⟩:=h
  exact⟨aA.int_spec e,aA.str_spec z,aA.str_spec D,aA.int_spec H,trivial⟩
 ·cases h
theorem YZ {ls:List aA} {x:ty .lAsk} (h:YY ls=some x):bC oL ls (aG x):=by
 unfold YY at h
 split at h
 ·simp only[aC,Option.some.injEq]at h
  obtain⟨R,e,W,z,Y,D,x3,H,x4,I,x5,M,rfl⟩:=h
  exact⟨aA.int_spec e,aA.str_spec z,aA.str_spec D,aA.int_spec H,aA.int_spec I,aA.int_spec M,trivial⟩
 ·cases h
theorem UC {ls:List aA} {x:ty .iProc} (h:Q8 ls=some x):bC oL ls (aG x):=by
 unfold Q8 at h
 split at h
 ·simp only[aC,Option.some.injEq]at h
  obtain⟨D,e,H,z,rfl⟩:=h
  exact⟨aA.int_spec e,aA.int_spec z,trivial⟩
 ·cases h
theorem T9 {ls:List aA} {x:ty .iLink} (h:Q5 ls=some x):bC oL ls (aG x):=by
 unfold Q5 at h
 split at h
 ·simp only[aC,Option.some.injEq]at h
  obtain⟨D,e,H,z,rfl⟩:=h
  exact⟨aA.str_spec e,aA.int_spec z,trivial⟩
 ·cases h
theorem UG {ls:List aA} {x:ty .iTurn} (h:RE ls=some x):bC oL ls (aG x):=by
 unfold RE at h
 split at h
 ·simp only[aC,Option.some.injEq]at h
  obtain⟨I,e,M,z,R,D,W,H,rfl⟩:=h
  exact⟨aA.int_spec e,aA.str_spec z,aA.str_spec D,aA.int_spec H,trivial⟩
 ·cases h
theorem UA {ls:List aA} {x:ty .iNode} (h:Q6 ls=some x):bC oL ls (aG x):=by
 unfold Q6 at h
 split at h
 ·simp only[aC,Option.some.injEq]at h
  obtain⟨H,e,I,z,M,D,rfl⟩:=h
  exact⟨aA.int_spec e,aA.bool_spec z,aA.int_spec D,trivial⟩
 ·cases h
theorem UQ {ls:List aA} {x:ty .lProc} (h:RP ls=some x):bC oL ls (aG x):=by
 unfold RP at h
 split at h
 ·simp only[aC,Option.some.injEq]at h
  obtain⟨D,e,H,z,rfl⟩:=h
  exact⟨aA.int_spec e,aA.int_spec z,trivial⟩
 ·cases h
theorem TZ {ls:List aA} {x:ty .iCell} (h:QY ls=some x):bC oL ls (aG x):=by
 unfold QY at h
 split at h
 ·simp only[aC,Option.some.injEq]at h
  obtain⟨R,e,W,z,Y,D,x3,H,x4,I,x5,M,rfl⟩:=h
  exact⟨aA.int_spec e,aA.int_spec z,aA.int_spec D,aA.bool_spec H,aA.bool_spec I,aA.bool_spec M,trivial⟩
 ·cases h
theorem UD {ls:List aA} {x:ty .iRect} (h:Q9 ls=some x):bC oL ls (aG x):=by
 unfold Q9 at h
 split at h
 ·simp only[aC,Option.some.injEq]at h
  obtain⟨M,e,R,z,W,D,Y,H,x4,I,rfl⟩:=h
  exact⟨aA.int_spec e,aA.int_spec z,aA.int_spec D,aA.int_spec H,aA.int_spec I,trivial⟩
 ·cases h
theorem UO {ls:List aA} {x:ty .lNode} (h:RN ls=some x):bC oL ls (aG x):=by
 unfold RN at h
 split at h
 ·simp only[aC,Option.some.injEq]at h
  obtain⟨H,e,I,z,M,D,rfl⟩:=h
  exact⟨aA.int_spec e,aA.bool_spec z,aA.int_spec D,trivial⟩
 ·cases h
theorem UI {ls:List aA} {x:ty .lCell} (h:RG ls=some x):bC oL ls (aG x):=by
 unfold RG at h
 split at h
 ·simp only[aC,Option.some.injEq]at h
  obtain⟨R,e,W,z,Y,D,x3,H,x4,I,x5,M,rfl⟩:=h
  exact⟨aA.int_spec e,aA.int_spec z,aA.int_spec D,aA.bool_spec H,aA.bool_spec I,aA.bool_spec M,trivial⟩
 ·cases h
theorem RS {ls:List aA} {x:ty .lTable} (h:LY ls=some x):bC oL ls (aG x):=by
 unfold LY at h
 split at h
 ·simp only[aC,Option.some.injEq]at h
  obtain⟨H,e,I,z,M,D,rfl⟩:=h
  exact⟨aA.int_spec e,aA.list_spec z,aA.list_spec D,trivial⟩
 ·cases h
theorem RC {ls:List aA} {x:ty .iTable} (h:LV ls=some x):bC oL ls (aG x):=by
 unfold LV at h
 split at h
 ·simp only[aC,Option.some.injEq]at h
  obtain⟨H,e,I,z,M,D,rfl⟩:=h
  exact⟨aA.int_spec e,aA.list_spec z,aA.list_spec D,trivial⟩
 ·cases h
theorem aBd {ls:List aA} {x:ty .lOp} (h:aDh ls=some x):bC oL ls (aG x):=by
 unfold aDh at h
 split at h
 ·simp only[aC,Option.some.injEq]at h
  obtain⟨Y,e,x1,z,x2,D,x3,H,x4,I,x5,M,x6,R,x7,W,rfl⟩:=h
  exact⟨aA.int_spec e,aA.int_spec z,aA.int_spec D,aA.int_spec H,aA.str_spec I,aA.str_spec M,aA.str_spec R,aA.list_spec W,trivial⟩
 ·cases h
theorem UM {ls:List aA} {x:ty .lHist} (h:RL ls=some x):bC oL ls (aG x):=by
 unfold RL at h
 split at h
 ·simp only[aC,Option.some.injEq]at h
  obtain⟨x0,e,x1,z,x2,D,x3,H,x4,I,x5,M,x6,R,x7,W,x8,Y,rfl⟩:=h
  exact⟨aA.bool_spec e,aA.int_spec z,aA.int_spec D,aA.int_spec H,aA.int_spec I,aA.str_spec M,aA.str_spec R,aA.str_spec W,aA.list_spec Y,trivial⟩
 ·cases h
theorem aBa {ls:List aA} {x:ty .iOp} (h:aDe ls=some x):bC oL ls (aG x):=by
 unfold aDe at h
 split at h
 ·simp only[aC,Option.some.injEq]at h
  obtain⟨Y,e,x1,z,x2,D,x3,H,x4,I,x5,M,x6,R,x7,W,rfl⟩:=h
  exact⟨aA.int_spec e,aA.int_spec z,aA.int_spec D,aA.int_spec H,aA.str_spec I,aA.str_spec M,aA.str_spec R,aA.list_spec W,trivial⟩
 ·cases h
theorem T8 {ls:List aA} {x:ty .iHist} (h:Q4 ls=some x):bC oL ls (aG x):=by
 unfold Q4 at h
 split at h
 ·simp only[aC,Option.some.injEq]at h
  obtain⟨x0,e,x1,z,x2,D,x3,H,x4,I,x5,M,x6,R,x7,W,x8,Y,rfl⟩:=h
  exact⟨aA.bool_spec e,aA.int_spec z,aA.int_spec D,aA.int_spec H,aA.int_spec I,aA.str_spec M,aA.str_spec R,aA.str_spec W,aA.list_spec Y,trivial⟩
 ·cases h
theorem UE {ls:List aA} {x:ty .iSess} (h:RA ls=some x):bC oL ls (aG x):=by
 unfold RA at h
 split at h
 ·simp only[aC,Option.some.injEq]at h
  obtain⟨H,e,I,z,M,D,rfl⟩:=h
  exact⟨aA.str_spec e,aA.list_spec z,aA.int_spec D,trivial⟩
 ·cases h
theorem YX {ls:List aA} {x:ty .iWin} (h:YW ls=some x):bC oL ls (aG x):=by
 unfold YW at h
 split at h
 ·simp only[aC,Option.some.injEq]at h
  obtain⟨M,e,R,z,W,D,Y,H,x4,I,rfl⟩:=h
  exact⟨aA.int_spec e,aA.str_spec z,aA.list_spec D,aA.int_spec H,aA.bool_spec I,trivial⟩
 ·cases h
theorem aBb {ls:List aA} {x:ty .iVp} (h:aDf ls=some x):bC oL ls (aG x):=by
 unfold aDf at h
 split at h
 ·simp only[aC,Option.some.injEq]at h
  obtain⟨I,e,M,z,R,D,W,H,rfl⟩:=h
  exact⟨aA.int_spec e,aA.bool_spec z,aA.list_spec D,aA.list_spec H,trivial⟩
 ·cases h
theorem T7 {ls:List aA} {x:ty .iGrid} (h:Q3 ls=some x):bC oL ls (aG x):=by
 unfold Q3 at h
 split at h
 ·simp only[aC,Option.some.injEq]at h
  obtain⟨H,e,I,z,M,D,rfl⟩:=h
  exact⟨aA.int_spec e,aA.int_spec z,aA.list_spec D,trivial⟩
 ·cases h
theorem aBe {ls:List aA} {x:ty .lVp} (h:aDi ls=some x):bC oL ls (aG x):=by
 unfold aDi at h
 split at h
 ·simp only[aC,Option.some.injEq]at h
  obtain⟨I,e,M,z,R,D,W,H,rfl⟩:=h
  exact⟨aA.int_spec e,aA.bool_spec z,aA.list_spec D,aA.list_spec H,trivial⟩
 ·cases h
theorem UL {ls:List aA} {x:ty .lGrid} (h:RK ls=some x):bC oL ls (aG x):=by
 unfold RK at h
 split at h
 ·simp only[aC,Option.some.injEq]at h
  obtain⟨H,e,I,z,M,D,rfl⟩:=h
  exact⟨aA.int_spec e,aA.int_spec z,aA.list_spec D,trivial⟩
 ·cases h
theorem Y7 {ls:List aA} {x:ty .lWin} (h:Y6 ls=some x):bC oL ls (aG x):=by
 unfold Y6 at h
 split at h
 ·simp only[aC,Option.some.injEq]at h
  obtain⟨M,e,R,z,W,D,Y,H,x4,I,rfl⟩:=h
  exact⟨aA.int_spec e,aA.str_spec z,aA.list_spec D,aA.int_spec H,aA.bool_spec I,trivial⟩
 ·cases h
theorem UR {ls:List aA} {x:ty .lSess} (h:RQ ls=some x):bC oL ls (aG x):=by
 unfold RQ at h
 split at h
 ·simp only[aC,Option.some.injEq]at h
  obtain⟨H,e,I,z,M,D,rfl⟩:=h
  exact⟨aA.str_spec e,aA.list_spec z,aA.int_spec D,trivial⟩
 ·cases h
theorem UK {ls:List aA} {x:ty .lFile} (h:RJ ls=some x):bC oL ls (aG x):=by
 unfold RJ at h
 split at h
 ·simp only[aC,Option.some.injEq]at h
  obtain⟨H,e,I,z,M,D,rfl⟩:=h
  exact⟨aA.int_spec e,aA.list_spec z,aA.int_spec D,trivial⟩
 ·cases h
theorem T6 {ls:List aA} {x:ty .iFile} (h:Q2 ls=some x):bC oL ls (aG x):=by
 unfold Q2 at h
 split at h
 ·simp only[aC,Option.some.injEq]at h
  obtain⟨H,e,I,z,M,D,rfl⟩:=h
  exact⟨aA.int_spec e,aA.list_spec z,aA.int_spec D,trivial⟩
 ·cases h
theorem Y1 {ls:List aA} {x:ty .lRow} (h:Y0 ls=some x):bC oL ls (aG x):=by
 unfold Y0 at h
 split at h
 ·simp only[aC,Option.some.injEq]at h
  obtain⟨z,e,rfl⟩:=h
  exact⟨aA.list_spec e,trivial⟩
 ·cases h
theorem YR {ls:List aA} {x:ty .iRow} (h:YQ ls=some x):bC oL ls (aG x):=by
 unfold YQ at h
 split at h
 ·simp only[aC,Option.some.injEq]at h
  obtain⟨z,e,rfl⟩:=h
  exact⟨aA.list_spec e,trivial⟩
 ·cases h
theorem UJ {ls:List aA} {x:ty .lDisk} (h:RI ls=some x):bC oL ls (aG x):=by
 unfold RI at h
 split at h
 ·simp only[aC,Option.some.injEq]at h
  obtain⟨R,e,W,z,Y,D,x3,H,x4,I,x5,M,rfl⟩:=h
  exact⟨aA.int_spec e,aA.int_spec z,aA.int_spec D,aA.list_spec H,aA.list_spec I,aA.list_spec M,trivial⟩
 ·cases h
theorem RH {ls:List aA} {x:ty .lDepot} (h:LW ls=some x):bC oL ls (aG x):=by
 unfold LW at h
 split at h
 ·simp only[aC,Option.some.injEq]at h
  obtain⟨x0,e,x1,z,x2,D,x3,H,x4,I,x5,M,x6,R,x7,W,x8,Y,x9,h9,rfl⟩:=h
  exact⟨aA.int_spec e,aA.int_spec z,aA.int_spec D,aA.list_spec H,aA.list_spec I,aA.list_spec M,aA.int_spec R,aA.int_spec W,aA.int_spec Y,aA.bool_spec h9,trivial⟩
 ·cases h
theorem T5 {ls:List aA} {x:ty .iDisk} (h:Q1 ls=some x):bC oL ls (aG x):=by
 unfold Q1 at h
 split at h
 ·simp only[aC,Option.some.injEq]at h
  obtain⟨R,e,W,z,Y,D,x3,H,x4,I,x5,M,rfl⟩:=h
  exact⟨aA.int_spec e,aA.int_spec z,aA.int_spec D,aA.list_spec H,aA.list_spec I,aA.list_spec M,trivial⟩
 ·cases h
theorem QZ {ls:List aA} {x:ty .iDepot} (h:LT ls=some x):bC oL ls (aG x):=by
 unfold LT at h
 split at h
 ·simp only[aC,Option.some.injEq]at h
  obtain⟨x0,e,x1,z,x2,D,x3,H,x4,I,x5,M,x6,R,x7,W,x8,Y,x9,h9,rfl⟩:=h
  exact⟨aA.int_spec e,aA.int_spec z,aA.int_spec D,aA.list_spec H,aA.list_spec I,aA.list_spec M,aA.int_spec R,aA.int_spec W,aA.int_spec Y,aA.bool_spec h9,trivial⟩
 ·cases h
theorem YT {ls:List aA} {x:ty .iScr} (h:YS ls=some x):bC oL ls (aG x):=by
 unfold YS at h
 split at h
 ·simp only[aC,Option.some.injEq]at h
  obtain⟨x0,h0,x1,h1,x2,h2,x3,h3,x4,h4,x5,h5,x6,h6,x7,h7,x8,h8,x9,h9,x10,e,x11,z,x12,D,x13,H,x14,I,x15,M,x16,R,x17,W,x18,Y,x19,h19,x20,h20,x21,h21,x22,h22,x23,h23,x24,h24,x25,h25,x26,h26,x27,h27,x28,h28,x29,h29,x30,h30,rfl⟩:=h
  exact⟨aA.int_spec h0,aA.int_spec h1,aA.int_spec h2,aA.int_spec h3,aA.list_spec h4,aA.int_spec h5,aA.int_spec h6,aA.list_spec h7,aA.bool_spec h8,aA.int_spec h9,aA.int_spec e,aA.bool_spec z,aA.int_spec D,aA.int_spec H,aA.bool_spec I,aA.bool_spec M,aA.bool_spec R,aA.int_spec W,aA.int_spec Y,aA.bool_spec h19,aA.bool_spec h20,aA.int_spec h21,aA.int_spec h22,aA.int_spec h23,aA.int_spec h24,aA.bool_spec h25,aA.bool_spec h26,aA.bool_spec h27,aA.list_spec h28,aA.int_spec h29,aA.list_spec h30,trivial⟩
 ·cases h
theorem UF {ls:List aA} {x:ty .iTerm} (h:RD ls=some x):bC oL ls (aG x):=by
 unfold RD at h
 split at h
 ·simp only[aC,Option.some.injEq]at h
  obtain⟨x0,h0,x1,h1,x2,h2,x3,h3,x4,h4,x5,h5,x6,h6,x7,h7,x8,h8,x9,h9,x10,e,x11,z,x12,D,x13,H,x14,I,x15,M,x16,R,x17,W,x18,Y,x19,h19,x20,h20,x21,h21,x22,h22,x23,h23,x24,h24,x25,h25,x26,h26,x27,h27,x28,h28,x29,h29,x30,h30,x31,h31,x32,h32,x33,h33,x34,h34,rfl⟩:=h
  exact⟨aA.int_spec h0,aA.bool_spec h1,aA.list_spec h2,aA.list_spec h3,aA.int_spec h4,aA.int_spec h5,aA.int_spec h6,aA.int_spec h7,aA.list_spec h8,aA.int_spec h9,aA.int_spec e,aA.list_spec z,aA.bool_spec D,aA.int_spec H,aA.int_spec I,aA.bool_spec M,aA.int_spec R,aA.int_spec W,aA.bool_spec Y,aA.bool_spec h19,aA.bool_spec h20,aA.int_spec h21,aA.int_spec h22,aA.bool_spec h23,aA.bool_spec h24,aA.int_spec h25,aA.int_spec h26,aA.int_spec h27,aA.int_spec h28,aA.bool_spec h29,aA.bool_spec h30,aA.bool_spec h31,aA.list_spec h32,aA.int_spec h33,aA.list_spec h34,trivial⟩
 ·cases h
theorem UB {ls:List aA} {x:ty .iPane} (h:Q7 ls=some x):bC oL ls (aG x):=by
 unfold Q7 at h
 split at h
 ·simp only[aC,Option.some.injEq]at h
  obtain⟨x0,h0,x1,h1,x2,h2,x3,h3,x4,h4,x5,h5,x6,h6,x7,h7,x8,h8,x9,h9,x10,e,x11,z,x12,D,x13,H,x14,I,x15,M,x16,R,x17,W,x18,Y,x19,h19,x20,h20,x21,h21,x22,h22,x23,h23,x24,h24,x25,h25,x26,h26,x27,h27,x28,h28,x29,h29,x30,h30,x31,h31,x32,h32,x33,h33,x34,h34,x35,h35,x36,h36,x37,h37,x38,h38,x39,h39,x40,h40,rfl⟩:=h
  exact⟨aA.int_spec h0,aA.str_spec h1,aA.str_spec h2,aA.int_spec h3,aA.int_spec h4,aA.int_spec h5,aA.int_spec h6,aA.bool_spec h7,aA.list_spec h8,aA.list_spec h9,aA.int_spec e,aA.int_spec z,aA.int_spec D,aA.int_spec H,aA.list_spec I,aA.int_spec M,aA.int_spec R,aA.list_spec W,aA.bool_spec Y,aA.int_spec h19,aA.int_spec h20,aA.bool_spec h21,aA.int_spec h22,aA.int_spec h23,aA.bool_spec h24,aA.bool_spec h25,aA.bool_spec h26,aA.int_spec h27,aA.int_spec h28,aA.bool_spec h29,aA.bool_spec h30,aA.int_spec h31,aA.int_spec h32,aA.int_spec h33,aA.int_spec h34,aA.bool_spec h35,aA.bool_spec h36,aA.bool_spec h37,aA.list_spec h38,aA.int_spec h39,aA.list_spec h40,trivial⟩
 ·cases h
theorem Y3 {ls:List aA} {x:ty .lScr} (h:Y2 ls=some x):bC oL ls (aG x):=by
 unfold Y2 at h
 split at h
 ·simp only[aC,Option.some.injEq]at h
  obtain⟨x0,h0,x1,h1,x2,h2,x3,h3,x4,h4,x5,h5,x6,h6,x7,h7,x8,h8,x9,h9,x10,e,x11,z,x12,D,x13,H,x14,I,x15,M,x16,R,x17,W,x18,Y,x19,h19,x20,h20,x21,h21,x22,h22,x23,h23,x24,h24,x25,h25,x26,h26,x27,h27,x28,h28,x29,h29,x30,h30,rfl⟩:=h
  exact⟨aA.int_spec h0,aA.int_spec h1,aA.int_spec h2,aA.int_spec h3,aA.list_spec h4,aA.int_spec h5,aA.int_spec h6,aA.list_spec h7,aA.bool_spec h8,aA.int_spec h9,aA.int_spec e,aA.bool_spec z,aA.int_spec D,aA.int_spec H,aA.bool_spec I,aA.bool_spec M,aA.bool_spec R,aA.int_spec W,aA.int_spec Y,aA.bool_spec h19,aA.bool_spec h20,aA.int_spec h21,aA.int_spec h22,aA.int_spec h23,aA.int_spec h24,aA.bool_spec h25,aA.bool_spec h26,aA.bool_spec h27,aA.list_spec h28,aA.int_spec h29,aA.list_spec h30,trivial⟩
 ·cases h
theorem US {ls:List aA} {x:ty .lTerm} (h:RT ls=some x):bC oL ls (aG x):=by
 unfold RT at h
 split at h
 ·simp only[aC,Option.some.injEq]at h
  obtain⟨x0,h0,x1,h1,x2,h2,x3,h3,x4,h4,x5,h5,x6,h6,x7,h7,x8,h8,x9,h9,x10,e,x11,z,x12,D,x13,H,x14,I,x15,M,x16,R,x17,W,x18,Y,x19,h19,x20,h20,x21,h21,x22,h22,x23,h23,x24,h24,x25,h25,x26,h26,x27,h27,x28,h28,x29,h29,x30,h30,x31,h31,x32,h32,x33,h33,x34,h34,rfl⟩:=h
  exact⟨aA.int_spec h0,aA.bool_spec h1,aA.list_spec h2,aA.list_spec h3,aA.int_spec h4,aA.int_spec h5,aA.int_spec h6,aA.int_spec h7,aA.list_spec h8,aA.int_spec h9,aA.int_spec e,aA.list_spec z,aA.bool_spec D,aA.int_spec H,aA.int_spec I,aA.bool_spec M,aA.int_spec R,aA.int_spec W,aA.bool_spec Y,aA.bool_spec h19,aA.bool_spec h20,aA.int_spec h21,aA.int_spec h22,aA.bool_spec h23,aA.bool_spec h24,aA.int_spec h25,aA.int_spec h26,aA.int_spec h27,aA.int_spec h28,aA.bool_spec h29,aA.bool_spec h30,aA.bool_spec h31,aA.list_spec h32,aA.int_spec h33,aA.list_spec h34,trivial⟩
 ·cases h
theorem UP {ls:List aA} {x:ty .lPane} (h:RO ls=some x):bC oL ls (aG x):=by
 unfold RO at h
 split at h
 ·simp only[aC,Option.some.injEq]at h
  obtain⟨x0,h0,x1,h1,x2,h2,x3,h3,x4,h4,x5,h5,x6,h6,x7,h7,x8,h8,x9,h9,x10,e,x11,z,x12,D,x13,H,x14,I,x15,M,x16,R,x17,W,x18,Y,x19,h19,x20,h20,x21,h21,x22,h22,x23,h23,x24,h24,x25,h25,x26,h26,x27,h27,x28,h28,x29,h29,x30,h30,x31,h31,x32,h32,x33,h33,x34,h34,x35,h35,x36,h36,x37,h37,x38,h38,x39,h39,x40,h40,rfl⟩:=h
  exact⟨aA.int_spec h0,aA.str_spec h1,aA.str_spec h2,aA.int_spec h3,aA.int_spec h4,aA.int_spec h5,aA.int_spec h6,aA.bool_spec h7,aA.list_spec h8,aA.list_spec h9,aA.int_spec e,aA.int_spec z,aA.int_spec D,aA.int_spec H,aA.list_spec I,aA.int_spec M,aA.int_spec R,aA.list_spec W,aA.bool_spec Y,aA.int_spec h19,aA.int_spec h20,aA.bool_spec h21,aA.int_spec h22,aA.int_spec h23,aA.bool_spec h24,aA.bool_spec h25,aA.bool_spec h26,aA.int_spec h27,aA.int_spec h28,aA.bool_spec h29,aA.bool_spec h30,aA.int_spec h31,aA.int_spec h32,aA.int_spec h33,aA.int_spec h34,aA.bool_spec h35,aA.bool_spec h36,aA.bool_spec h37,aA.list_spec h38,aA.int_spec h39,aA.list_spec h40,trivial⟩
 ·cases h
theorem RR {ls:List aA} {x:ty .lState} (h:LX ls=some x):bC oL ls (aG x):=by
 unfold LX at h
 split at h
 ·simp only[aC,Option.some.injEq]at h
  obtain⟨W,e,Y,z,x2,D,x3,H,x4,I,x5,M,x6,R,rfl⟩:=h
  exact⟨aA.int_spec e,aA.int_spec z,aA.int_spec D,aA.int_spec H,aA.list_spec I,aA.list_spec M,aA.list_spec R,trivial⟩
 ·cases h
theorem Y5 {ls:List aA} {x:ty .lSrv} (h:Y4 ls=some x):bC oL ls (aG x):=by
 unfold Y4 at h
 split at h
 ·simp only[aC,Option.some.injEq]at h
  obtain⟨x0,h0,x1,h1,x2,h2,x3,h3,x4,h4,x5,h5,x6,h6,x7,h7,x8,h8,x9,h9,x10,e,x11,z,x12,D,x13,H,x14,I,x15,M,x16,R,x17,W,x18,Y,x19,h19,x20,h20,x21,h21,x22,h22,x23,h23,x24,h24,x25,h25,x26,h26,x27,h27,x28,h28,x29,h29,x30,h30,x31,h31,x32,h32,x33,h33,x34,h34,x35,h35,x36,h36,rfl⟩:=h
  exact⟨aA.int_spec h0,aA.int_spec h1,aA.int_spec h2,aA.int_spec h3,aA.list_spec h4,aA.list_spec h5,aA.list_spec h6,aA.int_spec h7,aA.bool_spec h8,aA.int_spec h9,aA.int_spec e,aA.int_spec z,aA.int_spec D,aA.list_spec H,aA.list_spec I,aA.list_spec M,aA.int_spec R,aA.int_spec W,aA.int_spec Y,aA.list_spec h19,aA.list_spec h20,aA.list_spec h21,aA.int_spec h22,aA.int_spec h23,aA.int_spec h24,aA.bool_spec h25,aA.int_spec h26,aA.int_spec h27,aA.int_spec h28,aA.list_spec h29,aA.list_spec h30,aA.list_spec h31,aA.int_spec h32,aA.list_spec h33,aA.list_spec h34,aA.int_spec h35,aA.list_spec h36,trivial⟩
 ·cases h
theorem RB {ls:List aA} {x:ty .iState} (h:LU ls=some x):bC oL ls (aG x):=by
 unfold LU at h
 split at h
 ·simp only[aC,Option.some.injEq]at h
  obtain⟨W,e,Y,z,x2,D,x3,H,x4,I,x5,M,x6,R,rfl⟩:=h
  exact⟨aA.int_spec e,aA.int_spec z,aA.int_spec D,aA.int_spec H,aA.list_spec I,aA.list_spec M,aA.list_spec R,trivial⟩
 ·cases h
theorem YV {ls:List aA} {x:ty .iSrv} (h:YU ls=some x):bC oL ls (aG x):=by
 unfold YU at h
 split at h
 ·simp only[aC,Option.some.injEq]at h
  obtain⟨x0,h0,x1,h1,x2,h2,x3,h3,x4,h4,x5,h5,x6,h6,x7,h7,x8,h8,x9,h9,x10,e,x11,z,x12,D,x13,H,x14,I,x15,M,x16,R,x17,W,x18,Y,x19,h19,x20,h20,x21,h21,x22,h22,x23,h23,x24,h24,x25,h25,x26,h26,x27,h27,x28,h28,x29,h29,x30,h30,x31,h31,x32,h32,x33,h33,x34,h34,x35,h35,x36,h36,rfl⟩:=h
  exact⟨aA.int_spec h0,aA.int_spec h1,aA.int_spec h2,aA.int_spec h3,aA.list_spec h4,aA.list_spec h5,aA.list_spec h6,aA.int_spec h7,aA.bool_spec h8,aA.int_spec h9,aA.int_spec e,aA.int_spec z,aA.int_spec D,aA.list_spec H,aA.list_spec I,aA.list_spec M,aA.int_spec R,aA.int_spec W,aA.int_spec Y,aA.list_spec h19,aA.list_spec h20,aA.list_spec h21,aA.int_spec h22,aA.int_spec h23,aA.int_spec h24,aA.bool_spec h25,aA.int_spec h26,aA.int_spec h27,aA.int_spec h28,aA.list_spec h29,aA.list_spec h30,aA.list_spec h31,aA.int_spec h32,aA.list_spec h33,aA.list_spec h34,aA.int_spec h35,aA.list_spec h36,trivial⟩
 ·cases h
theorem iX:∀{k:K} {ls:List aA} {x:ty k},nJ k ls=some x->bC oL ls (aG x)
 | .int,_,_,h=>aBc h
 | .bool,_,_,h=>YN h
 | .u8,_,_,h=>aDk h
 | .str,_,_,h=>aBf h
 | .iAsk,_,_,h=>YP h
 | .iAttr,_,_,h=>TY h
 | .lAttr,_,_,h=>UH h
 | .lLink,_,_,h=>UN h
 | .lTurn,_,_,h=>UT h
 | .lAsk,_,_,h=>YZ h
 | .iProc,_,_,h=>UC h
 | .iLink,_,_,h=>T9 h
 | .iTurn,_,_,h=>UG h
 | .iNode,_,_,h=>UA h
 | .lProc,_,_,h=>UQ h
 | .iCell,_,_,h=>TZ h
 | .iRect,_,_,h=>UD h
 | .lNode,_,_,h=>UO h
 | .lCell,_,_,h=>UI h
 | .lTable,_,_,h=>RS h
 | .iTable,_,_,h=>RC h
 | .lOp,_,_,h=>aBd h
 | .lHist,_,_,h=>UM h
 | .iOp,_,_,h=>aBa h
 | .iHist,_,_,h=>T8 h
 | .iSess,_,_,h=>UE h
 | .iWin,_,_,h=>YX h
 | .iVp,_,_,h=>aBb h
 | .iGrid,_,_,h=>T7 h
 | .lVp,_,_,h=>aBe h
 | .lGrid,_,_,h=>UL h
 | .lWin,_,_,h=>Y7 h
 | .lSess,_,_,h=>UR h
 | .lFile,_,_,h=>UK h
 | .iFile,_,_,h=>T6 h
 | .lRow,_,_,h=>Y1 h
 | .iRow,_,_,h=>YR h
 | .lDisk,_,_,h=>UJ h
 | .lDepot,_,_,h=>RH h
 | .iDisk,_,_,h=>T5 h
 | .iDepot,_,_,h=>QZ h
 | .iScr,_,_,h=>YT h
 | .iTerm,_,_,h=>UF h
 | .iPane,_,_,h=>UB h
 | .lScr,_,_,h=>Y3 h
 | .lTerm,_,_,h=>US h
 | .lPane,_,_,h=>UP h
 | .lState,_,_,h=>RR h
 | .lSrv,_,_,h=>Y5 h
 | .iState,_,_,h=>RB h
 | .iSrv,_,_,h=>YV h
open Go.RowKit
section
variable {S S':Nat->Prop} {w w':World} {J J':Nat->Option (Nat×Nat)} {σ σ':cU}
structure Tr (S S':Nat->Prop) (w w':World) (J J':Nat->Option (Nat×Nat)) (σ σ':cU):Prop where
 row:∀{k:K} {u:Value} {l:List (ty k)},wY S w k u l->wY S' w' k u l
 ref:∀{id ver off n:Nat} {full:Bool} {u:Value},oF w J σ id ver off n full u->oF w' J' σ' id ver off n full u
 ptr:∀{id ver i j:Nat} {u:Value},uE J σ id ver i j u->uE J' σ' id ver i j u
theorem Tr.v0 (T:Tr S S' w w' J J' σ σ') (h:DB S w J σ p u):DB S' w' J' σ' p u:=by
 cases p with
 | v x=>exact h
 | nil=>exact h
 | row own k l=>exact⟨h.1,T.row h.2⟩
 | ref id ver off n full=>exact T.ref h
 | ptr id ver i j=>exact T.ptr h
 | eptr k l i j=>obtain⟨b,off,e,z,D⟩:=h;exact⟨b,off,e,z,T.row D⟩
 | dead=>trivial
 | un=>exact h
 | agg cs=>exact h
 | tup vs=>exact h
 | fn f caps=>exact h
 | obj o=>exact h
 | drow k l=>exact h
 | gb r b=>exact h
theorem Tr.vs (T:Tr S S' w w' J J' σ σ') (h:e9 S w J σ p u):e9 S' w' J' σ' p u:=by
 cases p with
 | fn f caps=>obtain⟨us,e,z⟩:=h;exact⟨us,e,z.mono fun a b=>T.v0⟩
 | _=>first|trivial|exact absurd h (by intro h;exact h)|exact T.v0 (p:= .v _) h|exact T.v0 (p:= .nil) h|exact T.v0 (p:= .row _ _ _) h|exact T.v0 (p:= .ref _ _ _ _ _) h|exact T.v0 (p:= .ptr _ _ _ _) h|exact T.v0 (p:= .eptr _ _ _ _) h|exact T.v0 (p:= .dead) h|exact T.v0 (p:= .un) h|exact T.v0 (p:= .agg _) h|exact T.v0 (p:= .tup _) h|exact T.v0 (p:= .fn _ _) h|exact T.v0 (p:= .drow _ _) h|exact T.v0 (p:= .gb _ _) h
theorem Tr.v1 (T:Tr S S' w w' J J' σ σ') (h:GA S w J σ p u):GA S' w' J' σ' p u:=by
 cases p with
 | agg cs=>obtain⟨us,e,z⟩:=h;exact⟨us,e,z.mono fun a b=>T.vs⟩
 | _=>first|trivial|exact absurd h (by intro h;exact h)|exact T.vs (p:= .v _) h|exact T.vs (p:= .nil) h|exact T.vs (p:= .row _ _ _) h|exact T.vs (p:= .ref _ _ _ _ _) h|exact T.vs (p:= .ptr _ _ _ _) h|exact T.vs (p:= .eptr _ _ _ _) h|exact T.vs (p:= .dead) h|exact T.vs (p:= .un) h|exact T.vs (p:= .agg _) h|exact T.vs (p:= .tup _) h|exact T.vs (p:= .fn _ _) h|exact T.vs (p:= .drow _ _) h|exact T.vs (p:= .gb _ _) h
theorem Tr.vc (T:Tr S S' w w' J J' σ σ') (h:gM S w J σ p u):gM S' w' J' σ' p u:=by
 cases p with
 | tup vs=>obtain⟨us,e,z⟩:=h;exact⟨us,e,z.mono fun a b=>T.v1⟩
 | _=>first|trivial|exact absurd h (by intro h;exact h)|exact T.v1 (p:= .v _) h|exact T.v1 (p:= .nil) h|exact T.v1 (p:= .row _ _ _) h|exact T.v1 (p:= .ref _ _ _ _ _) h|exact T.v1 (p:= .ptr _ _ _ _) h|exact T.v1 (p:= .eptr _ _ _ _) h|exact T.v1 (p:= .dead) h|exact T.v1 (p:= .un) h|exact T.v1 (p:= .agg _) h|exact T.v1 (p:= .tup _) h|exact T.v1 (p:= .fn _ _) h|exact T.v1 (p:= .drow _ _) h|exact T.v1 (p:= .gb _ _) h
theorem Tr.blk (T:Tr S S' w w' J J' σ σ') {N:List Nat} {id:Nat} {b:oE} (R:J' id=J id) (H:∀x∈N,w'.heap[x]?=w.heap[x]?) (h:yE S w J σ N id b):yE S' w' J' σ' N id b:=by
 cases b with
 | box cs=>
  obtain⟨b,off,cur,E,z,rfl,e,D,I⟩:=h
  refine⟨b,off,cur,E,R.trans z,rfl,e.keep (H _ (by simp)),D,fun j p hp=> ?_⟩
  obtain⟨u,h4,h5,Y⟩:=I j p hp
  exact⟨u,h4,h5,T.vs Y⟩
 | rowb k l=>
  rcases h with⟨e,D,I⟩ |⟨b,cap,cur,z,rfl,hl,e,D,I,h4,h5⟩
  ·exact .inl ⟨R.trans e,D,I⟩
  ·refine .inr ⟨b,cap,cur,R.trans z,rfl,hl,e.keep (H _ (by simp)),D,I,h4,fun i x W j lf hlf=> ?_⟩
   obtain⟨u,hu,Y⟩:=h5 i x W j lf hlf
   refine⟨u,hu,?_⟩
   cases lf with
   | sc q=>exact Y
   | nest k' l'=>exact T.row Y
 | rowd k l=>
  rcases h with⟨e,D,I⟩ |⟨b,cap,cur,L,z,rfl,e⟩
  ·exact .inl ⟨R.trans e,D,I⟩
  ·exact .inr ⟨b,cap,cur,L,R.trans z,rfl,e.keep (H _ (by simp)) fun x W=>H x (by simp[W])⟩
 | rowx k l i cs=>
  obtain⟨b,cap,cur,L1,L2,z,rfl,e,D,I,h4,h5,Y,h7,h8,h9,h10⟩:=h
  refine⟨b,cap,cur,L1,L2,R.trans z,rfl,e,D.keep (H _ (by simp)),I,h4,h5,Y,h7,fun j p hp=> ?_,bZ.mono (fun lf u M hM h=>iE.keep h fun x W=>H x (by simp[hM x W])) h9,bZ.mono (fun lf u M hM h=>iE.keep h fun x W=>H x (by simp[hM x W])) h10⟩
  obtain⟨u,q1,q2,q3⟩:=h8 j p hp
  exact⟨u,q1,q2,T.vs q3⟩
 | objb o=>
  obtain⟨b,z,rfl,e⟩:=h
  exact⟨b,R.trans z,rfl,(H b (by simp)).trans e⟩
 | iterb mid mver since seen stepped=>
  obtain⟨b,m,z,rfl,e,D⟩:=h
  exact⟨b,m,R.trans z,rfl,(H b (by simp)).trans e,T.ptr D⟩
end
theorem VP {o:Nat} (h:w'.heap[b]?=w.heap[b]?) (e:w.cell? ⟨b,o,none⟩ = some u):w'.cell? ⟨b,o,none⟩ = some u:=by
 rw[<-e];simp only[World.cell?,h]
theorem aMB {N:List Nat} {id:Nat} {blk:oE} {l:List (ty k)} (D:kR blk k l) (h:yE S w J σ N id blk) (e:J id=some (b,0)):b∈N:=by
 cases D with
 | b=>
  rcases h with⟨q,_⟩ |⟨z,cap,cur,q,q2,_⟩
  ·rw[q]at e;cases e
  ·rw[q]at e;cases e;rw[q2];simp
 | d=>
  rcases h with⟨q,_⟩ |⟨z,cap,cur,L,q,q2,_⟩
  ·rw[q]at e;cases e
  ·rw[q]at e;cases e;rw[q2];simp
 | x=>
  obtain⟨z,cap,cur,L1,L2,q,q2,_⟩:=h
  rw[q]at e;cases e;rw[q2];simp
theorem lN.step {X:mM} {tm:Array Value} (h:lN X S Z w tm J N) (σ':cU) (C:Nat->Prop) (hSS:∀b,S b->S' b) (hSs:∀b,S b->w'.heap[b]?=w.heap[b]?) (hSf:∀b,S' b->Fz X w' N' σ' b)
  (hz:w.heap.size<=w'.heap.size)
  (hsame:∀b,b<w.heap.size->(∀id blk,C id->(Z.s id).blk=some blk->b∉N id)->w'.heap[b]?=w.heap[b]?)
  (z:∀id,¬C id->σ' id=Z.s id/\J' id=J id/\N' id=N id)
  (href:∀id,C id->∀ver off n full u,oF w J Z.s id ver off n full u->oF w' J' σ' id ver off n full u)
  (hptr:∀id,C id->∀ver i j u,uE J Z.s id ver i j u->uE J' σ' id ver i j u)
  (hblk:∀id b,C id->(σ' id).blk=some b->Tr S S' w w' J J' Z.s σ'->yE S' w' J' σ' (N' id) id b)
  (hown:∀id b,C id->(σ' id).blk=some b->∀x∈N' id,(∃M b0,C M/\(Z.s M).blk=some b0/\x∈N M)∨w.heap.size<=x/\x<w'.heap.size)
  (hnd:∀id b,C id->(σ' id).blk=some b->(N' id).Nodup)
  (hdj:∀id id' b b',C id->C id'->(σ' id).blk=some b->(σ' id').blk=some b'->id≠id'->∀x∈N' id,x∉N' id')
  (hext:∀j p,X.ext[j]?=some p->C j->J' j=some p/\∃cs,(σ' j).blk=some (.box cs)/\X.lens[j]?=some cs.length)
  (hrx:∀q u n,X.rx q=some (u,n)->C (50+q)->∃blk k l,σ' (50+q)=⟨0,some blk⟩/\kR blk k l/\l.length=n)
  (hfrm:Frm X w') (henv:X.E w') :
  Tr S S' w w' J J' Z.s σ'/\lN X S' ⟨Z.t,σ'⟩ w' tm J' N':=by
 classical
 have dec:∀id,C id∨¬C id:=fun id=>Classical.em _
 have osame:∀id blk,¬C id->(Z.s id).blk=some blk->∀x∈N id,w'.heap[x]?=w.heap[x]?:=fun id blk hc h1 x R=>
  hsame x (h.lt id blk h1 x R) fun id' blk' hc' h1' D=>h.disj id id' blk blk' h1 h1' (fun e=>hc (e▸hc')) x R D
 have T:Tr S S' w w' J J' Z.s σ':=by
  refine⟨fun hr=>hr.mono hSS fun b o u H hu=>VP (hSs b H) hu,fun{id ver off n full u} hr=> ?_,fun{id ver i j u} hp=> ?_⟩
  ·rcases dec id with hc|hc
   ·exact href id hc _ _ _ _ _ hr
   ·obtain⟨I,e2,_⟩:=z id hc
    refine⟨by rw[I];exact hr.1,hr.2.1,fun blk k l hs hrow=> ?_⟩
    rw[I]at hs
    obtain⟨h1,W⟩:=hr.2.2 blk k l hs hrow
    refine⟨h1,?_⟩
    rcases W with⟨W,h3⟩ |⟨b,c,o,W,h3,h4,h4o,h5⟩
    ·exact .inl ⟨e2.trans W,h3⟩
    ·refine .inr ⟨b,c,o,e2.trans W,h3,h4,h4o,fun hf=> ?_⟩
     obtain⟨h6,h7,h8⟩:=h5 hf
     refine⟨h6,h7,fun cur E fz hh=>h8 cur E fz ?_⟩
     have H:=h.blk id _ (by rw[hs])
     have hmem:b∈N id:=aMB hrow H W
     rw[<-osame id _ hc (by rw[hs]) b hmem];exact hh
  ·rcases dec id with hc|hc
   ·exact hptr id hc _ _ _ _ hp
   ·obtain⟨I,e2,_⟩:=z id hc
    refine⟨by rw[I];exact hp.1,hp.2.1,fun blk hs=> ?_⟩
    rw[I]at hs
    have:=hp.2.2 blk hs
    rw[e2];exact this
 refine⟨T,⟨fun t u hu=>T.vc (h.tmp t u hu),fun id b H=> ?_,fun id b H x R=> ?_,fun id b H=> ?_,fun id id' b b' H hb' hne x R D=> ?_,fun id b H x R=> ?_,fun j p hj=> ?_,fun q u n hq=> ?_,hfrm,henv,hSf⟩⟩
 ·rcases dec id with hc|hc
  ·exact hblk id b hc H T
  ·obtain⟨I,e2,e3⟩:=z id hc
   have Y:(Z.s id).blk=some b:=by rw[<-I];exact H
   rw[e3]
   exact T.blk e2 (osame id b hc Y) (h.blk id b Y)
 ·rcases dec id with hc|hc
  ·rcases hown id b hc H x R with⟨M,b0,_,h1,W⟩ | h1
   ·exact eQ (h.lt M b0 h1 x W) hz
   ·exact h1.2
  ·obtain⟨I,e2,e3⟩:=z id hc
   have Y:(Z.s id).blk=some b:=by rw[<-I];exact H
   rw[e3]at R
   exact eQ (h.lt id b Y x R) hz
 ·rcases dec id with hc|hc
  ·exact hnd id b hc H
  ·obtain⟨I,e2,e3⟩:=z id hc
   rw[e3]
   exact h.nodup id b (by rw[<-I];exact H)
 ·have key:∀(i i':Nat) (c c':oE),C i->¬C i'->(σ' i).blk=some c->(σ' i').blk=some c'->x∈N' i->x∈N' i'->False:=by
   intro i i' c c' hc hc' H hb' R D
   obtain⟨I,e2,e3⟩:=z i' hc'
   rw[e3]at D
   have Y:(Z.s i').blk=some c':=by rw[<-I];exact hb'
   rcases hown i c hc H x R with⟨M,b0,hc0,h1,W⟩ | h1
   ·exact h.disj M i' b0 c' h1 Y (fun e=>hc' (e▸hc0)) x W D
   ·have:=h.lt i' c' Y x D;omega
  rcases dec id with hc|hc
  ·rcases dec id' with hc'|hc'
   ·exact hdj id id' b b' hc hc' H hb' hne x R D
   ·exact key id id' b b' hc hc' H hb' R D
  ·rcases dec id' with hc'|hc'
   ·exact key id' id b' b hc' hc hb' H D R
   ·obtain⟨I,e2,e3⟩:=z id hc
    obtain⟨f1,f2,f3⟩:=z id' hc'
    rw[e3]at R;rw[f3]at D
    exact h.disj id id' b b' (by rw[<-I];exact H) (by rw[<-f1];exact hb') hne x R D
 ·rcases dec id with hc|hc
  ·rcases hown id b hc H x R with⟨M,b0,_,h1,W⟩ | h1
   ·exact h.new M b0 h1 x W
   ·exact .inr (aX h.frm.size h1.1)
  ·obtain⟨I,e2,e3⟩:=z id hc
   rw[e3]at R
   exact h.new id b (by rw[<-I];exact H) x R
 ·rcases dec j with hc|hc
  ·exact hext j p hj hc
  ·obtain⟨I,e2,e3⟩:=z j hc
   obtain⟨h1,cs,W,h3⟩:=h.ext j p hj
   exact⟨by rw[e2];exact h1,cs,by show(σ' j).blk=_;rw[I];exact W,h3⟩
 ·obtain⟨h1,blk,k,l,W,h3,h4,h5⟩:=h.rxt q u n hq
  rcases dec (50+q)with hc|hc
  ·obtain⟨blk',k',l',h6,h7,h8⟩:=hrx q u n hq hc
   exact⟨h1,blk',k',l',h6,h7,h8,T.ref h5⟩
  ·obtain⟨I,e2,e3⟩:=z (50+q) hc
   exact⟨h1,blk,k,l,by show σ' (50+q)=_;rw[I];exact W,h3,h4,T.ref h5⟩
theorem St.step {X:mM} {Z:gU} {w w':World} {tm:Array Value} {J J':Nat->Option (Nat×Nat)} {N N':Nat->List Nat} (h:St X Z w tm J N) (σ':cU) (C:Nat->Prop)
  (hz:w.heap.size<=w'.heap.size)
  (e:∀b,b<w.heap.size->(∀id blk,C id->(Z.s id).blk=some blk->b∉N id)->w'.heap[b]?=w.heap[b]?)
  (I:∀id,¬C id->σ' id=Z.s id/\J' id=J id/\N' id=N id)
  (M:∀id,C id->∀ver off n full u,oF w J Z.s id ver off n full u->oF w' J' σ' id ver off n full u)
  (R:∀id,C id->∀ver i j u,uE J Z.s id ver i j u->uE J' σ' id ver i j u)
  (W:∀id b,C id->(σ' id).blk=some b->Tr (Fz X w N Z.s) (Fz X w' N' σ') w w' J J' Z.s σ'->yE (Fz X w' N' σ') w' J' σ' (N' id) id b)
  (H:∀id b,C id->(σ' id).blk=some b->∀x∈N' id,(∃z b0,C z/\(Z.s z).blk=some b0/\x∈N z)∨w.heap.size<=x/\x<w'.heap.size)
  (hnd:∀id b,C id->(σ' id).blk=some b->(N' id).Nodup)
  (hdj:∀id id' b b',C id->C id'->(σ' id).blk=some b->(σ' id').blk=some b'->id≠id'->∀x∈N' id,x∉N' id')
  (Y:∀j p,X.ext[j]?=some p->C j->J' j=some p/\∃cs,(σ' j).blk=some (.box cs)/\X.lens[j]?=some cs.length)
  (hrx:∀q u n,X.rx q=some (u,n)->C (50+q)->∃blk k l,σ' (50+q)=⟨0,some blk⟩/\kR blk k l/\l.length=n)
  (hfrm:Frm X w') (henv:X.E w') :
  Tr (Fz X w N Z.s) (Fz X w' N' σ') w w' J J' Z.s σ'/\St X ⟨Z.t,σ'⟩ w' tm J' N':=by
 have dec:∀id,C id∨¬C id:=fun id=>Classical.em _
 have occ:∀b,b<w.heap.size->Occ N' σ' b->Occ N Z.s b:=by
  rintro b D ⟨id,blk,h1,h2⟩
  rcases dec id with hc|hc
  ·rcases H id blk hc h1 b h2 with⟨z,b0,_,h3,h4⟩ | h3
   ·exact⟨z,b0,h3,h4⟩
   ·omega
  ·obtain⟨e1,e2,e3⟩:=I id hc
   rw[e1]at h1;rw[e3]at h2
   exact⟨id,blk,h1,h2⟩
 exact lN.step h σ' C (fun b D=>⟨eQ D.1 hz,fun ho=>D.2.1 (occ b D.1 ho),D.2.2⟩) (fun b D=>e b D.1 fun id blk _ h1 h2=>D.2.1 ⟨id,blk,h1,h2⟩) (fun b D=>D) hz e I M R W H hnd hdj Y hrx hfrm henv
section
variable {X:mM} {S:Nat->Prop} {Z:gU} {w:World} {tm:Array Value} {J:Nat->Option (Nat×Nat)} {N:Nat->List Nat}
theorem lN.rx_no (h:lN X S Z w tm J N) {id:Nat} (z:∀blk k l,(Z.s id).blk=some blk->¬kR blk k l):∀q u n,X.rx q=some (u,n)->50+q≠id:=fun q u n D e=>by
 obtain⟨_,blk,k,l,H,I,_⟩:=h.rxt q u n D
 exact z blk k l (by rw[<-e,H]) I
theorem lN.rx_box (h:lN X S Z w tm J N) {id:Nat} {cs:List PV} (hid:Z.s id=⟨ver,some (.box cs)⟩):∀q u n,X.rx q=some (u,n)->50+q≠id:=
 h.rx_no fun blk k l e z=>by rw[hid]at e;cases e;cases z
theorem lN.rx_far (h:lN X S Z w tm J N) {id:Nat} (hid:99<=id):∀q u n,X.rx q=some (u,n)->50+q≠id:=fun q u n z e=>by
 obtain⟨D,_⟩:=h.rxt q u n z
 omega
theorem kR.same {b:oE} {l:List (ty k)} {e:List (ty k')} (h:kR b k l) (z:kR b k' e):(⟨k,l⟩:(k:K)×List (ty k))=⟨k',e⟩:=by
 cases h<;>cases z<;>rfl
theorem kR.len {b:oE} {l:List (ty k)} {e:List (ty k')} (h:kR b k l) (z:kR b k' e):l.length=e.length:=by
 cases h<;>cases z<;>rfl
theorem lN.rx_same (h:lN X S Z w tm J N) {id:Nat} {blk blk':oE} {l:List (ty k)} {z:List (ty k')} (hid:Z.s id=⟨ver,some blk⟩) (I:kR blk k l) (D:kR blk' k' z) (M:z.length=l.length) :
  ∀q u n,X.rx q=some (u,n)->50+q=id->∃blk k l,eN Z.s id ⟨ver,some blk'⟩ (50+q)=⟨0,some blk⟩/\kR blk k l/\l.length=n:=fun q u n R e=>by
 obtain⟨_,b0,k0,l0,H,W,Y,_⟩:=h.rxt q u n R
 rw[e,hid]at H
 cases H
 exact⟨blk',k',z,by rw[e,aD],D,by rw[M,I.len W,Y]⟩
theorem aLd {N:List Nat} {id:Nat} {blk:oE} {l:List (ty k)} (H:l3 blk k l) (h:yE S w J σ N id blk) (I:∀b,S b->S' b) (M:∀b∈N,S' b) :
  (J id=none/\l=[]/\N=[])∨∃b cap cur,J id=some (b,0)/\b∈N/\C4 S' w b l cap cur:=by
 cases H with
 | b=>
  rcases h with h|⟨b,cap,cur,z,e,D⟩
  ·exact .inl h
  ·exact .inr ⟨b,cap,cur,z,by rw[e];simp,D.mono rfl I fun _ _ _ _ h=>h⟩
 | d=>
  rcases h with h|⟨b,cap,cur,L,z,e,D⟩
  ·exact .inl h
  ·exact .inr ⟨b,cap,cur,z,by rw[e];simp,D.cont fun x R=>M x (by rw[e];simp[R])⟩
theorem uD {N:List Nat} {id:Nat} {blk:oE} {l:List (ty k)} (W:kR blk k l) (h:yE S w J σ N id blk) :
  (J id=none/\l=[]/\N=[])∨∃b cap cur,J id=some (b,0)/\b∈N/\l.length<=9223372036854775807/\gY w b cur (mJ k)/\l.length<=cap/\cap<=maxLen/\cur.size=cap*size k:=by
 cases W with
 | b=>
  rcases h with h|⟨b,cap,cur,e,z,D,H,I,M,R,_⟩
  ·exact .inl h
  ·exact .inr ⟨b,cap,cur,e,by rw[z];simp,D,H,I,M,R⟩
 | d=>
  rcases h with h|⟨b,cap,cur,L,e,z,D,H,I,M,R,_⟩
  ·exact .inl h
  ·exact .inr ⟨b,cap,cur,e,by rw[z];simp,D,H,I,M,R⟩
 | x=>
  obtain⟨b,cap,cur,L1,L2,e,z,D,H,I,M,R,_⟩:=h
  exact .inr ⟨b,cap,cur,e,by rw[z];simp,D,H,I,M,R⟩
end
open Go.RowKit
inductive eM (α:Type):Type 1 where
 | ret (a:α)
 | fail
 | rd (id:Nat) (k:Ent->eM α)
 | wr (id:Nat) (e:Ent) (k:eM α)
 | guard (p:Prop) (d:Decidable p) (k:eM α)
 | opt {γ:Type} (o:Option γ) (k:γ->eM α)
 | call (f:FuncId) (args:List PV) (exts:List (List PV)) (k:PV->List (List PV)->eM α)
 | ite (b:Bool) (x y:eM α)
def NR {α:Type} (p:Prop) [d:Decidable p] (k:eM α):eM α:= .guard p d k
abbrev rU:=FuncId->List PV->List (List PV)->PV->List (List PV)->Prop
section
variable (PC:rU)
def eM.Run {α:Type}:eM α->cU->α->cU->List Nat->List Nat->Prop
 | .ret a,s,a',s',r,w=>a'=a/\s'=s/\r=[]/\w=[]
 | .fail,_,_,_,_,_=>False
 | .rd id k,s,a',s',r,w=>∃r',r=id::r'/\(k (s id)).Run s a' s' r' w
 | .wr id e k,s,a',s',r,w=>∃w',w=id::w'/\k.Run (eN s id e) a' s' r w'
 | .guard p _ k,s,a',s',r,w=>p/\k.Run s a' s' r w
 | .opt o k,s,a',s',r,w=>∃x,o=some x/\(k x).Run s a' s' r w
 | .call f args exts k,s,a',s',r,w=>∃v x,PC f args exts v x/\(k v x).Run s a' s' r w
 | .ite b x y,s,a',s',r,w=>(b=true/\x.Run s a' s' r w)∨(b=false/\y.Run s a' s' r w)
theorem eM.loc {α:Type}:∀(E:eM α) (s s2:cU) (a:α) (s':cU) (r w:List Nat),E.Run PC s a s' r w->(∀id∈r,s2 id=s id)->
  (∀id,id∉w->s' id=s id)/\∃z,E.Run PC s2 a z r w/\(∀id∈w,z id=s' id)/\∀id,id∉w->z id=s2 id
 | .ret a,s,s2,I,s',r,w,⟨e1,e2,e3,e4⟩,h=>by
  subst e1 e2 e3 e4
  exact⟨fun _ _=>rfl,s2,⟨rfl,rfl,rfl,rfl⟩,by simp,fun _ _=>rfl⟩
 | .fail,_,_,_,_,_,_,h,_=>h.elim
 | .rd id k,s,s2,I,s',r,w,⟨r',e,D⟩,h=>by
  subst e
  have e:=h id (by simp)
  obtain⟨H,z,M,R⟩:=eM.loc (k (s id)) s s2 I s' r' w D (fun i W=>h i (aI _ W))
  exact⟨H,z,⟨r',rfl,by rw[e];exact M⟩,R⟩
 | .wr id e k,s,s2,I,s',r,w,⟨w',ew,D⟩,h=>by
  subst ew
  obtain⟨H,z,M,R,h5⟩:=eM.loc k (eN s id e) (eN s2 id e) I s' r w' D (fun i W=>by by_cases hi2:i=id<;>simp[eN,hi2,h i W])
  refine⟨fun i W=> ?_,z,⟨w',rfl,M⟩,fun i W=> ?_,fun i W=> ?_⟩
  ·simp only[dS,not_or]at W
   rw[H i W.2,bU _ _ W.1]
  ·by_cases Y:i∈w'
   ·exact R i Y
   ·have:i=id:=by simpa [Y]using W
    subst this
    rw[h5 i Y,H i Y,aD,aD]
  ·simp only[dS,not_or]at W
   rw[h5 i W.2,bU _ _ W.1]
 | .guard p d k,s,s2,I,s',r,w,⟨hp,D⟩,h=>by
  obtain⟨H,z,M,R⟩:=eM.loc k s s2 I s' r w D h
  exact⟨H,z,⟨hp,M⟩,R⟩
 | .opt o k,s,s2,I,s',r,w,⟨x,hp,D⟩,h=>by
  obtain⟨H,z,M,R⟩:=eM.loc (k x) s s2 I s' r w D h
  exact⟨H,z,⟨x,hp,M⟩,R⟩
 | .call f args exts k,s,s2,I,s',r,w,⟨v,x,hc,D⟩,h=>by
  obtain⟨H,z,M,R⟩:=eM.loc (k v x) s s2 I s' r w D h
  exact⟨H,z,⟨v,x,hc,M⟩,R⟩
 | .ite b x y,s,s2,I,s',r,w,D,h=>by
  rcases D with⟨hb,D⟩ |⟨hb,D⟩
  ·obtain⟨H,z,M,R⟩:=eM.loc x s s2 I s' r w D h
   exact⟨H,z,.inl ⟨hb,M⟩,R⟩
  ·obtain⟨H,z,M,R⟩:=eM.loc y s s2 I s' r w D h
   exact⟨H,z,.inr ⟨hb,M⟩,R⟩
end
def eJ (dst:Option Tmp) (v:PV) (t:Nat->PV):Nat->PV:=match dst with
 | some d=>eN t d v
 | none=>t
def jE (ops:Array Oper) (o:Oper) (t:Nat->PV):Option Bool:=match o.guard with
 | none=>some true
 | some (g,want)=>match(ops[g]?).bind (·.dst)with
  | none=>some false
  | some d=>match t d with
   | .v (.bool b)=>some (b==want)
   | .un=>some false
   | _=>none
section
variable (PC:rU) (eop:Oper->(Nat->PV)->eM PV)
def C3 (ops:Array Oper) (o:Oper) (Z Z':gU) (r w:List Nat):Prop:=
 (jE ops o Z.t=some true/\∃v s',(eop o Z.t).Run PC Z.s v s' r w/\Z'=⟨eJ o.dst v Z.t,s'⟩)∨
 (jE ops o Z.t=some false/\r=[]/\w=[]/\Z'=⟨eJ o.dst .un Z.t,Z.s⟩)
inductive vS (ops:Array Oper):List (Nat×List Nat×List Nat)->gU->gU->Prop
 | nil (Z:gU):vS ops [] Z Z
 | cons {i:Nat} {o:Oper} {r w:List Nat} {l:List (Nat×List Nat×List Nat)} {Z Z1 Z2:gU} (hi:ops[i]?=some o) (h:C3 PC eop ops o Z Z1 r w) (ht:vS ops l Z1 Z2):vS ops ((i,r,w)::l) Z Z2
def aAg (eop:Oper->(Nat->PV)->eM PV) (ops:Array Oper):Prop:=∀o t t',(∀d∈o.looksAt ops,t' d=t d)->eop o t'=eop o t
def I9 (a b:List Nat):Bool:=a.all fun x=> !b.contains x
def LG (ops:Array Oper) (a b:Nat×List Nat×List Nat):Bool:=
 match ops[a.1]?,ops[b.1]? with
 | some oa,some ob=>oa.apart ops ob&&(I9 a.2.2 b.2.1&&(I9 b.2.2 a.2.1&&I9 a.2.2 b.2.2))
 | _,_=>false
end
open Go.RowKit
section
variable {PC:rU} {eop:Oper->(Nat->PV)->eM PV} {ops:Array Oper}
theorem ZT {dst:Option Tmp} {t:Nat->PV} (h:dst≠some d):eJ dst v t d=t d:=by
 cases dst with
 | none=>rfl
 | some e=>exact bU _ _ (fun z=>h (z▸rfl))
theorem F1 {a b:Option Tmp} {u:PV} {t:Nat->PV} (h:∀d,a=some d->b≠some d):eJ b u (eJ a v t)=eJ a v (eJ b u t):=by
 cases a with
 | none=>rfl
 | some d=>
  cases b with
  | none=>rfl
  | some e=>
   have z:e≠d:=fun H=>h d rfl (H▸rfl)
   funext x
   simp only[eJ,eN]
   by_cases D:x=e
   ·simp[D,z]
   ·simp[D]
theorem NK {t:Nat->PV} {dst:Option Tmp} (h:∀d,dst=some d->d∉o.looksAt ops):jE ops o (eJ dst v t)=jE ops o t:=by
 unfold jE
 cases D:o.guard with
 | none=>rfl
 | some gw=>
  obtain⟨g,want⟩:=gw
  cases z:(ops[g]?).bind (·.dst)with
  | none=>simp only[z]
  | some d=>
   have:eJ dst v t d=t d:=ZT (fun e=>h d e (by simp[Oper.looksAt,D,z]))
   simp only[z,this]
theorem C3.swap (hL:aAg eop ops) {oa ob:Oper} {Z1 Z2:gU} {ra wa rb wb:List Nat} (hi:ops[i]?=some oa) (hj:ops[j]?=some ob)
  (ha:C3 PC eop ops oa Z Z1 ra wa) (hb:C3 PC eop ops ob Z1 Z2 rb wb) (H:LG ops (i,ra,wa) (j,rb,wb)=true) :
  ∃Z1',C3 PC eop ops ob Z Z1' rb wb/\C3 PC eop ops oa Z1' Z2 ra wa:=by
 unfold LG at H
 simp only[hi,hj,aB]at H
 obtain⟨hap,h1,h2,h3⟩:=H
 obtain⟨p1,p2,p3⟩:=Oper.apart_spec hap
 have dj:∀{x y:List Nat},I9 x y=true->∀id∈x,id∉y:=fun h id hx hy=>by
  have:=List.all_eq_true.1 h id hx
  simp[hy]at this
 have eb:∀v,eop ob (eJ oa.dst v Z.t)=eop ob Z.t:=fun v=>hL ob _ _ fun d hd=>ZT fun e=>p1 d e hd
 have ea:∀v,eop oa (eJ ob.dst v Z.t)=eop oa Z.t:=fun v=>hL oa _ _ fun d hd=>ZT fun e=>p3 d e hd
 have wb':∀v,jE ops ob (eJ oa.dst v Z.t)=jE ops ob Z.t:=fun v=>NK p1
 have wa':∀v,jE ops oa (eJ ob.dst v Z.t)=jE ops oa Z.t:=fun v=>NK p3
 rcases ha with⟨Y,va,s1,hr,rfl⟩ |⟨Y,rfl,rfl,rfl⟩
 ·rcases hb with⟨z,vb,s2,D,rfl⟩ |⟨z,rfl,rfl,rfl⟩
  ·simp only[wb']at z
   simp only[eb]at D
   have off1:=(eM.loc PC _ _ _ _ _ _ _ hr (fun _ _=>rfl)).1
   have off2:=(eM.loc PC _ _ _ _ _ _ _ D (fun _ _=>rfl)).1
   obtain⟨-,I,hr3,a1,a2⟩:=eM.loc PC _ s1 Z.s _ _ _ _ D (fun id hid=>(off1 id (fun h=>dj h1 id h hid)).symm)
   obtain⟨-,R,hr4,b1,b2⟩:=eM.loc PC _ Z.s I _ _ _ _ hr (fun id hid=>a2 id (fun h=>dj h2 id h hid))
   have es:R=s2:=by
    funext id
    by_cases M:id∈wa
    ·rw[b1 id M,off2 id (dj h3 id M)]
    ·rw[b2 id M]
     by_cases W:id∈wb
     ·exact a1 id W
     ·rw[a2 id W,off2 id W,off1 id M]
   subst es
   refine⟨⟨eJ ob.dst vb Z.t,I⟩,.inl ⟨z,vb,I,hr3,rfl⟩,.inl ⟨(wa' vb).trans Y,va,R,?_,?_⟩⟩
   ·show(eop oa (eJ ob.dst vb Z.t)).Run PC I va R ra wa
    rw[ea];exact hr4
   ·show(⟨_,_⟩:gU)=⟨_,_⟩
    rw[F1 p2]
  ·simp only[wb']at z
   refine⟨⟨eJ ob.dst .un Z.t,Z.s⟩,.inr ⟨z,rfl,rfl,rfl⟩,.inl ⟨(wa' _).trans Y,va,s1,?_,?_⟩⟩
   ·show(eop oa (eJ ob.dst .un Z.t)).Run PC Z.s va s1 ra wa
    rw[ea];exact hr
   ·show(⟨_,_⟩:gU)=⟨_,_⟩
    rw[F1 p2]
 ·rcases hb with⟨z,vb,s2,D,rfl⟩ |⟨z,rfl,rfl,rfl⟩
  ·simp only[wb']at z
   simp only[eb]at D
   refine⟨⟨eJ ob.dst vb Z.t,s2⟩,.inl ⟨z,vb,s2,D,rfl⟩,.inr ⟨(wa' _).trans Y,rfl,rfl,?_⟩⟩
   show(⟨_,_⟩:gU)=⟨_,_⟩
   rw[F1 p2]
  ·simp only[wb']at z
   refine⟨⟨eJ ob.dst .un Z.t,Z.s⟩,.inr ⟨z,rfl,rfl,rfl⟩,.inr ⟨(wa' _).trans Y,rfl,rfl,?_⟩⟩
   show(⟨_,_⟩:gU)=⟨_,_⟩
   rw[F1 p2]
abbrev Ft:=Nat×List Nat×List Nat
theorem vS.app {e l2:List Ft} {Z1 Z2:gU} (D:vS PC eop ops e Z Z1) (z:vS PC eop ops l2 Z1 Z2):vS PC eop ops (e++l2) Z Z2:=by
 induction D with
 | nil=>exact z
 | cons H h _ ih=>exact .cons H h (ih z)
theorem vS.bubble (M:aAg eop ops) {x:Ft} {l2:List Ft} {Z2:gU}:∀(e:List Ft) {Z:gU},vS PC eop ops (e++x::l2) Z Z2->(∀y∈e,LG ops y x=true)->vS PC eop ops (x::(e++l2)) Z Z2
 | [],Z,h,_=>h
 | y::e,Z,h,R=>by
  cases h with
  | cons W Y ht=>
   have ih:=vS.bubble M e ht (fun z hz=>R z (aI _ hz))
   cases ih with
   | cons D H I=>
    obtain⟨Z1',k1,k2⟩:=C3.swap M W D Y H (R _ (by simp))
    exact .cons D k1 (.cons W k2 I)
def aGW (ops:List Oper):List (List Nat):=
 ops.foldl (fun acc o=>acc++ [((o.after.toList.filter fun e=>Region.binds .any e).flatMap fun e=>e.on::acc.getD e.on []).eraseDups]) []
def aCv (ops:Array Oper) (D:List (List Nat)):Bool:=
 (List.range ops.size).all fun j=>match ops[j]? with
  | some o=>(o.after.toList.all fun e=> !Region.binds .any e||e.on<j)&&((D.getD j []).all fun i=>o.after.toList.any fun e=>Region.binds .any e&&(e.on==i||(D.getD e.on []).contains i))
  | none=>true
def vC (ops:Array Oper) (D:List (List Nat)):List Ft->Bool
 | []=>true
 | x::l=>(l.all fun y=>(D.getD y.1 []).contains x.1||LG ops x y)&&vC ops D l
def BI (ops:Array Oper) (l:List Ft):Bool:=aCv ops (aGW ops.toList)&&vC ops (aGW ops.toList) l
end
open Go.RowKit
def cE (X:mM) (nt:Nat) (Z:gU) (a:Act) (w:World):Prop:=a.tmps.size=nt/\a.defers=[]/\∃J N,St X Z w a.tmps J N
section
variable {P:Program} {PC:rU} {eop:Oper->(Nat->PV)->eM PV} {ops:Array Oper} {X:mM} {nt:Nat} {Q:Exit->Act->World->Prop}
def o5 (P:Program) (PC:rU) (eop:Oper->(Nat->PV)->eM PV) (X:mM) (nt:Nat) (o:Oper):Prop:=
 ∀(Z:gU) (a:Act) (w:World) (v:PV) (s':cU) (r wr:List Nat) (Q:Exit->Act->World->Prop),cE X nt Z a w->(eop o Z.t).Run PC Z.s v s' r wr->o.wp P a w (fun a' w'=>cE X nt ⟨eJ o.dst v Z.t,s'⟩ a' w') Q
theorem aFW {b:Bool} (h:gM S w J σ (.v (.bool b)) u):u= .bool b:=h.1
theorem cE.wanted {Z:gU} {a:Act} {w:World} (h:cE X nt Z a w) {o:Oper} (hd:∀(i:Nat) (H:Oper),ops[i]?=some H->∀d,H.dst=some d->d<nt) {b:Bool} (e:jE ops o Z.t=some b):Region.wanted o (yielded ops a.tmps)=b:=by
 obtain⟨hs,_,J,N,R⟩:=h
 unfold jE at e
 unfold Region.wanted
 cases Y:o.guard with
 | none=>simp only[Y]at e;injection e
 | some gw=>
  obtain⟨g,want⟩:=gw
  simp only[Y]at e
  cases D:ops[g]? with
  | none=>simp[D]at e;subst e;simp[yielded,D]
  | some H=>
   cases z:H.dst with
   | none=>simp[D,z]at e;subst e;simp[yielded,D,z]
   | some d=>
    have I:d<a.tmps.size:=by rw[hs];exact hd g H D d z
    have M:=R.tmp d a.tmps[d] (by simp[I])
    simp only[D,z,Option.bind_some]at e
    have hy:∀u,a.tmps[d]=u->yielded ops a.tmps g=match u with| .bool b=>some b|_=>none:=by
     rintro u rfl
     unfold yielded
     simp only[D,z,Option.bind_some,gN I]
     cases a.tmps[d]<;>rfl
    show(yielded ops a.tmps g==some want)=b
    split at e
    ·rename_i q W
     rw[W]at M
     rw[hy _ (aFW M)]
     exact Option.some.inj e
    ·rename_i W
     rw[W]at M
     rw[hy undef M]
     exact Option.some.inj e
    ·cases e
theorem cE.put_un {a:Act} (h:cE X nt Z a w) (dst:Option Tmp):cE X nt ⟨eJ dst .un Z.t,Z.s⟩ (a.put dst undef) w:=by
 obtain⟨H,I,J,N,e⟩:=h
 cases dst with
 | none=>exact⟨H,I,J,N,e⟩
 | some d=>
  refine⟨by simpa [Act.put]using H,I,J,N,⟨fun t u z=> ?_,e.blk,e.lt,e.nodup,e.disj,e.new,e.ext,e.rxt,e.frm,e.env,e.fz⟩⟩
  show gM _ _ _ _ (eN Z.t d .un t) u
  simp only[Act.put]at z
  by_cases D:t=d
  ·subst D
   rw[aD]
   rw[Array.getElem?_setIfInBounds]at z
   simp only[if_true]at z
   split at z
   ·injection z with z;exact z.symm
   ·cases z
  ·rw[bU _ _ D]
   rw[Array.getElem?_setIfInBounds_ne (Ne.symm D)]at z
   exact e.tmp t u z
theorem C3.wpOp {i:Nat} {o:Oper} {Z Z1:gU} {r wr:List Nat} {a:Act} {w:World} {K:Act->World->Prop} (W:ops[i]?=some o) (z:o5 P PC eop X nt o)
  (H:∀(i:Nat) (I:Oper),ops[i]?=some I->∀d,I.dst=some d->d<nt) (h:C3 PC eop ops o Z Z1 r wr) (e:cE X nt Z a w) (M:∀R w',cE X nt Z1 R w'->K R w'):Go.wpOp P ops Q i K a w:=by
 unfold Go.wpOp
 simp only[W]
 rcases h with⟨D,v,s',Y,rfl⟩ |⟨D,rfl,rfl,rfl⟩
 ·rw[e.wanted H D]
  simp only[if_true]
  exact .inl (Oper.wp_mono M (z Z a w v s' r wr Q e Y))
 ·rw[e.wanted H D]
  simp only[aJ,if_false]
  exact M _ _ (e.put_un o.dst)
end
open Go.RowKit
section
variable {P:Program} {PC:rU} {eop:Oper->(Nat->PV)->eM PV} {ops:Array Oper} {X:mM} {nt:Nat} {Q:Exit->Act->World->Prop}
theorem OD {listed:Array Bool} (h:j<listed.size) (d e:Bool):listed.getD j d=listed.getD j e:=by simp[Array.getD,h]
theorem KI {D:List (List Nat)}:∀{l:List Ft},vC ops D l=true->∀H x l2,l=H++x::l2->∀y∈H,(D.getD x.1 []).contains y.1=true∨LG ops y x=true
 | [],_,H,x,l2,e,y,hy=>by simp at e
 | z::l,h,H,x,l2,e,y,hy=>by
  simp only[vC,aB,List.all_eq_true,eZ]at h
  cases H with
  | nil=>simp at hy
  | cons I H=>
   simp only[n0,List.cons.injEq]at e
   obtain⟨rfl,rfl⟩:=e
   rcases List.mem_cons.1 hy with rfl|hy
   ·exact h.1 x (by simp)
   ·exact KI h.2 H x l2 rfl y hy
theorem KH {D:List (List Nat)}:∀{e:List Ft} {x:Ft} {l2:List Ft},vC ops D (e++x::l2)=true->vC ops D (e++l2)=true
 | [],x,l2,h=>by simp only[cV,vC,aB]at h⊢;exact h.2
 | z::e,x,l2,h=>by
  simp only[n0,vC,aB,List.all_append,cI]at h⊢
  exact⟨⟨h.1.1,h.1.2.2⟩,KH h.2⟩
theorem MY {D:List (List Nat)} (h:aCv ops D=true) (H:ops[j]?=some o) :
  (∀e∈o.after,Region.binds .any e=true->e.on<j)/\∀i,(D.getD j []).contains i=true->∃e∈o.after,Region.binds .any e=true/\(e.on=i∨(D.getD e.on []).contains i=true):=by
 have I:=(Array.getElem?_eq_some_iff.1 H).1
 have:=List.all_eq_true.1 h j (List.mem_range.2 I)
 simp only[H,aB,List.all_eq_true,List.any_eq_true,eZ,dC,bN,fX]at this
 obtain⟨M,R⟩:=this
 refine⟨fun e z W=> ?_,fun i Y=> ?_⟩
 ·rcases M e (by simpa using z)with h3|h3
  ·rw[W]at h3;cases h3
  ·exact h3
 ·obtain⟨e,z,h3,h4⟩:=R i (by simpa using Y)
  exact⟨e,by simpa using z,h3,h4⟩
theorem W5 (hL:aAg eop ops) (hop:∀(i:Nat) (o:Oper),ops[i]?=some o->o5 P PC eop X nt o) (hd:∀(i:Nat) (o':Oper),ops[i]?=some o'->∀d,o'.dst=some d->d<nt)
  {D:List (List Nat)} (hD:aCv ops D=true) {Z2:gU} (hQ:∀a w,cE X nt Z2 a w->Q .normal a w) :
  ∀(n:Nat) (l:List Ft) (listed:Array Bool) (Z:gU) (a:Act) (w:World),l.length=n->vS PC eop ops l Z Z2->vC ops D l=true->(l.map (·.1)).Pairwise (· < ·)->(∀x∈l,x.1<ops.size)->
   listed.size=ops.size->(∀j,j<ops.size->(listed.getD j true=false↔j∈l.map (·.1)))->(∀j,j<ops.size->listed.getD j true=true->∀i,(D.getD j []).contains i=true->i<ops.size/\listed.getD i true=true)->
   cE X nt Z a w->wpAny P .any ops Q n listed a w
 | 0,l,listed,Z,a,w,hl,hr,hp,z,Y,hz,hm,hc,hg=>by
  obtain rfl:=aR hl
  have M:Region.ready .any ops listed=[]:=by
   rw[List.eq_nil_iff_forall_not_mem]
   intro j hj
   obtain⟨h0,o,W,_⟩:=mem_ready.1 hj
   have:=(hm j (Array.getElem?_eq_some_iff.1 W).1).1 h0
   simp at this
  cases hr
  exact⟨M,hQ a w hg⟩
 | n+1,l,listed,Z,a,w,hl,hr,hp,z,Y,hz,hm,hc,hg=>by
  refine⟨fun M=> ?_,fun i hi=> ?_⟩
  ·exfalso
   cases l with
   | nil=>simp at hl
   | cons x l=>
    have hx:=Y x (by simp)
    obtain⟨o,W⟩:∃o,ops[x.1]?=some o:=⟨ops[x.1],by simp[hx]⟩
    have:x.1∈Region.ready .any ops listed:=mem_ready.2 ⟨(hm x.1 hx).2 (by simp),o,W,fun e he R=>by
     have hlt:=(MY hD W).1 e he R
     have hsz:e.on<ops.size:=by omega
     rw[OD (by omega) false true]
     cases hcl:listed.getD e.on true with
     | true=>rfl
     | false=>
      have hmem:=(hm e.on hsz).1 hcl
      simp only[bR,dS]at hmem
      rcases hmem with e1|hmem
      ·omega
      ·have h9:x.1<e.on:=(List.pairwise_cons.1 z).1 e.on hmem
       omega⟩
    rw[M]at this
    cases this
  ·obtain⟨h0,o,W,hall⟩:=mem_ready.1 hi
   have hisz:=(Array.getElem?_eq_some_iff.1 W).1
   have hil:=(hm i hisz).1 h0
   obtain⟨x,hx,rfl⟩:=List.mem_map.1 hil
   obtain⟨l1,l2,rfl⟩:=List.append_of_mem hx
   have hall':∀e∈o.after,Region.binds .any e=true->e.on<ops.size/\listed.getD e.on true=true:=fun e he R=>by
    have h1:=hall e he R
    have hlt:e.on<listed.size:=by
     rcases rP e.on listed.size with h2|h2
     ·exact h2
     ·simp[Array.getElem?_eq_none h2]at h1
    exact⟨by omega,by rw[OD hlt true false];exact h1⟩
   have hdl:∀y,(D.getD x.1 []).contains y=true->y<ops.size/\listed.getD y true=true:=fun y I=>by
    obtain⟨e,he,R,h2⟩:=(MY hD W).2 y I
    obtain⟨h3,h4⟩:=hall' e he R
    rcases h2 with rfl|h2
    ·exact⟨h3,h4⟩
    ·exact hc e.on h3 h4 y h2
   have hind:∀y∈l1,LG ops y x=true:=fun y I=>by
    rcases KI hp l1 x l2 rfl y I with h2|h2
    ·have h3:=(hdl y.1 h2).2
     have h4:=(hm y.1 (Y y (by simp[I]))).2 (List.mem_map.2 ⟨y,by simp[I],rfl⟩)
     rw[h3]at h4;cases h4
    ·exact h2
   have hbub:=vS.bubble hL l1 hr hind
   cases hbub with
   | cons hi2 hstep ht=>
    rename_i i0 o2 r wr Z1
    rw[W]at hi2
    cases hi2
    refine C3.wpOp W (hop _ o W) hd hstep hg fun a' w' hg'=> ?_
    refine W5 hL hop hd hD hQ n (l1++l2) _ Z1 a' w' (by simp at hl⊢;omega) ht (KH hp) ?_ (fun y I=>Y y (by simp at I⊢;rcases I with h|h<;>simp[h])) (by simp[hz]) ?_ ?_ hg'
    ·rw[e8,List.pairwise_append]at z⊢
     simp only[bR,List.pairwise_cons]at z
     exact⟨z.1,z.2.1.2,fun a ha b Y=>z.2.2 a ha b (by simp[Y])⟩
    ·intro j hj
     have hnd:(l1.map (·.1)++l2.map (·.1)).Pairwise (· < ·)/\∀y∈l1.map (·.1)++l2.map (·.1),y≠i0:=by
      rw[e8,bR,List.pairwise_append]at z
      simp only[List.pairwise_cons]at z
      refine⟨?_,?_⟩
      ·rw[List.pairwise_append];exact⟨z.1,z.2.1.2,fun a ha b Y=>z.2.2 a ha b (by simp[Y])⟩
      ·intro y I
       rcases List.mem_append.1 I with h|h
       ·have:=z.2.2 y h i0 (aN ..);exact Nat.ne_of_lt this
       ·have:=z.2.1.1 y h;exact Nat.ne_of_gt this
     rw[e8]
     by_cases H:j=i0
     ·subst H
      constructor
      ·intro h;simp[hz,hisz]at h
      ·intro h;exact absurd rfl (hnd.2 _ h)
     ·rw[getD_set_ne true (Ne.symm H),hm j hj,e8,bR]
      simp[H]
    ·intro j hj hlj i hiD
     have hset:∀y,y<ops.size->listed.getD y true=true->(listed.setIfInBounds i0 true).getD y true=true:=fun y I hly=>by
      rw[OD (by simp[hz];exact I) true false]
      exact getD_set_true (by rw[OD (by omega) false true];exact hly)
     by_cases H:j=i0
     ·subst H
      obtain⟨h1,h2⟩:=hdl i hiD
      exact⟨h1,hset i h1 h2⟩
     ·rw[getD_set_ne true (Ne.symm H)]at hlj
      obtain⟨h1,h2⟩:=hc j hj hlj i hiD
      exact⟨h1,hset i h1 h2⟩
end
open Go.RowKit
def PB:Value->PV
 | .slice none 0 0=> .nil
 | v=> .v v
def opd (t:Nat->PV):Operand->PV
 | .tmp d=>t d
 | .const v=>PB v
 | .func f=> .fn f []
 | .global _=> .dead
def wfB:Value->Bool
 | .int k n=>k.wrap n==n
 | .string s=>s.size<=9223372036854775807
 | .bool _=>true
 | .pointer none=>true
 | .nilFunc=>true
 | .map none=>true
 | _=>false
theorem aB4 {v:Value} (h:wfB v=true):sD v:=by
 unfold wfB at h
 unfold sD
 split at h<;>simp_all
def aCu:Operand->Bool
 | .const (.slice none 0 0)=>true
 | .const v=>wfB v
 | _=>true
def aKq (next:gU->Prop) (Q:Exit->gU->Prop):Exit->gU->Prop
 | .normal,Z=>next Z
 | e,Z=>Q e Z
def aGi (id:Nat) (Q:Exit->gU->Prop):Exit->gU->Prop
 | .exit id',Z=>if id'=id then Q .normal Z else Q (.exit id') Z
 | e,Z=>Q e Z
section
variable {P:Program} {PC:rU} {eop:Oper->(Nat->PV)->eM PV} {X:mM} {nt:Nat}
def XW (P:Program) (X:mM) (nt:Nat) (c:Code) (Z:gU) (Q:Exit->gU->Prop):Prop:=
 ∀a w,cE X nt Z a w->c.wp P (fun e a' w'=>∃Z',cE X nt Z' a' w'/\Q e Z') a w
variable {Q Q':Exit->gU->Prop} {Z:gU}
theorem XW.mono (h:XW P X nt c Z Q) (z:∀e Z,Q e Z->Q' e Z):XW P X nt c Z Q':=
 fun a w D=>wp_mono (h a w D) fun e a w ⟨Z',H,I⟩=>⟨Z',H,z _ _ I⟩
theorem XW.skip (h:Q .normal Z):XW P X nt .skip Z Q:=fun a w e=>wp_skip ⟨Z,e,h⟩
theorem XW.label {l:Nat} (h:Q .normal Z):XW P X nt (.label l) Z Q:=fun a w e=>wp_label ⟨Z,e,h⟩
theorem XW.exit {id:Nat} (h:Q (.exit id) Z):XW P X nt (.exit id) Z Q:=fun a w e=>wp_exit ⟨Z,e,h⟩
theorem XW.ret (h:Q .ret Z):XW P X nt .ret Z Q:=fun a w e=>wp_ret ⟨Z,e,h⟩
theorem XW.seq {x y:Code} (h:XW P X nt x Z (aKq (fun Z'=>XW P X nt y Z' Q) Q)):XW P X nt (.seq x y) Z Q:=fun a w H=>wp_seq (wp_mono (h a w H) fun e I w' ⟨Z',z,D⟩=>by
 cases e with
 | normal=>exact D I w' z
 | _=>exact⟨Z',z,D⟩)
theorem XW.block {id:Nat} {c:Code} (h:XW P X nt c Z (aGi id Q)):XW P X nt (.block id c) Z Q:=fun a w I=>wp_block (wp_mono (h a w I) fun e M w' ⟨Z',D,z⟩=>by
 cases e with
 | exit id'=>
  simp only[aGi]at z
  simp only[Exit.inBlock]
  split at z
  ·rename_i H;rw[if_pos H];exact⟨Z',D,z⟩
  ·rename_i H;rw[if_neg H];exact⟨Z',D,z⟩
 | _=>exact⟨Z',D,z⟩)
theorem cE.eval {a:Act} {w:World} (I:cE X nt Z a w) {c:Operand} (M:∀d,c= .tmp d->d<nt) {b:Bool} (h:opd Z.t c= .v (.bool b)):a.eval c= .bool b:=by
 obtain⟨R,W,J,N,D⟩:=I
 cases c with
 | tmp d=>
  have z:d<a.tmps.size:=by rw[R];exact M d rfl
  have H:=D.tmp d a.tmps[d] (by simp[z])
  have e:Z.t d= .v (.bool b):=h
  rw[e]at H
  have:a.tmps.getD d undef=a.tmps[d]:=by simp[Array.getD,z]
  show a.tmps.getD d undef=_
  rw[this];exact H.1
 | const v=>
  have e:PB v= .v (.bool b):=h
  unfold PB at e
  split at e
  ·cases e
  ·injection e
 | func f=>cases h
 | global g=>cases h
theorem XW.cond {c:Operand} {x y:Code} {b:Bool} (z:opd Z.t c= .v (.bool b)) (D:∀d,c= .tmp d->d<nt) (H:b=true->XW P X nt x Z Q) (I:b=false->XW P X nt y Z Q):XW P X nt (.cond c x y) Z Q:=fun a w e=>
 wp_cond_split (e.eval D z) (fun h=>H h a w e) (fun h=>I h a w e)
theorem XW.loop {c:Code} (I:Nat->gU->Prop) (n:Nat) (M:I n Z) (R:∀n Z,I n Z->XW P X nt c Z (aKq (fun Z'=>∃m,m<n/\I m Z') Q)):XW P X nt (.loop c) Z Q:=fun a w z=>
 wp_loop_ghost (fun n a w=>∃Z,cE X nt Z a w/\I n Z) n ⟨Z,z,M⟩ fun n a w ⟨Z,z,W⟩=>wp_mono (R n Z W a w z) fun e a' w' ⟨Z',D,H⟩=>by
  cases e with
  | normal=>obtain⟨m,Y,h4⟩:=H;exact⟨m,Y,Z',D,h4⟩
  | _=>exact⟨Z',D,H⟩
theorem aF1 {ops:Array Oper} {Q0:Exit->Act->World->Prop} (e:∀(i:Nat) (o:Oper),ops[i]?=some o->o5 P PC eop X nt o) (R:∀(i:Nat) (I:Oper),ops[i]?=some I->∀d,I.dst=some d->d<nt) :
  ∀{l:List Ft} {Z Z2:gU} (_:vS PC eop ops l Z Z2) (_:∀a w,cE X nt Z2 a w->Q0 .normal a w) (a:Act) (w:World),cE X nt Z a w->wpOps P ops Q0 (l.map (·.1)) a w:=by
 intro l Z Z2 h
 induction h with
 | nil=>intro z a w D;exact z a w D
 | cons M W ht ih=>
  intro z a w D
  show wpOps P ops Q0 (_::_) a w
  rw[wpOps_cons]
  exact C3.wpOp M (e _ _ M) R W D fun Y w' H=>ih z Y w' H
theorem XW.region {id:Nat} {l:List Oper} (D:∀o∈l,o5 P PC eop X nt o) (W:∀o∈l,∀d,o.dst=some d->d<nt) (h:∃ft Z',vS PC eop l.toArray ft Z Z'/\ft.map (·.1)=List.range' 0 l.length/\Q .normal Z'):XW P X nt (.region id l.toArray false) Z Q:=fun a w H=>by
 obtain⟨ft,Z',Y,h2,h3⟩:=h
 refine wp_region ?_
 have z:∀(i:Nat) (o:Oper),l.toArray[i]?=some o->o5 P PC eop X nt o:=fun i o I=>D o (tF (by simpa using I))
 have M:∀(i:Nat) (R:Oper),l.toArray[i]?=some R->∀d,R.dst=some d->d<nt:=fun i o I=>W o (tF (by simpa using I))
 have:=aF1 (Q0:=fun e a' w'=>∃Z',cE X nt Z' a' w'/\Q e Z') z M Y (fun a w H=>⟨Z',H,h3⟩) a w H
 rw[h2]at this
 rw[List.range_eq_range']
 simpa using this
theorem St.drew {X:mM} {Z:gU} {tm:Array Value} (h:St X Z w tm J N) (e:w'.heap=w.heap) (z:w'.os=w.os) (D:w'.tape=w.tape) (H:w'.output=w.output) (I:X.E w'):St X Z w' tm J N:=by
 have M:w.heap.size<=w'.heap.size:=by rw[e];exact bB _
 refine(St.step (Z:=Z) h Z.s (fun _=>False) M (fun b _ _=>by rw[e]) (fun _ _=>⟨rfl,rfl,rfl⟩) (fun _ h=>h.elim) (fun _ h=>h.elim) (fun _ _ h=>h.elim) (fun _ _ h=>h.elim) (fun _ _ h=>h.elim) (fun _ _ _ _ h=>h.elim) (fun _ _ _ h=>h.elim) (fun _ _ _ _ h=>h.elim) ?_ I).2
 obtain⟨R,W,Y,h4,h5,h6⟩:=h.frm
 exact⟨z.trans R,D.trans W,H.trans Y,by rw[e];exact h4,fun b hb hf=>by rw[e];exact h5 b hb hf,by rw[e];exact h6⟩
theorem XW.draw {id:Nat} {l:List Oper} (hm:P.follows .mixedOrders=true) (hL:aAg eop l.toArray) (R:∀o∈l,o5 P PC eop X nt o) (hd:∀o∈l,∀d,o.dst=some d->d<nt)
  (h:∃ft Z',vS PC eop l.toArray ft Z Z'/\ft.map (·.1)=List.range' 0 l.length/\BI l.toArray ft=true/\Q .normal Z'):XW P X nt (.region id l.toArray true) Z Q:=fun a w W=>by
 obtain⟨ft,Z',h1,I,M,h4⟩:=h
 refine wp_region_any hm ?_
 have H:∀(i:Nat) (o:Oper),l.toArray[i]?=some o->o5 P PC eop X nt o:=fun i o Y=>R o (tF (by simpa using Y))
 have hd':∀(i:Nat) (o':Oper),l.toArray[i]?=some o'->∀d,o'.dst=some d->d<nt:=fun i o Y=>hd o (tF (by simpa using Y))
 unfold BI at M
 rw[aB]at M
 have z:ft.length=l.toArray.size:=by have:=congrArg List.length I;simpa using this
 obtain⟨q1,q2,J,N,q3⟩:=W
 rw[<-z]
 refine W5 (Q:=fun e a' w'=>∃Z',cE X nt Z' a' w'/\Q e Z') hL H hd' M.1 (fun a w W=>⟨Z',W,h4⟩) ft.length ft _ Z a _ rfl h1 M.2 ?_ ?_ (by simp[z]) ?_ ?_ ⟨q1,q2,J,N,q3.drew rfl rfl rfl rfl (X.cl _ _ q3.env (fun _ _=>rfl))⟩
 ·rw[I];exact List.pairwise_lt_range'
 ·intro x hx
  have:x.1∈ft.map (·.1):=List.mem_map.2 ⟨x,hx,rfl⟩
  rw[I,List.mem_range']at this
  obtain⟨i,h5,h6⟩:=this
  simp;omega
 ·intro j hj
  rw[I]
  have D:j<l.length:=by simpa using hj
  simp[List.mem_range',z,D]
 ·intro j hj hlj
  have D:j<l.length:=by simpa using hj
  simp[z,D]at hlj
end
open Go.RowKit
section
variable (S:Nat->Prop) (w:World) (J:Nat->Option (Nat×Nat)) (σ:cU)
def gI:PV->Value->List Nat->Prop
 | .row true k l,u,L=>G6 S w k u l L
 | .drow k l,u,L=>rQ w k u l L
 | .obj o,u,L=>∃b,u=QW o b/\L=[b]/\w.heap[b]?=some o
 | p,u,L=>L=[]/\e9 S w J σ p u
def kN:PV->Value->List Nat->Prop
 | .agg cs,u,L=>∃us,u= .agg us/\bZ (gI S w J σ) cs us.toList L
 | p,u,L=>gI S w J σ p u L
def DL:PV->Value->List Nat->Prop
 | .tup vs,u,L=>∃us,u= .tuple us/\bZ (kN S w J σ) vs us.toList L
 | p,u,L=>kN S w J σ p u L
def cJ:PV->Bool
 | .row true _ _=>true
 | .drow _ _=>true
 | _=>false
def lW (q:PV) (u:Value):List Value:=match cJ q with
 | true=> [u]
 | false=> []
def j8:List PV->List Value->List Value
 | p::ps,u::us=>lW p u++j8 ps us
 | _,_=> []
def C6:PV->Value->List Value
 | .agg cs,.agg vs=>j8 cs vs.toList
 | p,u=>lW p u
def gS:List PV->List Value->List Value
 | p::ps,u::us=>C6 p u++gS ps us
 | _,_=> []
def OW (gs:List Value):PV->Value->List Nat->Prop
 | .gb r back,u,L=>∃L1 L2,L=L1++L2/\DL S w J σ r u L1/\bZ (gI S w J σ) back gs L2
 | r,u,L=>DL S w J σ r u L
def F8 (p:Nat×Nat) (cs:List PV) (L:List Nat):Prop:=
 ∃cur E us,gY w p.1 cur E/\p.2+cs.length<=cur.size/\(∀j u,us[j]?=some u->cur[p.2+j]?=some u/\u.oneCell'=true)/\bZ (gI S w J σ) cs us L
end
def iF (exts:List (List PV)):cU:=fun j=>match exts[j]? with
 | some cs=>⟨0,some (.box cs)⟩
 | none=>⟨0,none⟩
def kO (locs:List (Nat×Nat)):Nat->Option (Nat×Nat):=fun j=>locs[j]?
structure aEL (w w':World) (F:List Nat) (locs:List (Nat×Nat)) (lens:List Nat):Prop where
 os:w'.os=w.os
 tape:w'.tape=w.tape
 output:w'.output=w.output
 size:w.heap.size<=w'.heap.size
 old:∀b,b<w.heap.size->b∉F->w'.heap[b]?=w.heap[b]?
 part:∀(j b off n:Nat),locs[j]?=some (b,off)->lens[j]?=some n->∃(c0 c:Array Value) (E:TypeId) (fz:Nat×Nat),w.heap[b]?=some (Obj.cells c0 E fz)/\w'.heap[b]?=some (Obj.cells c E fz)/\c.size=c0.size/\∀o,o<off∨off+n<=o->c[o]?=c0[o]?
def jQ (P:Program) (f:FuncId) (xs:Array Value) (w:World) (R:Ending->World->Prop):Prop:=match(callFunc f xs).run P w with
 | .ok (.value v) w'=>R (.returned v) w'
 | .ok (.enter f' ys) w'=>Calls P f' ys w' R
 | _=>False
theorem jQ.of {P:Program} {f:FuncId} {fn:Func} (z:P.funcs[f]?=some fn) (e:(fn.name== "runtime.NumGoroutine")=false) (D:fn.body=some c) {xs:Array Value} {R:Ending->World->Prop} (h:Calls P f xs w R):jQ P f xs w R:=by
 have H:fn.name≠ "runtime.NumGoroutine" :=by simpa using e
 have:(callFunc f xs).run P w= .ok (.enter f xs) w:=by simp[callFunc,z,H,D]
 unfold jQ
 rw[this]
 exact h
theorem jQ.calls {P:Program} {f:FuncId} {fn:Func} (z:P.funcs[f]?=some fn) (e:(fn.name== "runtime.NumGoroutine")=false) (D:fn.body=some c) {xs:Array Value} {R:Ending->World->Prop} (h:jQ P f xs w R):Calls P f xs w R:=by
 have H:fn.name≠ "runtime.NumGoroutine" :=by simpa using e
 have:(callFunc f xs).run P w= .ok (.enter f xs) w:=by simp[callFunc,z,H,D]
 unfold jQ at h
 rw[this]at h
 exact h
def hO (P:Program) (G:Nat) (E:World->Prop):rU:=fun f args exts r exts'=>
 exts'.map List.length=exts.map List.length/\
 ∀(w:World) (S:Nat->Prop) (us:List Value) (locs:List (Nat×Nat)) (La:List Nat) (Le:List (List Nat)),G<=w.heap.size->E w->locs.length=exts.length->Le.length=exts.length->
  (locs.map (·.1)++La++Le.flatten).Nodup->(∀b∈locs.map (·.1)++La++Le.flatten,G<=b/\b<w.heap.size)->(∀b,S b->b<w.heap.size/\b∉locs.map (·.1)++La++Le.flatten)->
  bZ (kN S w (kO locs) (iF exts)) args us La->
  (∀(j:Nat) p cs L,locs[j]?=some p->exts[j]?=some cs->Le[j]?=some L->F8 S w (kO locs) (iF exts) p cs L)->
  jQ P f us.toArray w fun e w'=>∃(u:Value) (Lr:List Nat) (Le':List (List Nat)),e= .returned u/\Le'.length=exts.length/\(locs.map (·.1)++Lr++Le'.flatten).Nodup/\
   (∀b∈Lr++Le'.flatten,(b∈La++Le.flatten∨w.heap.size<=b)/\b<w'.heap.size)/\
   OW (fun b=>(S b∨b∈La++Le.flatten∨w.heap.size<=b)/\b<w'.heap.size/\b∉locs.map (·.1)++Lr++Le'.flatten) w' (kO locs) (iF exts') (gS args us) r u Lr/\
   (∀(j:Nat) p cs L,locs[j]?=some p->exts'[j]?=some cs->Le'[j]?=some L->F8 (fun b=>(S b∨b∈La++Le.flatten∨w.heap.size<=b)/\b<w'.heap.size/\b∉locs.map (·.1)++Lr++Le'.flatten) w' (kO locs) (iF exts') p cs L)/\
   aEL w w' (locs.map (·.1)++La++Le.flatten) locs (exts.map List.length)
open Go.RowKit
def rS (o:Oper):Nat:=match o.dst with
 | some d=>100*(d+1)
 | none=>99
def oG {α:Type} (id ver:Nat) (k:oE->eM α):eM α:= .rd id fun e=>match e with
 | ⟨v,some b⟩=>if v=ver then k b else .fail
 | ⟨_,none⟩=> .fail
def qK:d4->PV
 | .sc v=> .v v
 | .nest k l=> .row false k l
def aEo (agg:Bool) (cs:List PV):eM PV:=if agg then .ret (.agg cs)else match cs with
 | [c]=> .ret c
 | _=> .fail
def uG (agg:Bool) (cs:List PV) (j n:Nat):eM PV:=if j+n<=cs.length then aEo agg ((cs.drop j).take n)else .fail
def PP (t:TypeId) (p:PV):eM PV:=match tyB t with
 | none=> .fail
 | some (ag,n)=>match p with
  | .ptr id ver i j=>oG id ver fun
   | .objb _=> .fail
   | .iterb _ _ _ _ _=> .fail
   | .rowd _ _=> .fail
   | .rowx _ _ _ _=> .fail
   | .box cs=>uG ag cs j n
   | .rowb _ l=> .opt l[i]? fun x=>uG ag ((aG x).map qK) j n
  | .eptr _ l i j=> .opt l[i]? fun x=>uG ag ((aG x).map qK) j n
  | _=> .fail
def jJ:PV->List PV
 | .agg cs=>cs
 | p=> [p]
def mI:PV->Bool
 | .v _| .nil| .row false _ _| .ref .. | .ptr .. | .eptr .. | .fn ..=>true
 | _=>false
def splice {α:Type} (cs:List α) (j:Nat) (new:List α):List α:=cs.take j++new++cs.drop (j+new.length)
def S5:PV->eM aA
 | .v x=> .ret (.sc x)
 | .nil=> .ret .nl
 | .row false k l=> .ret (.nest k l)
 | .ref id ver off n _=>oG id ver fun
  | .rowb k l=>(match Nat.ble 99 id with
   | true=> .wr id ⟨ver,none⟩ (.ret (.nest k ((l.drop off).take n)))
   | false=> .fail)
  | .rowd k l=>(match Nat.ble 99 id with
   | true=> .wr id ⟨ver,none⟩ (.ret (.nest k ((l.drop off).take n)))
   | false=> .fail)
  | .rowx _ _ _ _=> .fail
  | .box _=> .fail
  | .objb _=> .fail
  | .iterb _ _ _ _ _=> .fail
 | _=> .fail
def eM.bind {α J:Type}:eM α->(α->eM J)->eM J
 | .ret a,f=>f a
 | .fail,_=> .fail
 | .rd id k,f=> .rd id fun e=>(k e).bind f
 | .wr id e k,f=> .wr id e (k.bind f)
 | .guard p d k,f=> .guard p d (k.bind f)
 | .opt o k,f=> .opt o fun x=>(k x).bind f
 | .call g args exts k,f=> .call g args exts fun v x=>(k v x).bind f
 | .ite b x y,f=> .ite b (x.bind f) (y.bind f)
def KP:List PV->eM (List aA)
 | []=> .ret []
 | p::ps=>(S5 p).bind fun a=>(KP ps).bind fun b=> .ret (a::b)
def LM:d4->aA
 | .sc v=> .sc v
 | .nest k l=> .nest k l
def HF (t:TypeId) (p v:PV):eM PV:=match tyB t with
 | none=> .fail
 | some (ag,n)=>if(jJ v).length=n/\(jJ v).all mI then
   match p with
   | .ptr id ver i j=>oG id ver fun
    | .objb _=> .fail
    | .iterb _ _ _ _ _=> .fail
    | .rowd _ _=> .fail
    | .rowx _ _ _ _=> .fail
    | .box cs=>if j+n<=cs.length then .wr id ⟨ver,some (.box (splice cs j (jJ v)))⟩ (.ret .un)else .fail
    | .rowb _ _=>(KP (jJ v)).bind fun a=>oG id ver fun
     | .rowb k l=> .opt l[i]? fun x=>if j+n<=size k then
        match nJ k (splice ((aG x).map LM) j a)with
        | some y=> .wr id ⟨ver,some (.rowb k (l.set i y))⟩ (.ret .un)
        | none=> .fail
       else .fail
     | .box _=> .fail
     | .objb _=> .fail
     | .iterb _ _ _ _ _=> .fail
     | .rowd _ _=> .fail
     | .rowx _ _ _ _=> .fail
   | _=> .fail
  else .fail
def pG (id:Nat) (b:oE) (k:Nat->eM PV):eM PV:= .rd id fun e=> .wr id ⟨e.ver+1,some b⟩ (k (e.ver+1))
def aKQ (o:Oper) (v:PV):eM PV:=if(jJ v).all mI then pG (rS o) (.box (jJ v)) fun ver=> .ret (.ptr (rS o) ver 0 0)else .fail
def cN (k:IntKind) (v:Int):Prop:=k.wrap v=v
instance (k:IntKind) (v:Int):Decidable (cN k v):=inferInstanceAs (Decidable (k.wrap v=v))
def ZV (k:IntKind) (v:Int):eM PV:=match k.signed with
 | true=>NR (cN k v) (.ret (.v (.int k v)))
 | false=> .ret (.v (.int k (k.wrap v)))
def aEf (op:BinOp) (k:IntKind) (a b:Int):eM PV:=match op with
 | .add=>ZV k (a+b)
 | .sub=>ZV k (a-b)
 | .mul=>ZV k (a*b)
 | .quo=>NR (b≠0) (ZV k (a.tdiv b))
 | .rem=>NR (b≠0) (.ret (.v (.int k (a.tmod b))))
 | .and=> .ret (.v (.int k (k.wrap (BitVec.ofInt k.bits a &&&BitVec.ofInt k.bits b).toNat)))
 | .or=> .ret (.v (.int k (k.wrap (BitVec.ofInt k.bits a |||BitVec.ofInt k.bits b).toNat)))
 | .xor=> .ret (.v (.int k (k.wrap (BitVec.ofInt k.bits a ^^^ BitVec.ofInt k.bits b).toNat)))
 | .andNot=> .ret (.v (.int k (k.wrap (BitVec.ofInt k.bits a &&& ~~~ BitVec.ofInt k.bits b).toNat)))
 | .eql=> .ret (.v (.bool (a==b)))
 | .neq=> .ret (.v (.bool (a !=b)))
 | .lss=> .ret (.v (.bool (decide (a<b))))
 | .leq=> .ret (.v (.bool (decide (a<=b))))
 | .gtr=> .ret (.v (.bool (decide (b<a))))
 | .geq=> .ret (.v (.bool (decide (b<=a))))
 | _=> .fail
def aJr (op:BinOp) (k:IntKind) (a b:Int):eM PV:=NR (0<=b) (match op with
 | .shl=> .ret (.v (.int k (k.wrap (a*2 ^ (min b.toNat k.bits)))))
 | .shr=> .ret (.v (.int k (a.fdiv (2 ^ (min b.toNat k.bits)))))
 | _=> .fail)
def aIa (op:BinOp) (a b:ByteArray):eM PV:=match op with
 | .add=>NR (a.size+b.size<=9223372036854775807) (.ret (.v (.string (a++b))))
 | .eql=> .ret (.v (.bool (decide (a=b))))
 | .neq=> .ret (.v (.bool (!decide (a=b))))
 | .lss=> .ret (.v (.bool (Op.bytesLess a.toList b.toList)))
 | .leq=> .ret (.v (.bool (Op.bytesLess a.toList b.toList||decide (a=b))))
 | .gtr=> .ret (.v (.bool !(Op.bytesLess a.toList b.toList||decide (a=b))))
 | .geq=> .ret (.v (.bool !Op.bytesLess a.toList b.toList))
 | _=> .fail
def aKP (op:BinOp) (t:TypeId):PV->PV->eM PV
 | .v (.int k a),.v (.int k' b)=>match op with
  | .shl=>aJr .shl k a b
  | .shr=>aJr .shr k a b
  | op=>if k=k' then aEf op k a b else .fail
 | .v (.string a),.v (.string b)=>aIa op a b
 | .v (.bool a),.v (.bool b)=>if YA t then match op with
  | .eql=> .ret (.v (.bool (a==b)))
  | .neq=> .ret (.v (.bool (!(a==b))))
  | _=> .fail
  else .fail
 | _,_=> .fail
open Go.RowKit
section
variable {P:Program} {PC:rU} {eop:Oper->(Nat->PV)->eM PV} {X:mM} {nt:Nat} {Q:Exit->Act->World->Prop} {Z:gU} {a:Act} {w:World}
def dI (nt:Nat):Operand->Bool
 | .tmp d=>d<nt
 | x=>aCu x
theorem St.opd {J:Nat->Option (Nat×Nat)} {N:Nat->List Nat} (h:St X Z w a.tmps J N) (R:a.tmps.size=nt) {x:Operand} (I:dI nt x=true):gM (Fz X w N Z.s) w J Z.s (opd Z.t x) (a.eval x):=by
 cases x with
 | tmp d=>
  have M:d<a.tmps.size:=by rw[R];simpa [dI]using I
  have:=h.tmp d a.tmps[d] (by simp[M])
  have e:a.eval (.tmp d)=a.tmps[d]:=by simp[Act.eval,Array.getD,M]
  rw[e];exact this
 | const v=>
  show gM _ _ _ _ (PB v) v
  have D:aCu (.const v)=true:=I
  unfold PB
  split
  ·rfl
  ·rename_i H
   have:wfB v=true:=by
    unfold aCu at D
    split at D
    ·rename_i z;injection z with z;exact absurd z (by intro h;exact H h)
    ·rename_i z;injection z with z;rw[z];exact D
    ·rename_i Y W;exact absurd rfl (W v)
   exact⟨rfl,aB4 this⟩
 | func f=>exact⟨#[],rfl,trivial⟩
 | global g=>trivial
theorem cE.put {J:Nat->Option (Nat×Nat)} {N:Nat->List Nat} {σ:cU} (D:a.tmps.size=nt) (H:a.defers=[]) (h:St X ⟨Z.t,σ⟩ w a.tmps J N) {dst:Option Tmp} {v:PV} {u:Value} (M:gM (Fz X w N σ) w J σ v u) :
  cE X nt ⟨eJ dst v Z.t,σ⟩ (a.put dst u) w:=by
 cases dst with
 | none=>exact⟨D,H,J,N,h⟩
 | some d=>
  refine⟨by simpa [Act.put]using D,H,J,N,⟨fun t I e=> ?_,h.blk,h.lt,h.nodup,h.disj,h.new,h.ext,h.rxt,h.frm,h.env,h.fz⟩⟩
  show gM _ _ _ _ (eN Z.t d v t) I
  simp only[Act.put]at e
  by_cases z:t=d
  ·subst z
   rw[aD]
   rw[Array.getElem?_setIfInBounds]at e
   simp only[if_true]at e
   split at e
   ·injection e with e;rw[<-e];exact M
   ·cases e
  ·rw[bU _ _ z]
   rw[Array.getElem?_setIfInBounds_ne (Ne.symm z)]at e
   exact h.tmp t I e
theorem cK (z:a.tmps.size=nt) (D:a.defers=[]) (h:St X Z w a.tmps J N) (e:(execOp a.eval o).run P w= .ok (.value u) w) (H:gM (Fz X w N Z.s) w J Z.s v u) :
  o.wp P a w (fun I w'=>cE X nt ⟨eJ o.dst v Z.t,Z.s⟩ I w') Q:=by
 unfold Oper.wp
 rw[e]
 exact cE.put z D h H
theorem jM (z:a.tmps.size=nt) (D:a.defers=[]) (e:(execOp a.eval o).run P w= .ok (.value u) w')
  (H:St X ⟨Z.t,σ⟩ w' a.tmps J' N') (I:gM (Fz X w' N' σ) w' J' σ v u) :
  o.wp P a w (fun M w'=>cE X nt ⟨eJ o.dst v Z.t,σ⟩ M w') Q:=by
 unfold Oper.wp
 rw[e]
 exact cE.put z D H I
theorem sU (z:a.tmps.size=nt) (D:a.defers=[]) (e:(execOp a.eval o).run P w= .ok .skip w') (H:St X ⟨Z.t,σ⟩ w' a.tmps J' N') :
  o.wp P a w (fun I w'=>cE X nt ⟨eJ o.dst .un Z.t,σ⟩ I w') Q:=by
 unfold Oper.wp
 rw[e]
 exact cE.put z D H rfl
end
open Go.RowKit
def aDR:d4->Value->Prop
 | .sc q,u=>u=q/\sD q
 | .nest _ l,u=>u= .slice none 0 0/\l=[]
def OX (zs:List d4) (cells:Array Value):Prop:=cells.size=zs.length/\∀(j:Nat) lf,zs[j]?=some lf->∃u,cells[j]?=some u/\aDR lf u
def aGb (P:Program):Prop:=∀f t,aLA f=some t->∀(w:World) (W H y:Int) (c q:Value),cN .i64 (y*W)->cN .i64 (y+1)->cN .i64 ((y+1)*W)->(∀w0:World,(Instr.slice t c (some (.int .i64 (y*W))) (some (.int .i64 ((y+1)*W))) none).run P w0= .ok q w0)->
 jQ P f #[.agg #[.int .i64 W,.int .i64 H,c],.int .i64 y] w fun e w'=>e= .returned q/\Below w.heap.size w w'
def aGa (P:Program):Prop:=∀f oc oa ob,aLe f=some (oc,oa,ob)->∀(w:World) (b off:Nat) (c:Bool),w.cell? ⟨b,off+oc,none⟩ = some (.bool c)->
 jQ P f #[.pointer (some ⟨b,off,none⟩)] w fun e w'=>e= .returned (.pointer (some ⟨b,off+(if c then oa else ob),none⟩))/\Below w.heap.size w w'
structure fT (P:Program):Prop where
 agg:∀t n,tyB t=some (true,n)->(∃fs,P.underlying t=some (.struct fs))/\(P.info? t).map (·.size)=some n
 sl:∀t k,F3 t=some k->P.underlying t=some (.slice (mJ k))
 el:∀k,∃i z,P.info? (mJ k)=some i/\i.zero=some z/\i.size=size k/\i.bytes=byt k/\z.cells.size=size k/\OX (aG (zK k)) z.cells
 fld:∀t i off ag n,X5 t i=some (off,ag,n)->n≠0/\∃fs f,P.underlying t=some (.struct fs)/\fs[i]?=some f/\f.offset=off/\(∀w,(isAgg f.type).run P w= .ok ag w)/\(P.info? f.type).map (·.size)=some n/\(ag=false->n=1)
 str:∀t,QD t=true->P.underlying t=some .string
 bool:∀t,YA t=true->P.underlying t=some .bool
 cvI:∀s t k,cvT s t=some (.int k)->(∃d,P.underlying s=some d)/\P.underlying t=some (.int k)
 zero:∀t zs,W6 t=some zs->∃i z,P.info? t=some i/\i.zero=some z/\OX zs z.cells
 bld:∀t n,tyB t=some (true,n)->∃it fs z places zs,W6 t=some zs/\P.info? t=some it/\P.underlying t=some (.struct fs)/\it.zero=some z/\OX zs z.cells/\fs.toList.mapM (fun f=>(P.info? f.type).map fun i=>(f.offset,i.size))=some places/\
  ∀i off ag n,X5 t i=some (off,ag,n)->places[i]?=some (off,n)
 cvB:∀s t,cvT s t=some .toBytes->(∃d,P.underlying s=some d)/\P.underlying t=some (.slice (mJ .u8))/\P.underlying (mJ .u8)=some (.int .u8)
 cvS:∀s t,cvT s t=some .toStr->P.underlying s=some (.slice (mJ .u8))/\P.underlying t=some .string/\P.underlying (mJ .u8)=some (.int .u8)
 mp:∀t m z,aK6 t=some (m,z)->sD z/\∃kt et,P.underlying t=some (.map kt et)/\P.underlying kt=some m.td/\∀w,(zeroValue et).run P w= .ok z w
 one:∀t n,tyB t=some (false,n)->n=1/\(∀w,(isAgg t).run P w= .ok false w)/\(P.info? t).map (·.size)=some 1
 win:aGb P
 sel:aGa P
section
variable {P:Program} {PC:rU} {X:mM} {nt:Nat} {Q:Exit->Act->World->Prop} {Z:gU} {a:Act} {w:World}
theorem nH (b off j:Nat):(⟨b,off,none⟩:Addr).add j=⟨b,off+j,none⟩:=by
 unfold Addr.add;split<;>simp_all
theorem bC.of {α J:Type} {R:α->J->Prop}:∀{as:List α} {bs:List J},as.length=bs.length->(∀(i:Nat) x y,as[i]?=some x->bs[i]?=some y->R x y)->bC R as bs
 | [],[],_,_=>trivial
 | x::as,y::bs,e,h=>⟨h 0 x y rfl rfl,bC.of (by simpa using e) fun i z D H I=>h (i+1) z D (by simpa using H) (by simpa using I)⟩
 | [],_::_,e,_=>by simp at e
 | _::_,[],e,_=>by simp at e
theorem pI (hF:fT P) {t:TypeId} {ag:Bool} (ht:tyB t=some (ag,n)) {cs:List PV} (h:(uG ag cs j n).Run PC s v s' r wr)
  {S:Nat->Prop} {J:Nat->Option (Nat×Nat)} {σ:cU} (hc:∀(i:Nat) p,cs[i]?=some p->∃u,w.cell? ⟨b,off+i,none⟩ = some u/\e9 S w J σ p u) :
  s'=s/\∃u,(loadVar t ⟨b,off+j,none⟩).run P w= .ok u w/\gM S w J σ v u:=by
 unfold uG at h
 split at h
 case isFalse=>exact h.elim
 rename_i hlen
 obtain⟨us,M,e⟩:∃us:List Value,us.length=n/\∀(i:Nat) u,us[i]?=some u->w.cell? ⟨b,off+j+i,none⟩ = some u/\∃p,((cs.drop j).take n)[i]?=some p/\e9 S w J σ p u:=by
  have key:∀m,m<=n->∃us:List Value,us.length=m/\∀(i:Nat) u,us[i]?=some u->w.cell? ⟨b,off+j+i,none⟩ = some u/\∃p,((cs.drop j).take n)[i]?=some p/\e9 S w J σ p u:=by
   intro m
   induction m with
   | zero=>intro _;exact⟨[],rfl,by simp⟩
   | succ m ih=>
    intro hm
    obtain⟨us,R,e⟩:=ih (by omega)
    have W:j+m<cs.length:=by omega
    obtain⟨u,Y,hv⟩:=hc (j+m) cs[j+m] (by simp[W])
    refine⟨us++ [u],by simp[R],fun i u' I=> ?_⟩
    by_cases him:i<m
    ·exact e i u' (by rw[bM (by omega)]at I;exact I)
    ·have:i=m:=by
      have:=(iR.1 I).1
      simp[R]at this;omega
     subst this
     rw[bI (by omega),R]at I
     simp at I
     subst I
     refine⟨by rw[show off+j+i=off+(j+i) by omega];exact Y,cs[j+i],?_,hv⟩
     rw[aU,if_pos (by omega),bK]
     simp[W]
  exact key n (bB _)
 have z:bC (e9 S w J σ) ((cs.drop j).take n) us:=bC.of (by rw[aF,cA,M];omega) fun i x y hx hy=>by
  obtain⟨_,p,hp,hv⟩:=e i y hy
  rw[hx]at hp;cases hp;exact hv
 unfold aEo at h
 cases ag with
 | true=>
  obtain⟨rfl,rfl,-,-⟩:v=_/\s'=s/\r=[]/\wr=[]:=h
  obtain⟨⟨fs,hfs⟩,I⟩:=hF.agg t n ht
  refine⟨rfl,.agg us.toArray,?_,us.toArray,rfl,z⟩
  have R:(loadCells ⟨b,off+j,none⟩ us.length).run P w= .ok us.toArray w:=run_loadCells_list (P:=P) w ⟨b,off+j,none⟩ us fun i u Y=>by rw[nH];exact(e i u Y).1
  cases hq:P.info? t with
  | none=>simp[hq]at I
  | some i=>
   have hs:i.size=us.length:=by rw[M];simpa [hq]using I
   have D:(isAgg t).run P w= .ok true w:=by
    unfold isAgg
    rw[Sem.run_bind,run_underlying hfs w]
    simp
   simp[loadVar,Sem.run_bind,D,sizeOf,typeInfo,hq,hs,R]
 | false=>
  obtain⟨rfl,D,I⟩:=hF.one t n ht
  simp only[aJ,if_false]at h
  split at h
  ·rename_i c hcs
   obtain⟨rfl,rfl,-,-⟩:v=c/\s'=s/\r=[]/\wr=[]:=h
   rw[hcs]at z
   match us,M,z with
   | [u],_,⟨h1,_⟩=>
    refine⟨rfl,u,?_,?_⟩
    ·have H:=(e 0 u rfl).1
     rw[eY]at H
     simp[loadVar,Sem.run_bind,D w,run_load,H]
    ·cases v<;>first|exact h1|exact h1.elim
  ·exact h.elim
end
open Go.RowKit
section
variable {P:Program} {PC:rU} {X:mM} {nt:Nat} {Q:Exit->Act->World->Prop} {Z:gU} {a:Act} {w:World}
theorem GH {N:List Nat} {id:Nat} {cs:List PV} (h:yE S w J σ N id (.box cs)):∃b off,J id=some (b,off)/\∀(i:Nat) p,cs[i]?=some p->∃u,w.cell? ⟨b,off+i,none⟩ = some u/\e9 S w J σ p u:=by
 obtain⟨b,off,cur,E,e,R,z,W,D⟩:=h
 refine⟨b,off,e,fun i p H=> ?_⟩
 obtain⟨u,I,_,M⟩:=D i p H
 exact⟨u,by rw[z.cell];exact I,M⟩
theorem aHw {lf:d4} (h:mY S w lf u):e9 S w J σ (qK lf) u:=by
 cases lf with
 | sc v=>exact h
 | nest k' e=>exact⟨rfl,h⟩
theorem PD {l:List (ty k)} {f:Nat->Option Value} (h:vR S w l f) {x:ty k} (D:l[i]?=some x) :
  ∀(j:Nat) p,((aG x).map qK)[j]?=some p->∃u,f (i*size k+j)=some u/\e9 S w J σ p u:=by
 intro j p z
 rw[bX]at z
 cases e:(aG x)[j]? with
 | none=>simp[e]at z
 | some lf=>
  simp only[e,fR,Option.some.injEq]at z
  subst z
  obtain⟨u,H,I⟩:=h i x D j lf e
  exact⟨u,H,aHw I⟩
theorem WO {len:Nat} {l:List (ty k)} (h:wY S w k (.slice (some ⟨b,off,none⟩) len cap) l) {x:ty k} (z:l[i]?=some x) :
  ∀(j:Nat) p,((aG x).map qK)[j]?=some p->∃u,w.cell? ⟨b,off+i*size k+j,none⟩ = some u/\e9 S w J σ p u:=by
 intro j p D
 obtain⟨a,cap',e,W,Y,H⟩:=h.open
 cases e
 obtain⟨b',off',e,hb,I⟩:=H (by intro e;rw[e]at z;simp at z)
 cases e
 obtain⟨u,M,R⟩:=PD (J:=J) (σ:=σ) I z j p D
 exact⟨u,by rw[fE];exact M,R⟩
theorem TR {N:List Nat} {id:Nat} {l:List (ty k)} (h:yE S w J σ N id (.rowb k l)) {x:ty k} (z:l[i]?=some x) :
  ∃b,J id=some (b,0)/\∀(j:Nat) p,((aG x).map qK)[j]?=some p->∃u,w.cell? ⟨b,i*size k+j,none⟩ = some u/\e9 S w J σ p u:=by
 have D:l≠[]:=by intro e;rw[e]at z;simp at z
 rcases h with⟨_,e,_⟩ |⟨b,cap,cur,H,h2,h3,I,h5,h6,h7,M⟩
 ·exact absurd e D
 ·refine⟨b,H,fun j p R=> ?_⟩
  obtain⟨u,W,Y⟩:=PD (J:=J) (σ:=σ) M z j p R
  exact⟨u,by rw[I.cell];exact W,Y⟩
theorem fM {id:Nat} {k:oE->eM α} {v:α} (h:(oG id ver k).Run PC s v s' r wr):∃b z,s id=⟨ver,some b⟩/\r=id::z/\(k b).Run PC s v s' z wr:=by
 obtain⟨z,rfl,h⟩:=h
 cases D:s id with
 | mk v0 H=>
  rw[D]at h
  cases H with
  | none=>exact h.elim
  | some b=>
   simp only at h
   split at h
   ·rename_i e;subst e;exact⟨b,z,rfl,rfl,h⟩
   ·exact h.elim
theorem cB {α J:Type} {k:α->eM J}:∀{E:eM α} {s s':cU} {b:J} {r wr:List Nat},(E.bind k).Run PC s b s' r wr->∃a s1 z D H I,E.Run PC s a s1 z D/\(k a).Run PC s1 b s' H I
 | .ret a,s,s',b,r,wr,h=>⟨a,s,_,_,r,wr,⟨rfl,rfl,rfl,rfl⟩,h⟩
 | .fail,_,_,_,_,_,h=>h.elim
 | .rd id f,s,s',b,r,wr,⟨r',_,h⟩=>by
  obtain⟨a,s1,z,D,H,I,M,R⟩:=cB h
  exact⟨a,s1,id::z,D,H,I,⟨z,rfl,M⟩,R⟩
 | .wr id e f,s,s',b,r,wr,⟨w',_,h⟩=>by
  obtain⟨a,s1,z,D,H,I,M,R⟩:=cB h
  exact⟨a,s1,z,id::D,H,I,⟨D,rfl,M⟩,R⟩
 | .guard p d f,s,s',b,r,wr,⟨W,h⟩=>by
  obtain⟨a,s1,z,D,H,I,M,R⟩:=cB h
  exact⟨a,s1,z,D,H,I,⟨W,M⟩,R⟩
 | .opt o f,s,s',b,r,wr,⟨x,W,h⟩=>by
  obtain⟨a,s1,z,D,H,I,M,R⟩:=cB h
  exact⟨a,s1,z,D,H,I,⟨x,W,M⟩,R⟩
 | .call f args exts g,s,s',b,r,wr,⟨v,x,hc,h⟩=>by
  obtain⟨a,s1,z,D,H,I,M,R⟩:=cB h
  exact⟨a,s1,z,D,H,I,⟨v,x,hc,M⟩,R⟩
 | .ite c p q,s,s',b,r,wr,h=>by
  rcases h with⟨Y,h⟩ |⟨Y,h⟩
  ·obtain⟨a,s1,z,D,H,I,M,R⟩:=cB h
   exact⟨a,s1,z,D,H,I,.inl ⟨Y,M⟩,R⟩
  ·obtain⟨a,s1,z,D,H,I,M,R⟩:=cB h
   exact⟨a,s1,z,D,H,I,.inr ⟨Y,M⟩,R⟩
theorem tM (hF:fT P) {t:TypeId} (ho:o.op= .load t x) (I:dI nt x=true) (hg:cE X nt Z a w) (h:(PP t (opd Z.t x)).Run PC Z.s v s' r wr) :
  o.wp P a w (fun a' w'=>cE X nt ⟨eJ o.dst v Z.t,s'⟩ a' w') Q:=by
 obtain⟨hs,hd,J,N,H⟩:=id hg
 have D:=H.opd hs I
 unfold PP at h
 split at h
 case h_1=>exact h.elim
 rename_i ag n ht
 have fin:∀(b off:Nat) u,a.eval x= .pointer (some ⟨b,off,none⟩)->s'=Z.s->(loadVar t ⟨b,off,none⟩).run P w= .ok u w->gM (Fz X w N Z.s) w J Z.s v u->o.wp P a w (fun a' w'=>cE X nt ⟨eJ o.dst v Z.t,s'⟩ a' w') Q:=by
  rintro b off u M rfl e z
  refine cK hs hd H ?_ z
  unfold execOp
  simp only[ho,M,Instr.loadAt,Instr.sureAddr,Sem.run_bind,Sem.run_pure,Result.andThen_ok,e]
 split at h
 case h_3=>exact h.elim
 case h_1=>
  rename_i id ver i j M
  rw[M]at D
  obtain⟨_,_,D⟩:=D
  obtain⟨blk,r',hb,rfl,h⟩:=fM h
  obtain⟨b,off,hβ,D⟩:=D blk hb
  have R:=H.blk id blk (by rw[hb])
  cases blk with
  | box cs=>
   obtain⟨b',off',hβ',hc⟩:=GH R
   rw[hβ]at hβ';cases hβ'
   obtain⟨W,u,e,z⟩:=pI hF ht h hc
   exact fin b (off+j) u D W e z
  | objb o=>exact h.elim
  | iterb=>exact h.elim
  | rowd=>exact h.elim
  | rowx=>exact h.elim
  | rowb k l=>
   obtain⟨rfl,hil,D⟩:=D
   obtain⟨x,I,h⟩:=h
   obtain⟨b',hβ',hc⟩:=TR R I
   rw[hβ]at hβ';cases hβ'
   obtain⟨W,u,e,z⟩:=pI hF ht h (b:=b) (off:=i*size k) hc
   exact fin b (i*size k+j) u D W e z
 case h_2=>
  rename_i k l i j M
  rw[M]at D
  obtain⟨b,off,hil,D,Y⟩:=D
  obtain⟨x,I,h⟩:=h
  obtain⟨W,u,e,z⟩:=pI hF ht h (b:=b) (off:=off+i*size k) (WO Y I)
  exact fin b (off+i*size k+j) u D W e z
end
open Go.RowKit
theorem gY.of {cur:Array Value} {e:TypeId} (h:w.heap[g]?=some (.cells cur e (0,0))):gY w g cur e:=⟨_,h,.inl rfl⟩
theorem gY.frozen {w:World} {g:Nat} {cur:Array Value} {e:TypeId} (h:gY w g cur e) {o:Nat} (D:o<cur.size):w.frozen? ⟨g,o,none⟩ = false:=by
 obtain⟨⟨lo,H⟩,h,z⟩:=h
 simp only[World.frozen?,h,gW,aY]
 unfold VB at z
 simp only at z
 rcases z with z|⟨z,_⟩ <;>omega
theorem gY.setRow {w:World} {g:Nat} {cur:Array Value} {e:TypeId} (h:gY w g cur e) {cs:Array Value} (z:cs.size=cur.size):gY (w.setRow g cs) g cs e:=by
 obtain⟨fz,h,D⟩:=h
 exact⟨fz,setRow_heap w g cur _ e _ h,by rw[z];exact D⟩
theorem kG (P:Program) (g o:Nat) (t:TypeId):∀(vs:List Value) (i:Nat) (cur:Array Value) (w:World),gY w g cur t->o+i+vs.length<=cur.size->(∀v∈vs,v.oneCell'=true)->
  (storeCells ⟨g,o,none⟩ vs i).run P w= .ok () (w.setRow g (cur.toList.take (o+i)++vs++cur.toList.drop (o+i+vs.length)).toArray)
 | [],i,cur,w,D,_,_=>by
  obtain⟨fz,M,_⟩:=D
  simp only[storeCells,bO,mK,eY,fW,Array.toArray_toList]
  rw[setRow_self w g cur t fz M]
  rfl
 | v::rest,i,cur,w,D,R,Y=>by
  have hi:o+i<cur.size:=by simp at R;omega
  have H:(⟨g,o,none⟩:Addr).add i=⟨g,o+i,none⟩:=by unfold Addr.add;split<;>simp_all
  have z:w.cell? ⟨g,o+i,none⟩ = some cur[o+i]:=by rw[D.cell];simp[hi]
  have I:=D.frozen hi
  have ih:=kG P g o t rest (i+1) (cur.setIfInBounds (o+i) v) (w.setRow g (cur.setIfInBounds (o+i) v)) (D.setRow (by simp)) (by simp at R⊢;omega) (fun x hx=>Y x (by simp[hx]))
  obtain⟨fz,M,_⟩:=D
  have W:(store ((⟨g,o,none⟩:Addr).add i) v).run P w= .ok () (w.setRow g (cur.setIfInBounds (o+i) v)):=by
   rw[H,run_store P w _ v _ (Y v (by simp)),z]
   simp[I,setCell_eq_setRow w g (o+i) cur t fz v M]
  simp only[storeCells,Sem.run_bind,W,Result.andThen_ok,ih,setRow_setRow]
  congr 3
  have e:=list_seg_step cur.toList (o+i) v rest (by simp at R⊢;omega)
  simpa [Array.toList_setIfInBounds,fE]using e
section
variable {P:Program} {w:World}
def iL (cur:Array Value) (off:Nat) (cs:List Value):Array Value:=(cur.toList.take off++cs++cur.toList.drop (off+cs.length)).toArray
theorem EV (ty:TypeId) (g off:Nat) (v:Value) (cs:List Value) (M:v.cells=cs.toArray) (cur:Array Value) (e:TypeId) (R:gY w g cur e) (z:off+cs.length<=cur.size)
  (W:∀u∈cs,u.oneCell'=true) (I:(P.info? ty).map (·.size)=some cs.length) :
  (storeVar ty ⟨g,off,none⟩ v).run P w= .ok () (w.setRow g (cur.toList.take off++cs++cur.toList.drop (off+cs.length)).toArray):=by
 cases H:P.info? ty with
 | none=>simp[H]at I
 | some i=>
  have Y:i.size=cs.length:=by simpa [H]using I
  have D:=kG P g off e cs 0 cur w R (by simpa using z) W
  simp only[eY]at D
  simp[storeVar,Sem.run_bind,sizeOf,typeInfo,H,Y,M,D]
end
open Go.RowKit
section
variable {P:Program} {PC:rU} {X:mM} {nt:Nat} {Q:Exit->Act->World->Prop} {Z:gU} {a:Act} {w:World}
theorem Frm.turn {X:mM} {Z:gU} {w:World} {tm:Array Value} (h:St X Z w tm J N) (id:Nat) (blk:oE) (hb:(Z.s id).blk=some blk)
  (H:w'.os=w.os) (ht:w'.tape=w.tape) (hu:w'.output=w.output) (hz:w.heap.size<=w'.heap.size) (e:∀b,b<w.heap.size->b∉N id->w'.heap[b]?=w.heap[b]?)
  (z:∀(j b off n:Nat),X.ext[j]?=some (b,off)->X.lens[j]?=some n->b∈N id->∃(D c:Array Value) (E:TypeId) (fz:Nat×Nat),w.heap[b]?=some (Obj.cells D E fz)/\w'.heap[b]?=some (Obj.cells c E fz)/\c.size=D.size/\∀o,o<off∨off+n<=o->c[o]?=D[o]?):Frm X w':=by
 obtain⟨h1,h2,h3,h4,h5,h6⟩:=h.frm
 refine⟨H.trans h1,ht.trans h2,hu.trans h3,aX h4 hz,fun b M R=> ?_,fun j b off n W Y=> ?_⟩
 ·rw[e b (by omega) (fun I=> ?_)]
  ·exact h5 b M R
  ·rcases h.new id blk hb b I with h|h
   ·exact R h
   ·omega
 ·obtain⟨D,c,E,fz,q1,q2,q3,q4⟩:=h6 j b off n W Y
  by_cases I:b∈N id
  ·obtain⟨c1,c2,E2,fz2,p1,p2,p3,p4⟩:=z j b off n W Y I
   rw[q2]at p1
   cases p1
   exact⟨D,c2,E,fz,q1,p2,p3.trans q3,fun o H=>(p4 o H).trans (q4 o H)⟩
  ·exact⟨D,c,E,fz,q1,(e b ((Array.getElem?_eq_some_iff.1 q2).1) I).trans q2,q3,q4⟩
theorem CN {cur:Array Value} {cs:List Value} (h:off+cs.length<=cur.size):(iL cur off cs).size=cur.size:=by
 simp only[iL,kY,aW,aF,cA,d5]
 omega
theorem KK {cur:Array Value} {cs:List Value} (h:off+cs.length<=cur.size) (e:i<cs.length):(iL cur off cs)[off+i]?=cs[i]?:=by
 simp only[iL,iT]
 rw[aQ,bI (by simp;omega),bM (by simp;omega)]
 congr 1
 simp;omega
theorem pU {cur:Array Value} {cs:List Value} (h:off+cs.length<=cur.size) (hi:i<off∨off+cs.length<=i):(iL cur off cs)[i]?=cur[i]?:=by
 simp only[iL,iT]
 rcases hi with hi|hi
 ·rw[aQ,bM (by simp;omega),aU,if_pos hi]
  simp
 ·rw[bI (by simp;omega),bK]
  simp only[aW,aF,d5]
  rw[show off+cs.length+(i-(min off cur.size+cs.length))=i by omega]
  simp
theorem HK (e:mI p=true) (h:e9 S w J σ p u):u.oneCell'=true:=by
 cases p with
 | v x=>obtain⟨rfl,z⟩:=h;cases u<;>simp_all[sD,Value.oneCell']
 | nil=>rw[show u=_ from h];rfl
 | row own k l=>obtain⟨_,a,cap,rfl,_⟩:=h;rfl
 | ref id ver off n full=>obtain⟨_,⟨_,_,_,rfl⟩,_⟩:=h;rfl
 | ptr id ver i j=>obtain⟨_,⟨_,rfl⟩ |⟨_,rfl⟩,_⟩:=h<;>rfl
 | eptr k l i j=>obtain⟨b,off,_,rfl,_⟩:=h;rfl
 | fn f caps=>obtain⟨us,rfl,_⟩:=h;rfl
 | agg cs=>cases e
 | tup vs=>cases e
 | un=>cases e
 | dead=>cases e
 | obj o=>cases e
 | drow k l=>cases e
 | gb r b=>cases e
theorem gM.vs {S:Nat->Prop} {J:Nat->Option (Nat×Nat)} {σ:cU} {p:PV} {u:Value} (h:gM S w J σ p u) (e:∀cs,p≠ .agg cs) (z:∀vs,p≠ .tup vs):e9 S w J σ p u:=by
 cases p<;>first|exact h|exact absurd rfl (e _)|exact absurd rfl (z _)
theorem pF (h:gM S w J σ p u) (z:(jJ p).all mI=true):∃us:List Value,u.cells=us.toArray/\bC (e9 S w J σ) (jJ p) us/\∀x∈us,x.oneCell'=true:=by
 have one:∀{cs:List PV} {us:List Value},bC (e9 S w J σ) cs us->cs.all mI=true->∀x∈us,x.oneCell'=true:=by
  intro cs us h z x R
  obtain⟨i,W,rfl⟩:=List.mem_iff_getElem.1 R
  have hl:=h.len
  obtain⟨y,H,Y⟩:=h.get i cs[i] (by simp[show i<cs.length by omega])
  simp only[iD W,Option.some.injEq]at H
  rw[H]
  exact HK (List.all_eq_true.1 z _ (bQ (by omega))) Y
 have sing:∀{q:PV},(∀cs,q≠ .agg cs)->jJ q=[q]:=by intro q hq;cases q<;>first|rfl|exact absurd rfl (hq _)
 by_cases D:∃cs,p= .agg cs
 ·obtain⟨cs,rfl⟩:=D
  obtain⟨us,rfl,h⟩:=h
  exact⟨us.toList,by simp[Value.cells],h,one h z⟩
 ·by_cases I:∃vs,p= .tup vs
  ·obtain⟨vs,rfl⟩:=I
   simp[jJ,mI]at z
  ·have M:=h.vs (fun cs e=>D ⟨cs,e⟩) (fun vs e=>I ⟨vs,e⟩)
   have e:=sing (q:=p) (fun cs e=>D ⟨cs,e⟩)
   rw[e]at z⊢
   have hu:u.oneCell'=true:=HK (by simpa using z) M
   exact⟨[u],by cases u<;>simp_all[Value.cells,Value.oneCell'],⟨M,trivial⟩,by simpa using hu⟩
theorem St.env_turn {X:mM} {Z:gU} {w:World} {tm:Array Value} (h:St X Z w tm J N) (id:Nat) (blk:oE) (z:(Z.s id).blk=some blk) (e:∀b,b<w.heap.size->b∉N id->w'.heap[b]?=w.heap[b]?):X.E w':=by
 refine X.cl w w' h.env fun b D=>e b ?_ fun H=> ?_
 ·have:=X.hw;have:=h.frm.size;omega
 ·rcases h.new id blk z b H with h1|h1
  ·have:=X.hG b h1;omega
  ·have:=X.hw;omega
theorem mS {cs new:List α} (h:j+new.length<=cs.length):(splice cs j new).length=cs.length:=by
 simp only[splice,aW,aF,cA];omega
theorem sV {cs new:List α} (h:j+new.length<=cs.length) (e:i<new.length):(splice cs j new)[j+i]?=new[i]?:=by
 unfold splice
 rw[aQ,bI (by simp;omega),bM (by simp;omega)]
 congr 1;simp;omega
theorem pK {cs new:List α} (h:j+new.length<=cs.length) (hi:i<j∨j+new.length<=i):(splice cs j new)[i]?=cs[i]?:=by
 unfold splice
 rcases hi with hi|hi
 ·rw[aQ,bM (by simp;omega),aU,if_pos hi]
 ·rw[bI (by simp;omega),bK]
  congr 1;simp only[aW,aF];omega
theorem aFQ {tm:Array Value} (h:St X Z w tm J N) {id:Nat} {cs ps:List PV} (hid:Z.s id=⟨ver,some (.box cs)⟩) (hβ:J id=some (b,off))
  (hv:bC (e9 (Fz X w N Z.s) w J Z.s) ps us) (h1:∀x∈us,x.oneCell'=true) (hj:j+ps.length<=cs.length) {cur:Array Value} {E:TypeId} (hr:gY w b cur E) :
  St X ⟨Z.t,eN Z.s id ⟨ver,some (.box (splice cs j ps))⟩⟩ (w.setRow b (iL cur (off+j) us)) tm J N:=by
 have hb:=h.blk id _ (by rw[hid])
 obtain⟨b',off',cur',E',q1,q2,q3,q4,q5⟩:=hb
 rw[hβ]at q1
 cases q1
 have hul:=hv.len
 have ec:cur'=cur:=by
  obtain⟨f1,g1,_⟩:=q3
  obtain⟨f2,g2,_⟩:=hr
  rw[g1]at g2;cases g2;rfl
 subst ec
 have H:off+j+us.length<=cur'.size:=by omega
 have W:=CN H
 have hold:∀b',b'≠b->(w.setRow b (iL cur' (off+j) us)).heap[b']?=w.heap[b']?:=fun b' hb'=>setRow_other w b b' _ hb'
 have D:∀x,x<w.heap.size->x∉N id->(w.setRow b (iL cur' (off+j) us)).heap[x]?=w.heap[x]?:=fun x _ hx=>hold x (fun e=>hx (by rw[q2,e];simp))
 obtain⟨fz,hh,hice⟩:=hr
 have R:(w.setRow b (iL cur' (off+j) us)).heap[b]?=some (.cells (iL cur' (off+j) us) E fz):=setRow_heap w b cur' _ E fz hh
 have z:(Z.s id).blk=some (.box cs):=by rw[hid]
 refine(St.step (Z:=Z) h (eN Z.s id ⟨ver,some (.box (splice cs j ps))⟩) (· = id) (by simp) (fun x hx hc=>D x hx (hc id _ rfl z)) (fun i hi=>⟨bU _ _ hi,rfl,rfl⟩) ?_ ?_ ?_ ?_ ?_ ?_ ?_ (fun q u n hq e=>absurd e (h.rx_box hid q u n hq)) ?_ ?_).2
 ·rintro i rfl v o n f u ⟨k1,k2,k3⟩
  refine⟨by rw[aD];rw[hid]at k1;exact k1,k2,fun blk k l e hr=> ?_⟩
  rw[aD]at e
  cases e
  cases hr
 ·rintro i rfl v i' j' u ⟨k1,k2,k3⟩
  refine⟨by rw[aD];rw[hid]at k1;exact k1,k2,fun blk e=> ?_⟩
  rw[aD]at e
  cases e
  exact k3 _ hid
 ·rintro i blk rfl I T
  rw[aD]at I
  cases I
  refine⟨b,off,iL cur' (off+j) us,E,hβ,q2,⟨fz,R,by rw[W];exact hice⟩,by rw[mS hj,W];exact q4,fun i p hp=> ?_⟩
  by_cases hin:j<=i/\i<j+ps.length
  ·obtain⟨m,rfl⟩:∃m,i=j+m:=⟨i-j,by omega⟩
   rw[sV hj (by omega)]at hp
   obtain⟨u,hu,Y⟩:=hv.get m p hp
   refine⟨u,?_,h1 u (tF hu),T.vs Y⟩
   rw[show off+(j+m)=off+j+m by omega,KK H (by omega)]
   exact hu
  ·rw[pK hj (by omega)]at hp
   obtain⟨u,hu,ho,Y⟩:=q5 i p hp
   refine⟨u,?_,ho,T.vs Y⟩
   rw[pU H (by omega)]
   exact hu
 ·rintro i blk rfl I x hx
  exact .inl ⟨i,_,rfl,z,hx⟩
 ·rintro i blk rfl I
  exact h.nodup i _ z
 ·rintro i i' b1 b2 rfl rfl _ _ M
  exact absurd rfl M
 ·rintro i p hp rfl
  obtain⟨e1,cs',e2,e3⟩:=h.ext i p hp
  rw[z]at e2
  cases e2
  exact⟨e1,_,by rw[aD],by rw[mS hj];exact e3⟩
 ·refine Frm.turn h id _ z rfl rfl rfl (by simp) D fun i b2 off2 n hi hn hm=> ?_
  have hm':b2=b:=by rw[q2]at hm;simpa using hm
  subst hm'
  obtain⟨e1,cs',e2,e3⟩:=h.ext i _ hi
  have hii:i=id:=by
   by_cases M:i=id
   ·exact M
   ·have hb2:=h.blk i _ e2
    obtain⟨b3,off3,_,_,p1,p2,_⟩:=hb2
    rw[e1]at p1
    cases p1
    exact absurd hm (h.disj i id _ _ e2 z M b2 (by rw[p2];simp))
  subst hii
  rw[hβ]at e1
  cases e1
  rw[z]at e2
  cases e2
  rw[e3]at hn
  cases hn
  exact⟨cur',_,E,fz,hh,R,W,fun o ho=>pU H (by omega)⟩
 ·exact St.env_turn h id _ z D
end
open Go.RowKit
def LI (S:Nat->Prop) (w:World):aA->Value->Prop
 | .sc x,u=>u=x/\sD x
 | .nest k l,u=>wY S w k u l
 | .nl,u=>u= .slice none 0 0
theorem LI.leaf {a:aA} {lf:d4} (h:LI S w a u) (z:oL a lf):mY S w lf u:=by
 cases a with
 | sc x=>
  obtain⟨rfl,D⟩:=h
  have e:lf= .sc u:=z D
  subst e
  exact⟨rfl,D⟩
 | nest k l=>
  have e:lf= .nest k l:=z
  subst e
  exact h
 | nl=>
  obtain⟨k,rfl⟩:∃k,lf= .nest k []:=z
  have e:u= .slice none 0 0:=h
  subst e
  exact wY.nil
theorem LI.back {lf:d4} (h:mY S w lf u):LI S w (LM lf) u:=by
 cases lf with
 | sc q=>exact h
 | nest k l=>exact h
theorem LI.mono {a:aA} (h:LI S w a u) (e:∀{k:K} {u:Value} {l:List (ty k)},wY S w k u l->wY S' w' k u l):LI S' w' a u:=by
 cases a with
 | sc x=>exact h
 | nest k l=>exact e h
 | nl=>exact h
section
variable {P:Program} {PC:rU} {X:mM} {nt:Nat} {Q:Exit->Act->World->Prop} {Z:gU} {a:Act} {w:World}
theorem St.drop {tm:Array Value} (h:St X Z w tm J N) {id:Nat} {blk:oE} {l:List (ty k)} (hid:Z.s id=⟨ver,some blk⟩) (H:kR blk k l) (I:99<=id) :
  Tr (Fz X w N Z.s) (Fz X w N (eN Z.s id ⟨ver,none⟩)) w w J J Z.s (eN Z.s id ⟨ver,none⟩)/\St X ⟨Z.t,eN Z.s id ⟨ver,none⟩⟩ w tm J N:=by
 refine St.step (Z:=Z) h (eN Z.s id ⟨ver,none⟩) (· = id) (bB _) (fun _ _ _=>rfl) (fun i R=>⟨bU _ _ R,rfl,rfl⟩) ?_ ?_ ?_ ?_ ?_ ?_ ?_ (fun q u n W e=>absurd e (h.rx_far I q u n W)) h.frm h.env
 ·rintro i rfl v o n f u ⟨D,M,Y⟩
  refine⟨by rw[aD];rw[hid]at D;exact D,M,fun blk k l e hr=> ?_⟩
  rw[aD]at e
  cases e
 ·rintro i rfl v i' j' u ⟨D,M,Y⟩
  refine⟨by rw[aD];rw[hid]at D;exact D,M,fun blk e=> ?_⟩
  rw[aD]at e
  cases e
 ·rintro i b rfl z;rw[aD]at z;cases z
 ·rintro i b rfl z;rw[aD]at z;cases z
 ·rintro i b rfl z;rw[aD]at z;cases z
 ·rintro i i' b b' rfl _ z;rw[aD]at z;cases z
 ·rintro j p hp rfl
  obtain⟨_,cs,e,_⟩:=h.ext j p hp
  rw[hid]at e;cases e;cases H
theorem oF.view {tm:Array Value} (h:St X Z w tm J N) {id:Nat} {full:Bool} {blk:oE} {l:List (ty k)} (hr:oF w J Z.s id ver off n full u) (hid:Z.s id=⟨ver,some blk⟩) (H:l3 blk k l) (hF:∀b,Fz X w N Z.s b->S b) (hN:∀b∈N id,S b) :
  wY S w k u ((l.drop off).take n):=by
 obtain⟨k1,k2,k3⟩:=hr
 obtain⟨e1,D⟩:=k3 _ k l hid H.row
 have I:((l.drop off).take n).length=n:=by rw[aF,cA];omega
 have z:=aLd H (h.blk id _ (by rw[hid])) hF hN
 rcases D with⟨D,e3⟩ |⟨b,c,o2,D,e3,e4,e5,e6⟩
 ·rcases z with⟨_,e,_⟩ |⟨b,cap,cur,q,_⟩
  ·subst e
   rw[e3]
   simp only[List.drop_nil,List.take_nil]
   exact wY.nil
  ·rw[D]at q;cases q
 ·rcases z with⟨e,_⟩ |⟨b',cap,cur,q1,q2,q3⟩
  ·rw[D]at e;cases e
  ·rw[D]at q1;cases q1
   obtain⟨f1,f2,f3,f4,f5,f6⟩:=q3
   have:=wY.make (S:=S) (w:=w) (l:=(l.drop off).take n) (a:=some ⟨b,o2,none⟩) (cap:=c) (by omega) (by omega) fun M=>by
    have R:n≠0:=by rintro rfl;simp at M
    have W:=e5 (.inl R)
    subst W
    refine⟨b,off*size k,rfl,hN b q2,fun i x Y j lf hlf=> ?_⟩
    have hi:i<n:=by have:=(iR.1 Y).1;omega
    rw[aU,if_pos hi,bK]at Y
    obtain⟨u,hu,hv⟩:=f6 (off+i) x Y j lf hlf
    refine⟨u,?_,hv⟩
    show w.cell? ⟨b,off*size k+(i*size k+j),none⟩ = some u
    rw[f2.cell,<-fE,<-cF]
    exact hu
   rw[I]at this
   rw[e4];exact this
theorem aBK {tm:Array Value} (h:St X Z w tm J N) {q:aA} (R:e9 (Fz X w N Z.s) w J Z.s p u) (e:(S5 p).Run PC Z.s q s' r wr) :
  St X ⟨Z.t,s'⟩ w tm J N/\Tr (Fz X w N Z.s) (Fz X w N s') w w J J Z.s s'/\LI (Fz X w N s') w q u/\∀i,s' i=Z.s i∨(s' i).blk=none:=by
 have T0:Tr (Fz X w N Z.s) (Fz X w N Z.s) w w J J Z.s Z.s:=⟨fun h=>h,fun h=>h,fun h=>h⟩
 unfold S5 at e
 split at e
 ·obtain⟨rfl,rfl,-,-⟩:q=_/\s'=_/\r=[]/\wr=[]:=e;exact⟨h,T0,R,fun _=> .inl rfl⟩
 ·obtain⟨rfl,rfl,-,-⟩:q=_/\s'=_/\r=[]/\wr=[]:=e;exact⟨h,T0,R,fun _=> .inl rfl⟩
 ·obtain⟨rfl,rfl,-,-⟩:q=_/\s'=_/\r=[]/\wr=[]:=e;exact⟨h,T0,R.2,fun _=> .inl rfl⟩
 ·rename_i id ver off n full
  have fin:∀(k:K) (l:List (ty k)) (blk:oE) (W w0:List Nat),Z.s id=⟨ver,some blk⟩->l3 blk k l->(match Nat.ble 99 id with
   | true=>(eM.wr id ⟨ver,none⟩ (.ret (.nest k ((l.drop off).take n))):eM aA)
   | false=> .fail).Run PC Z.s q s' W w0->(St X ⟨Z.t,s'⟩ w tm J N/\Tr (Fz X w N Z.s) (Fz X w N s') w w J J Z.s s'/\LI (Fz X w N s') w q u/\∀i,s' i=Z.s i∨(s' i).blk=none):=by
   intro k l blk W w0 z hw e
   split at e
   case h_2=>exact e.elim
   rename_i Y
   obtain⟨w',-,e⟩:=e
   obtain⟨rfl,rfl,-,-⟩:q=_/\s'=_/\W=[]/\w'=[]:=e
   obtain⟨T,h2⟩:=h.drop z hw.row (bY Y)
   refine⟨h2,T,oF.view h R z hw (fun b z=> ?_) fun b I=> ?_,fun i=>by
    by_cases D:i=id
    ·subst D;exact .inr (by rw[aD])
    ·exact .inl (bU _ _ D)⟩
   ·exact⟨z.1,fun⟨i,blk,H,h3⟩=>z.2.1 ⟨i,blk,(by
     by_cases D:i=id
     ·subst D;rw[aD]at H;cases H
     ·rw[bU _ _ D]at H;exact H),h3⟩,z.2.2⟩
   ·have M:(Z.s id).blk=some blk:=by rw[z]
    refine⟨h.lt id _ M b I,fun⟨i,blk,H,h3⟩=> ?_,?_⟩
    ·by_cases D:i=id
     ·subst D;rw[aD]at H;cases H
     ·rw[bU _ _ D]at H;exact h.disj i id _ _ H M D b h3 I
    ·exact .inr (h.new id _ M b I)
  obtain⟨blk,r',z,-,e⟩:=fM e
  cases blk with
  | box cs=>exact e.elim
  | objb o=>exact e.elim
  | iterb=>exact e.elim
  | rowx=>exact e.elim
  | rowb k l=>exact fin k l _ _ _ z .b e
  | rowd k l=>exact fin k l _ _ _ z .d e
 ·exact e.elim
theorem CS {tm:Array Value} {w:World} {t:Nat->PV} {J:Nat->Option (Nat×Nat)} {N:Nat->List Nat}:∀{ps:List PV} {us:List Value} {qs:List aA} {s s':cU} {r wr:List Nat},St X ⟨t,s⟩ w tm J N->bC (e9 (Fz X w N s) w J s) ps us->(KP ps).Run PC s qs s' r wr->
  St X ⟨t,s'⟩ w tm J N/\Tr (Fz X w N s) (Fz X w N s') w w J J s s'/\bC (LI (Fz X w N s') w) qs us/\∀i,s' i=s i∨(s' i).blk=none
 | [],[],qs,s,s',r,wr,h,_,I=>by
  obtain⟨rfl,rfl,-,-⟩:=I
  exact⟨h,⟨fun h=>h,fun h=>h,fun h=>h⟩,trivial,fun _=> .inl rfl⟩
 | p::ps,u::us,qs,s,s',r,wr,h,⟨M,R⟩,I=>by
  obtain⟨a1,s1,r1,w1,r2,w2,W,Y⟩:=cB I
  obtain⟨a2,s2,r3,w3,r4,w4,k3,k4⟩:=cB Y
  obtain⟨e,z,-,-⟩:=k4
  subst e z
  obtain⟨m1,D,m3,m7⟩:=aBK (Z:=⟨t,s⟩) h M W
  obtain⟨m4,H,m6,m8⟩:=CS m1 (R.mono fun _ _=>D.vs) k3
  exact⟨m4,⟨fun h=>H.row (D.row h),fun h=>H.ref (D.ref h),fun h=>H.ptr (D.ptr h)⟩,⟨m3.mono H.row,m6⟩,fun i=>(m8 i).elim (fun e=>(m7 i).elim (fun z=> .inl (e.trans z)) fun z=> .inr (by rw[e];exact z)) .inr⟩
 | [],_::_,_,_,_,_,_,_,h,_=>h.elim
 | _::_,[],_,_,_,_,_,_,h,_=>h.elim
theorem aFR {tm:Array Value} (h:St X Z w tm J N) {id:Nat} {l:List (ty k)} {x y:ty k} {ls:List aA} (hid:Z.s id=⟨ver,some (.rowb k l)⟩) (hβ:J id=some (b,0))
  (hx:l[i]?=some x) (hv:bC (LI (Fz X w N Z.s) w) ls us) (hy:nJ k (splice ((aG x).map LM) j ls)=some y) (hj:j+ls.length<=size k) :
  ∃cur E,gY w b cur E/\i*size k+j+us.length<=cur.size/\St X ⟨Z.t,eN Z.s id ⟨ver,some (.rowb k (l.set i y))⟩⟩ (w.setRow b (iL cur (i*size k+j) us)) tm J N:=by
 have hb:=h.blk id _ (by rw[hid])
 rcases hb with⟨e,_⟩ |⟨b',cap,cur,q1,q2,q3,q4,q5,q6,q7,q8⟩
 ·rw[hβ]at e;cases e
 rw[hβ]at q1;cases q1
 have hul:=hv.len
 have hi:i<l.length:=(iR.1 hx).1
 have hmul:i*size k+size k<=cap*size k:=by
  have:(i+1)*size k<=cap*size k:=bF _ (by omega)
  rw[cF]at this;omega
 have H:i*size k+j+us.length<=cur.size:=by rw[q7];omega
 refine⟨cur,mJ k,q4,H,?_⟩
 have hsz:=CN H
 obtain⟨fz,hh,hice⟩:=q4
 have hnew:(w.setRow b (iL cur (i*size k+j) us)).heap[b]?=some (.cells (iL cur (i*size k+j) us) (mJ k) fz):=setRow_heap w b cur _ _ fz hh
 have M:∀z,z<w.heap.size->z∉N id->(w.setRow b (iL cur (i*size k+j) us)).heap[z]?=w.heap[z]?:=fun z _ hz=>setRow_other w b z _ (fun e=>hz (by rw[q2,e];simp))
 have D:(Z.s id).blk=some (.rowb k l):=by rw[hid]
 refine(St.step (Z:=Z) h (eN Z.s id ⟨ver,some (.rowb k (l.set i y))⟩) (· = id) (by simp) (fun z hz hc=>M z hz (hc id _ rfl D)) (fun i hi=>⟨bU _ _ hi,rfl,rfl⟩) ?_ ?_ ?_ ?_ ?_ ?_ ?_ (h.rx_same hid .b .b (by simp)) ?_ ?_).2
 ·rintro Y rfl v o n f u ⟨k1,k2,k3⟩
  refine⟨by rw[aD];rw[hid]at k1;exact k1,k2,fun blk' k' l' e hr=> ?_⟩
  rw[aD]at e
  cases e
  cases hr
  obtain⟨p1,p2⟩:=k3 _ k l hid .b
  refine⟨by simpa using p1,?_⟩
  rcases p2 with p2|⟨b2,c,o2,p3,p4,p5,p5o,p6⟩
  ·exact .inl p2
  ·refine .inr ⟨b2,c,o2,p3,p4,p5,p5o,fun hf=> ?_⟩
   obtain⟨p7,p8,p9⟩:=p6 hf
   rw[hβ]at p3;cases p3
   refine⟨p7,by simpa using p8,fun c2 E2 fz2 hc2=> ?_⟩
   rw[hnew]at hc2
   cases hc2
   rw[hsz]
   exact p9 cur _ fz hh
 ·rintro Y rfl v R W u ⟨k1,k2,k3⟩
  refine⟨by rw[aD];rw[hid]at k1;exact k1,k2,fun blk e=> ?_⟩
  rw[aD]at e
  cases e
  obtain⟨b2,off2,p1,p2⟩:=k3 _ hid
  exact⟨b2,off2,p1,by simpa using p2⟩
 ·rintro Y blk rfl hbk T
  rw[aD]at hbk
  cases hbk
  refine .inr ⟨b,cap,_,hβ,q2,by simpa using q3,⟨fz,hnew,by rw[hsz];exact hice⟩,by simpa using q5,q6,by rw[hsz];exact q7,fun R x' hx' W lf hlf=> ?_⟩
  have tl:∀{lf:d4} {u:Value},mY (Fz X w N Z.s) w lf u->mY (Fz X (w.setRow b (iL cur (i*size k+j) us)) N (eN Z.s Y ⟨ver,some (.rowb k (l.set i y))⟩)) (w.setRow b (iL cur (i*size k+j) us)) lf u:=by
   intro lf u hl
   cases lf with
   | sc q=>exact hl
   | nest k' l'=>exact T.row hl
  have hj':W<size k:=by have:=(iR.1 hlf).1;rwa[cP]at this
  by_cases hii:R=i
  ·subst hii
   rw[jX (by omega)]at hx'
   cases hx'
   have hget:=(iX hy).get W
   by_cases hin:j<=W/\W<j+ls.length
   ·obtain⟨m,rfl⟩:∃m,W=j+m:=⟨W-j,by omega⟩
    have hm:m<ls.length:=by omega
    obtain⟨lf',I,hI⟩:=hget ls[m] (by rw[sV (by simp[cP];omega) (by omega)];simp[hm])
    rw[hlf]at I
    cases I
    obtain⟨u,hu,hli⟩:=hv.get m ls[m] (by simp[hm])
    exact⟨u,by show(iL cur (R*size k+j) us)[R*size k+(j+m)]?=some u;rw[show R*size k+(j+m)=R*size k+j+m by omega,KK H (by omega)];exact hu,tl (hli.leaf hI)⟩
   ·have hjx:W<(aG x).length:=by rw[cP];exact hj'
    obtain⟨u,hu,hl⟩:=q8 R x hx W (aG x)[W] (by simp[hjx])
    obtain⟨lf',I,hI⟩:=hget (LM (aG x)[W]) (by rw[pK (by simp[cP];omega) (by omega),bX,iD hjx];rfl)
    rw[hlf]at I
    cases I
    exact⟨u,by show(iL cur (R*size k+j) us)[R*size k+W]?=some u;rw[pU H (by omega)];exact hu,tl ((LI.back hl).leaf hI)⟩
  ·rw[List.getElem?_set_ne (Ne.symm hii)]at hx'
   obtain⟨u,h9,h10⟩:=q8 R x' hx' W lf hlf
   refine⟨u,?_,tl h10⟩
   show(iL cur (i*size k+j) us)[R*size k+W]?=some u
   rw[pU H ?_]
   ·exact h9
   ·rcases rP R i with h11|h11
    ·left
     have:(R+1)*size k<=i*size k:=bF _ h11
     rw[cF]at this;omega
    ·right
     have:(i+1)*size k<=R*size k:=bF _ (by omega)
     rw[cF]at this;omega
 ·rintro Y blk rfl hbk z hz
  exact .inl ⟨Y,_,rfl,D,hz⟩
 ·rintro Y blk rfl hbk
  exact h.nodup Y _ D
 ·rintro Y R b1 b2 rfl rfl _ _ hne
  exact absurd rfl hne
 ·rintro Y p hp rfl
  obtain⟨e1,cs',e2,e3⟩:=h.ext Y p hp
  rw[D]at e2
  cases e2
 ·refine Frm.turn h id _ D rfl rfl rfl (by simp) M fun i2 b2 off2 n hi2 hn hm=> ?_
  exfalso
  have hm':b2=b:=by rw[q2]at hm;simpa using hm
  subst hm'
  obtain⟨e1,cs',e2,e3⟩:=h.ext i2 _ hi2
  have hne:i2≠id:=fun e=>by subst e;rw[D]at e2;cases e2
  have hb2:=h.blk i2 _ e2
  obtain⟨b3,off3,_,_,p1,p2,_⟩:=hb2
  rw[e1]at p1
  cases p1
  exact h.disj i2 id _ _ e2 D hne b2 (by rw[p2];simp) hm
 ·exact St.env_turn h id _ D M
end
open Go.RowKit
section
variable {P:Program} {PC:rU} {X:mM} {nt:Nat} {Q:Exit->Act->World->Prop} {Z:gU} {a:Act} {w:World}
theorem Frm.grow (h:Frm X w) (z:w'.os=w.os) (D:w'.tape=w.tape) (H:w'.output=w.output) (I:w.heap.size<=w'.heap.size) (e:∀b,b<w.heap.size->w'.heap[b]?=w.heap[b]?):Frm X w':=by
 obtain⟨M,R,W,Y,h5,h6⟩:=h
 refine⟨z.trans M,D.trans R,H.trans W,aX Y I,fun b hb hf=>(e b (by omega)).trans (h5 b hb hf),fun j b off n hj hn=> ?_⟩
 obtain⟨c0,c,E,fz,q1,q2,q3,q4⟩:=h6 j b off n hj hn
 exact⟨c0,c,E,fz,q1,(e b ((Array.getElem?_eq_some_iff.1 q2).1)).trans q2,q3,q4⟩
theorem OH {tm:Array Value} (h:St X Z w tm J N) (id:Nat) (hid:99<=id) (blk:oE) (p:Option (Nat×Nat)) (L:List Nat)
  (ho:w'.os=w.os) (ht:w'.tape=w.tape) (hu:w'.output=w.output) (hz:w.heap.size<=w'.heap.size) (z:∀b,b<w.heap.size->w'.heap[b]?=w.heap[b]?)
  (hL:∀x∈L,w.heap.size<=x/\x<w'.heap.size) (I:L.Nodup)
  (hb:Tr (Fz X w N Z.s) (Fz X w' (eN N id L) (eN Z.s id ⟨(Z.s id).ver+1,some blk⟩)) w w' J (eN J id p) Z.s (eN Z.s id ⟨(Z.s id).ver+1,some blk⟩)->yE (Fz X w' (eN N id L) (eN Z.s id ⟨(Z.s id).ver+1,some blk⟩)) w' (eN J id p) (eN Z.s id ⟨(Z.s id).ver+1,some blk⟩) L id blk) :
  Tr (Fz X w N Z.s) (Fz X w' (eN N id L) (eN Z.s id ⟨(Z.s id).ver+1,some blk⟩)) w w' J (eN J id p) Z.s (eN Z.s id ⟨(Z.s id).ver+1,some blk⟩)/\St X ⟨Z.t,eN Z.s id ⟨(Z.s id).ver+1,some blk⟩⟩ w' tm (eN J id p) (eN N id L):=by
 refine St.step (Z:=Z) h (eN Z.s id ⟨(Z.s id).ver+1,some blk⟩) (· = id) hz (fun x H _=>z x H) (fun i M=>⟨bU _ _ M,bU _ _ M,bU _ _ M⟩) ?_ ?_ ?_ ?_ ?_ ?_ ?_ (fun q u n R e=>absurd e (h.rx_far hid q u n R)) ?_ ?_
 ·rintro i rfl v o n f u ⟨W,Y,k3⟩
  refine⟨by rw[aD];exact Nat.le_succ_of_le W,Y,fun blk k l e hr=> ?_⟩
  rw[aD]at e
  cases e
  omega
 ·rintro i rfl v i' j' u ⟨W,Y,k3⟩
  refine⟨by rw[aD];exact Nat.le_succ_of_le W,Y,fun blk e=> ?_⟩
  rw[aD]at e
  cases e
  omega
 ·rintro i b rfl D T
  rw[aD]at D
  cases D
  rw[aD]
  exact hb T
 ·rintro i b rfl D x H
  rw[aD]at H
  exact .inr (hL x H)
 ·rintro i b rfl D
  rw[aD]
  exact I
 ·rintro i i' b1 b2 rfl rfl _ _ hne
  exact absurd rfl hne
 ·rintro i q R rfl
  have:=(iR.1 R).1
  have:=X.few
  omega
 ·exact h.frm.grow ho ht hu hz z
 ·exact X.cl w w' h.env fun b hb=>z b (by have:=X.hw;have:=h.frm.size;omega)
theorem xX (o:Oper):99<=rS o:=by unfold rS;split<;>omega
theorem aEp {tm:Array Value} (h:St X Z w tm J N) (id:Nat) (hid:99<=id) {ps:List PV} (D:bC (e9 (Fz X w N Z.s) w J Z.s) ps us) (I:∀x∈us,x.oneCell'=true) (E:TypeId) :
  St X ⟨Z.t,eN Z.s id ⟨(Z.s id).ver+1,some (.box ps)⟩⟩ (w.alloc (.cells us.toArray E)) tm (eN J id (some (w.heap.size,0))) (eN N id [w.heap.size]):=by
 refine(OH (w':=w.alloc (.cells us.toArray E)) h id hid (.box ps) (some (w.heap.size,0)) [w.heap.size] rfl rfl rfl (by simp) (fun b M=>Below.heap_alloc w _ b M) (by simp) (by simp) fun T=> ?_).2
 have e:=D.len
 refine⟨w.heap.size,0,us.toArray,E,by rw[aD],rfl,gY.of (heap_alloc_new w _),by simp[e],fun j p R=> ?_⟩
 obtain⟨u,H,z⟩:=D.get j p R
 exact⟨u,by simpa using H,I u (tF H),T.vs z⟩
theorem fA {id:Nat} {b:oE} {k:Nat->eM PV} (h:(pG id b k).Run PC s v s' r wr):∃e wr',(k ((s id).ver+1)).Run PC (eN s id ⟨(s id).ver+1,some b⟩) v s' e wr':=by
 obtain⟨e,_,w',_,h⟩:=h
 exact⟨_,_,h⟩
theorem aCz (hF:fT P) {t:TypeId} (W:o.op= .box t x) (Y:dI nt x=true) (hg:cE X nt Z a w) (h:(aKQ o (opd Z.t x)).Run PC Z.s v s' r wr) :
  o.wp P a w (fun a' w'=>cE X nt ⟨eJ o.dst v Z.t,s'⟩ a' w') Q:=by
 obtain⟨R,hd,J,N,z⟩:=id hg
 have hv:=z.opd R Y
 unfold aKQ at h
 split at h
 case isFalse=>exact h.elim
 rename_i D
 obtain⟨r',wr',h⟩:=fA h
 obtain⟨rfl,rfl,-,-⟩:v=_/\s'=_/\r'=[]/\wr'=[]:=h
 obtain⟨us,hc,H,I⟩:=pF hv D
 have M:=aEp z (rS o) (xX o) H I t
 refine jM R hd ?_ M ?_ (u:= .pointer (some ⟨w.heap.size,0,none⟩))
 ·unfold execOp
  simp only[W,Instr.box,newVar,newRow,hc]
  rfl
 ·refine⟨by show _<=(eN Z.s _ _ _).ver;rw[aD];exact bB _,.inl ⟨_,rfl⟩,fun blk e=> ?_⟩
  rw[aD]at e
  cases e
  exact⟨w.heap.size,0,by rw[aD],rfl⟩
theorem qH (hF:fT P) {t:TypeId} (ho:o.op= .store t x y) (hx:dI nt x=true) (hy:dI nt y=true) (hg:cE X nt Z a w)
  (h:(HF t (opd Z.t x) (opd Z.t y)).Run PC Z.s v s' r wr):o.wp P a w (fun a' w'=>cE X nt ⟨eJ o.dst v Z.t,s'⟩ a' w') Q:=by
 obtain⟨hs,hd,J,N,z⟩:=id hg
 have M:=z.opd hs hx
 have hvy:=z.opd hs hy
 unfold HF at h
 split at h
 case h_1=>exact h.elim
 rename_i ag n ht
 split at h
 case isFalse=>exact h.elim
 rename_i D
 obtain⟨us,hc,H,R⟩:=pF hvy D.2
 have hul:=H.len
 have hi:(P.info? t).map (·.size)=some us.length:=by
  rw[<-hul,D.1]
  cases ag with
  | true=>exact(hF.agg t n ht).2
  | false=>obtain⟨e,_,h2⟩:=hF.one t n ht;rw[e];exact h2
 have fin:∀(b off:Nat) (cur:Array Value) (E:TypeId),a.eval x= .pointer (some ⟨b,off,none⟩)->gY w b cur E->off+us.length<=cur.size->
   (execOp a.eval o).run P w= .ok .skip (w.setRow b (iL cur off us)):=by
  intro b off cur E he hr Y
  unfold execOp
  simp only[ho,he,Instr.storeAt,Instr.sureAddr,Sem.run_bind,Sem.run_pure,Result.andThen_ok,EV t b off (a.eval y) us hc cur E hr Y R hi]
  rfl
 split at h
 case h_2=>exact h.elim
 rename_i id ver i j he
 rw[he]at M
 obtain⟨_,_,M⟩:=M
 obtain⟨blk,r',hb,rfl,h⟩:=fM h
 obtain⟨b,off,hβ,M⟩:=M blk hb
 cases blk with
 | box cs=>
  simp only at h
  split at h
  case isFalse=>exact h.elim
  rename_i hj
  obtain⟨w2,_,rfl,rfl,-,-⟩:=h
  obtain⟨b',off',cur,E,q1,q2,q3,q4,q5⟩:=z.blk id _ (by rw[hb])
  rw[hβ]at q1;cases q1
  exact sU hs hd (fin b (off+j) cur E M q3 (by omega)) (aFQ z hb hβ H R (by omega) q3)
 | objb o=>exact h.elim
 | iterb=>exact h.elim
 | rowd=>exact h.elim
 | rowx=>exact h.elim
 | rowb k l=>
  obtain⟨rfl,hil,M⟩:=M
  simp only at h
  obtain⟨ls,s1,r1,w1,r2,w2,h1,h⟩:=cB h
  obtain⟨hst1,T,hls,hsm⟩:=CS (t:=Z.t) z H h1
  have hll:=hls.len
  obtain⟨blk,r3,W,-,h⟩:=fM h
  cases blk with
  | box cs=>exact h.elim
  | objb o=>exact h.elim
  | iterb=>exact h.elim
  | rowd=>exact h.elim
  | rowx=>exact h.elim
  | rowb k1 l1=>
  have I:Z.s id=⟨ver,some (.rowb k1 l1)⟩:=by
   rcases hsm id with e|e
   ·rw[<-e];exact W
   ·rw[W]at e;cases e
  rw[hb]at I
  cases I
  obtain⟨x0,hx0,h⟩:=h
  simp only at h
  split at h
  case isFalse=>exact h.elim
  rename_i hjn
  split at h
  case h_2=>exact h.elim
  rename_i y0 hy0
  obtain⟨w3,-,e1,rfl,-,-⟩:=h
  subst e1
  obtain⟨cur,E,q1,q2,q3⟩:=aFR (Z:=⟨Z.t,s1⟩) hst1 W hβ hx0 hls hy0 (by omega)
  exact sU hs hd (fin b (i*size k+j) cur E M q1 q2) q3
end
open Go.RowKit
def loK:IntKind->Int| .i8=> -128| .i16=> -32768| .i32=> -2147483648| .i64=> -9223372036854775808|_=>0
def hiK:IntKind->Int| .i8=>127| .i16=>32767| .i32=>2147483647| .i64=>9223372036854775807| .u8=>255| .u16=>65535| .u32=>4294967295| .u64=>18446744073709551615
theorem iS (k:IntKind) (n:Int):k.wrap n=n↔loK k<=n/\n<=hiK k:=by
 cases k<;>simp[IntKind.wrap,IntKind.bits,IntKind.signed,loK,hiK]<;>(try split)<;>omega
theorem aJ8 (k:IntKind) (n:Int):loK k<=k.wrap n/\k.wrap n<=hiK k:=by
 cases k<;>simp[IntKind.wrap,IntKind.bits,IntKind.signed,loK,hiK]<;>omega
theorem yD (k:IntKind) (n:Int):sD (.int k (k.wrap n)):=(iS k _).2 (aJ8 k n)
theorem aJ3 {k:IntKind} {b:Int} (h:sD (.int k a)):sD (.int k (a.tmod b)):=by
 have D:=(iS k a).1 h
 refine(iS k _).2 ?_
 have H:(a.tmod b).natAbs<=a.natAbs:=by rw[Int.natAbs_tmod];exact Nat.mod_le _ _
 have e:0<=a->0<=a.tmod b:=fun h=>Int.tmod_nonneg b h
 have I:loK k<=0/\0<=hiK k:=by cases k<;>simp[loK,hiK]
 have z:a<0->a.tmod b<=0:=fun h=>by
  have:=Int.tmod_nonneg b (a:= -a) (by omega)
  rw[Int.neg_tmod]at this;omega
 rcases Int.lt_or_le a 0 with h4|h4
 ·have:=z h4;omega
 ·have:=e h4;omega
theorem aJ2 {k:IntKind} (h:sD (.int k a)):sD (.int k (a.fdiv (2 ^ n))):=by
 have H:=(iS k a).1 h
 refine(iS k _).2 ?_
 have e:(0:Int)<2 ^ n:=Int.pow_pos (by decide)
 rw[Int.fdiv_eq_ediv_of_nonneg _ (Int.le_of_lt e)]
 have I:loK k<=0/\0<=hiK k:=by cases k<;>simp[loK,hiK]
 rcases Int.lt_or_le a 0 with h4|h4
 ·have z:a<=a / 2 ^ n:=by
   rw[Int.le_ediv_iff_mul_le e]
   have:a*2 ^ n<=a*1:=Int.mul_le_mul_of_nonpos_left (by omega) (by omega)
   omega
  have D:a / 2 ^ n<=0:=Int.ediv_nonpos_of_nonpos_of_neg (by omega) e
  omega
 ·have z:a / 2 ^ n<=a:=Int.ediv_le_self _ h4
  have D:0<=a / 2 ^ n:=Int.ediv_nonneg h4 (Int.le_of_lt e)
  omega
section
variable {P:Program} {w:World} {PC:rU} {s s':cU} {r wr:List Nat} {u:PV}
theorem SU {k:IntKind} {n:Int} (h:(ZV k n).Run PC s u s' r wr):s'=s/\u= .v (.int k (k.wrap n))/\sD (.int k (k.wrap n)):=by
 unfold ZV at h
 cases z:k.signed<;>simp only[z]at h
 ·obtain⟨rfl,rfl,-,-⟩:u=_/\s'=_/\r=[]/\wr=[]:=h
  exact⟨rfl,rfl,yD _ _⟩
 ·obtain⟨e,rfl,rfl,-,-⟩:cN k n/\u=_/\s'=_/\r=[]/\wr=[]:=h
  have e:k.wrap n=n:=e
  exact⟨rfl,by rw[e],yD _ _⟩
theorem aFh {op:BinOp} {t:TypeId} {k:IntKind} {b:Int} (h:(aEf op k a b).Run PC s u s' r wr) (D:sD (.int k a)) (W:sD (.int k b)):s'=s/\∃v,u= .v v/\(binOp op t (.int k a) (.int k b)).run P w= .ok v w/\sD v:=by
 have val:∀v:Value,(eM.ret (PV.v v)).Run PC s u s' r wr->(binOp op t (.int k a) (.int k b)).run P w= .ok v w->sD v->s'=s/\∃v,u= .v v/\(binOp op t (.int k a) (.int k b)).run P w= .ok v w/\sD v:=fun v h z H=>⟨h.2.1,v,h.1,z,H⟩
 have ri:∀n:Int,(ZV k n).Run PC s u s' r wr->(binOp op t (.int k a) (.int k b)).run P w= .ok (.int k (k.wrap n)) w->s'=s/\∃v,u= .v v/\(binOp op t (.int k a) (.int k b)).run P w= .ok v w/\sD v:=fun n h z=>by
  obtain⟨I,M,R⟩:=SU h
  exact⟨I,_,M,z,R⟩
 cases op<;>simp only[aEf]at h
 all_goals first
  | exact h.elim
  | exact ri _ h (by simp[binOp,Op.intArith,Sem.run_pure])
  | (obtain ⟨e, h⟩ : b ≠ 0 /\ _ := h
     first
      | exact ri _ h (by simp [binOp, Op.intDiv, e, Sem.run_pure])
      | exact val _ h (by simp [binOp, Op.intDiv, e, Sem.run_pure]) (aJ3 D))
  | exact val _ h (by simp[binOp,Op.intArith,Op.intBits,Op.intCmp,Sem.run_pure]) (by first|exact yD _ _|trivial)
theorem aH5 {op:BinOp} {t:TypeId} {k k':IntKind} {b:Int} (e:op= .shl∨op= .shr) (h:(aJr op k a b).Run PC s u s' r wr) (D:sD (.int k a)):s'=s/\∃v,u= .v v/\(binOp op t (.int k a) (.int k' b)).run P w= .ok v w/\sD v:=by
 obtain⟨z,h⟩:0<=b/\_:=h
 have z:¬b<0:=by omega
 rcases e with rfl|rfl
 ·exact⟨h.2.1,_,h.1,by simp[binOp,Op.shift,z,Sem.run_pure],yD _ _⟩
 ·exact⟨h.2.1,_,h.1,by simp[binOp,Op.shift,z,Sem.run_pure],aJ2 D⟩
theorem aFS {op:BinOp} {t:TypeId} {a b:ByteArray} (h:(aIa op a b).Run PC s u s' r wr):s'=s/\∃v,u= .v v/\(binOp op t (.string a) (.string b)).run P w= .ok v w/\sD v:=by
 have e:(a.toList==b.toList)=decide (a=b):=by
  rw[dG,fX,bN]
  constructor
  ·intro h
   have z:=ByteArray.toList_eq a
   have D:=ByteArray.toList_eq b
   rw[h]at z
   exact ByteArray.ext (Array.ext' (z.symm.trans D))
  ·intro h;rw[h]
 cases op<;>simp only[aIa]at h
 all_goals first
  | exact h.elim
  | (obtain ⟨H, h⟩ : a.size + b.size <= 9223372036854775807 /\ _ := h
     refine ⟨h.2.1, _, h.1, ?_, ?_⟩
     ·simp [binOp, Op.stringOp, Sem.run_pure, IntKind.max, IntKind.signed, IntKind.bits]
      omega
     ·show (a ++ b).size <= _
      rw [aH]; exact H)
  | exact⟨h.2.1,_,h.1,by simp[binOp,Op.stringOp,Sem.run_pure,e],trivial⟩
end
open Go.RowKit
def HB (t:TypeId) (i:Nat) (p:PV):eM PV:=match X5 t i with
 | some (off,_,_)=>match p with
  | .ptr id ver a j=>oG id ver fun
   | .box _=> .ret (.ptr id ver a (j+off))
   | .rowb _ _=> .ret (.ptr id ver a (j+off))
   | .rowd _ _=> .ret (.ptr id ver a (j+off))
   | .rowx _ _ _ _=> .ret (.ptr id ver a (j+off))
   | .objb _=> .fail
   | .iterb _ _ _ _ _=> .fail
  | .eptr k l a j=> .ret (.eptr k l a (j+off))
  | _=> .fail
 | none=> .fail
def aCF (t:TypeId) (i:Nat) (p:PV):eM PV:=match X5 t i with
 | some (off,ag,n)=>match p with
  | .agg cs=>uG ag cs off n
  | _=> .fail
 | none=> .fail
def HC (t:TypeId) (x i:PV):eM PV:=match i with
 | .v (.int _ n)=>match x with
  | .row false k l=>if F3 t=some k then NR (0<=n/\n<l.length) (.ret (.eptr k l n.toNat 0))else .fail
  | .ref id ver off m _=>oG id ver fun
   | .rowb k _=>if F3 t=some k then NR (0<=n/\n<m) (.ret (.ptr id ver (off+n.toNat) 0))else .fail
   | .rowd k _=>if F3 t=some k then NR (0<=n/\n<m) (.ret (.ptr id ver (off+n.toNat) 0))else .fail
   | .rowx k _ _ _=>if F3 t=some k then NR (0<=n/\n<m) (.ret (.ptr id ver (off+n.toNat) 0))else .fail
   | .box _=> .fail
   | .objb _=> .fail
   | .iterb _ _ _ _ _=> .fail
  | _=> .fail
 | _=> .fail
def aCG (t:TypeId) (x i:PV):eM PV:=match x,i with
 | .v (.string s),.v (.int _ n)=>if QD t then NR (0<=n) (.opt s[n.toNat]? fun b=> .ret (.v (.int .u8 b.toNat)))else .fail
 | _,_=> .fail
def PN (x:PV) (i:Nat):eM PV:=match x with
 | .tup vs=>match vs[i]? with
  | some v=> .ret v
  | none=> .fail
 | _=> .fail
def aDM:IntKind->IntKind->Bool
 | .u8,.i64=>true| .u8,.u64=>true| .u8,.u32=>true| .u8,.i32=>true| .u32,.i64=>true| .u32,.u64=>true| .i32,.i64=>true| .i64,.i64=>true| .u8,.u8=>true| .u32,.u32=>true| .u64,.u64=>true
 | _,_=>false
def aCE (src dst:TypeId) (x:PV):eM PV:=match cvT src dst,x with
 | some (.int k),.v (.int k0 n)=>match aDM k0 k with
  | true=> .ret (.v (.int k n))
  | false=>ZV k n
 | _,_=> .fail
def eUn (op:UnOp) (x:PV):eM PV:=match op,x with
 | .not,.v (.bool b)=> .ret (.v (.bool (!b)))
 | .neg,.v (.int k n)=>ZV k (0-n)
 | .xor,.v (.int k n)=>aEf .xor k (if k.signed then -1 else k.max) n
 | _,_=> .fail
theorem aB5 {e k:IntKind} {n:Int} (h:aDM e k=true) (z:sD (.int e n)):k.wrap n=n:=by
 have D:=(iS e n).1 z
 refine(iS k n).2 ?_
 cases e<;>cases k<;>simp[aDM]at h<;>simp[loK,hiK]at D⊢<;>omega
section
variable {P:Program} {PC:rU} {X:mM} {nt:Nat} {Q:Exit->Act->World->Prop} {Z:gU} {a:Act} {w:World} {o:Oper} {v:PV} {s':cU} {r wr:List Nat}
theorem BA (b o i:Nat):((⟨b,o,none⟩:Addr).add i)=⟨b,o+i,none⟩:=nH b o i
theorem aBJ (D:fT P) {t:TypeId} {ag:Bool} (H:X5 t i=some (off,ag,n)) (p:Addr):(Instr.fieldAt t (.pointer (some p)) i).run P w= .ok (.pointer (some (p.add off))) w:=by
 obtain⟨I,fs,f,M,R,W,_,z,_⟩:=D.fld t i off ag n H
 cases e:P.info? f.type with
 | none=>simp[e]at z
 | some inf=>
  have Y:inf.size=n:=by simpa [e]using z
  simp[Instr.fieldAt,run_underlying M,R,Instr.sureAddr,fieldPlace,sizeOf,typeInfo,e,Y,I,W]
theorem K9 (hF:fT P) {t:TypeId} (ho:o.op= .fieldAddr t x i) (hx:dI nt x=true) (hg:cE X nt Z a w) (h:(HB t i (opd Z.t x)).Run PC Z.s v s' r wr) :
  o.wp P a w (fun a' w'=>cE X nt ⟨eJ o.dst v Z.t,s'⟩ a' w') Q:=by
 obtain⟨hs,hd,J,N,M⟩:=id hg
 have hv:=M.opd hs hx
 unfold HB at h
 split at h
 case h_2=>exact h.elim
 rename_i off ag n ht
 have fin:∀p,a.eval x= .pointer (some p)->s'=Z.s->gM (Fz X w N Z.s) w J Z.s v (.pointer (some (p.add off)))->o.wp P a w (fun a' w'=>cE X nt ⟨eJ o.dst v Z.t,s'⟩ a' w') Q:=by
  rintro p R rfl hvv
  refine cK hs hd M ?_ hvv
  unfold execOp
  simp only[ho,R,Sem.run_bind,aBJ hF ht,Result.andThen_ok]
  rfl
 split at h
 case h_3=>exact h.elim
 case h_1=>
  rename_i id ver i0 j R
  rw[R]at hv
  obtain⟨k1,_,k3⟩:=hv
  obtain⟨blk,r',W,rfl,h⟩:=fM h
  obtain⟨b,D,H,I⟩:=k3 blk W
  cases blk with
  | box cs=>
   obtain⟨rfl,rfl,-,-⟩:v=_/\s'=_/\r'=[]/\wr=[]:=h
   refine fin _ I rfl ⟨k1,.inl ⟨_,rfl⟩,fun blk2 e=>⟨b,D,H,?_⟩⟩
   rw[W]at e;cases e
   simp only
   rw[BA,fE]
  | rowb k l=>
   obtain⟨rfl,rfl,-,-⟩:v=_/\s'=_/\r'=[]/\wr=[]:=h
   obtain⟨z,Y,h5⟩:=I
   refine fin _ h5 rfl ⟨k1,.inl ⟨_,rfl⟩,fun blk2 e=>⟨b,D,H,?_⟩⟩
   rw[W]at e;cases e
   exact⟨z,Y,by rw[BA,fE]⟩
  | rowd k l=>
   obtain⟨rfl,rfl,-,-⟩:v=_/\s'=_/\r'=[]/\wr=[]:=h
   obtain⟨z,Y,h5⟩:=I
   refine fin _ h5 rfl ⟨k1,.inl ⟨_,rfl⟩,fun blk2 e=>⟨b,D,H,?_⟩⟩
   rw[W]at e;cases e
   exact⟨z,Y,by rw[BA,fE]⟩
  | rowx k l i1 cs=>
   obtain⟨rfl,rfl,-,-⟩:v=_/\s'=_/\r'=[]/\wr=[]:=h
   obtain⟨z,Y,h5⟩:=I
   refine fin _ h5 rfl ⟨k1,.inl ⟨_,rfl⟩,fun blk2 e=>⟨b,D,H,?_⟩⟩
   rw[W]at e;cases e
   exact⟨z,Y,by rw[BA,fE]⟩
  | objb o=>exact h.elim
  | iterb=>exact h.elim
 case h_2=>
  rename_i k l i0 j R
  rw[R]at hv
  obtain⟨b,D,H,I,z⟩:=hv
  obtain⟨rfl,rfl,-,-⟩:v=_/\s'=_/\r=[]/\wr=[]:=h
  refine fin _ I rfl ⟨b,D,H,?_,z⟩
  rw[BA,fE]
theorem LA (hF:fT P) {t:TypeId} (ho:o.op= .indexAddr t x y) (hx:dI nt x=true) (hy:dI nt y=true) (hg:cE X nt Z a w) (h:(HC t (opd Z.t x) (opd Z.t y)).Run PC Z.s v s' r wr) :
  o.wp P a w (fun a' w'=>cE X nt ⟨eJ o.dst v Z.t,s'⟩ a' w') Q:=by
 obtain⟨hs,hd,J,N,D⟩:=id hg
 have hv:=D.opd hs hx
 have R:=D.opd hs hy
 unfold HC at h
 split at h
 case h_2=>exact h.elim
 rename_i ik n hey
 rw[hey]at R
 have W:a.eval y= .int ik n:=R.1
 have run:∀(k:K) (p:Addr) (len cap:Nat),F3 t=some k->0<=n->n<len->a.eval x= .slice (some p) len cap->(execOp a.eval o).run P w= .ok (.value (.pointer (some (p.add (n.toNat*size k))))) w:=by
  intro k p len cap Y h0 H he
  obtain⟨i,z,q1,q2,q3,q4,q5,-⟩:=hF.el k
  unfold execOp
  simp[ho,he,W,Instr.indexAt,asIntOf,run_underlying (hF.sl t k Y),h0,H,sizeOf,typeInfo,q1,q3]
 split at h
 case h_3=>exact h.elim
 case h_1=>
  rename_i k l he
  rw[he]at hv
  split at h
  case isFalse=>exact h.elim
  rename_i Y
  obtain⟨⟨h0,H⟩,rfl,rfl,-,-⟩:(0<=n/\n<l.length)/\v=_/\s'=_/\r=[]/\wr=[]:=h
  obtain⟨_,hrow⟩:=hv
  obtain⟨pa,cap,e1,e2,e3,e4⟩:=id hrow
  have hne:l≠[]:=by intro e;rw[e]at H;simp at H;omega
  obtain⟨b,off,rfl,M,h5⟩:=e4 hne
  refine cK hs hd D (run k ⟨b,off,none⟩ _ _ Y h0 H e1) ⟨b,off,by omega,by rw[BA,eY],?_⟩
  exact⟨_,_,rfl,bB _,e3,fun _=>⟨b,off,rfl,M,h5⟩⟩
 case h_2=>
  rename_i id ver off m full he
  rw[he]at hv
  obtain⟨_,_,k3⟩:=hv
  obtain⟨blk,r',M,rfl,h⟩:=fM h
  have fin:∀(k:K) (l:List (ty k)),kR blk k l->(if F3 t=some k then NR (0<=n/\n<m) (.ret (.ptr id ver (off+n.toNat) 0))else .fail:eM PV).Run PC Z.s v s' r' wr->o.wp P a w (fun a' w'=>cE X nt ⟨eJ o.dst v Z.t,s'⟩ a' w') Q:=by
   intro k l I h
   split at h
   case isFalse=>exact h.elim
   rename_i Y
   obtain⟨⟨h0,H⟩,rfl,rfl,-,-⟩:(0<=n/\n<m)/\v=_/\s'=_/\r'=[]/\wr=[]:=h
   obtain⟨e1,e2⟩:=k3 _ k l M I
   rcases e2 with⟨_,e2⟩ |⟨b,c,o2,e2,e3,e4,e5,e6⟩
   ·exfalso
    have:l=[]:=by
     rcases uD I (D.blk id _ (by rw[M]))with⟨_,e,_⟩ |⟨b,cap,cur,q,_⟩;exact e;simp_all
    rw[this]at e1;simp at e1;omega
   ·have ho2:=e5 (.inl (by omega))
    subst ho2
    refine cK hs hd D (run k ⟨b,off*size k,none⟩ m c Y h0 H e4) ⟨by rw[M];exact bB _,.inl ⟨_,rfl⟩,fun blk' hb2=> ?_⟩
    rw[M]at hb2
    cases hb2
    refine⟨b,0,e2,?_⟩
    cases I
    all_goals exact⟨rfl,by omega,by rw[BA,eY,cF]⟩
  cases blk with
  | box cs=>exact h.elim
  | objb o=>exact h.elim
  | iterb=>exact h.elim
  | rowb k l=>exact fin k l .b h
  | rowd k l=>exact fin k l .d h
  | rowx k l i cs=>exact fin k l .x h
end
open Go.RowKit
def aHR (b:Bool) (x y:PV):PV:=match x,y with
 | .v (.int k p),.v (.int k' q)=>if k=k' then .v (.int k (if b then p else q))else(if b then x else y)
 | .v (.bool p),.v (.bool q)=> .v (.bool (if b then p else q))
 | .v (.string p),.v (.string q)=> .v (.string (if b then p else q))
 | _,_=>if b then x else y
theorem aHS (b:Bool) (x y:PV):aHR b x y=if b then x else y:=by
 unfold aHR
 split
 ·split
  ·rename_i e;subst e;cases b<;>rfl
  ·rfl
 all_goals (cases b<;>rfl)
def aG2 (c x y:PV):eM PV:=match c with
 | .v (.bool b)=> .ret (aHR b x y)
 | _=> .fail
def aKS (x:PV):eM PV:=match x with
 | .eptr ..=> .ret x
 | .ptr id ver _ _=>oG id ver fun
  | .box _=> .ret x
  | .rowb _ _=> .ret x
  | .rowd _ _=> .ret x
  | .rowx _ _ _ _=> .ret x
  | .objb _=> .fail
  | .iterb _ _ _ _ _=> .fail
 | _=> .fail
def aKR (t:TypeId) (x:PV):eM PV:=match x with
 | .v (.string s)=>if QD t then .ret (.v (.int .i64 s.size))else .fail
 | .nil=>if(F3 t).isSome then .ret (.v (.int .i64 0))else .fail
 | .row false _ l=>if(F3 t).isSome then .ret (.v (.int .i64 l.length))else .fail
 | .ref id ver _ n _=>oG id ver fun
  | .rowb _ _=>if(F3 t).isSome then .ret (.v (.int .i64 n))else .fail
  | .rowd _ _=>if(F3 t).isSome then .ret (.v (.int .i64 n))else .fail
  | .rowx _ _ _ _=>if(F3 t).isSome then .ret (.v (.int .i64 n))else .fail
  | .box _=> .fail
  | .objb _=> .fail
  | .iterb _ _ _ _ _=> .fail
 | _=> .fail
def aIS (mx:Bool):List PV->eM PV
 | [.v (.int k a),.v (.int k' b)]=>if k=k' then .ret (.v (.int k (if mx then(if a<b then b else a)else(if b<a then b else a))))else .fail
 | _=> .fail
section
variable {P:Program} {PC:rU} {X:mM} {nt:Nat} {Q:Exit->Act->World->Prop} {Z:gU} {a:Act} {w:World} {o:Oper} {v:PV} {s':cU} {r wr:List Nat}
theorem M0 (ho:o.op= .move x∨o.op= .assign x) (D:dI nt x=true) (H:cE X nt Z a w) (h:(eM.ret (opd Z.t x)).Run PC Z.s v s' r wr) :
  o.wp P a w (fun I w'=>cE X nt ⟨eJ o.dst v Z.t,s'⟩ I w') Q:=by
 obtain⟨z,M,J,N,e⟩:=id H
 obtain⟨rfl,rfl,-,-⟩:v=_/\s'=_/\r=[]/\wr=[]:=h
 refine cK z M e ?_ (e.opd z D)
 unfold execOp
 rcases ho with ho|ho<;>simp only[ho]<;>rfl
theorem aAG {c:Operand} (H:o.op= .pick c x y) (I:dI nt c=true) (M:dI nt x=true) (R:dI nt y=true) (W:cE X nt Z a w) (h:(aG2 (opd Z.t c) (opd Z.t x) (opd Z.t y)).Run PC Z.s v s' r wr) :
  o.wp P a w (fun Y w'=>cE X nt ⟨eJ o.dst v Z.t,s'⟩ Y w') Q:=by
 obtain⟨z,hd,J,N,e⟩:=id W
 have D:=e.opd z I
 unfold aG2 at h
 split at h
 case h_2=>exact h.elim
 rename_i b he
 rw[he]at D
 obtain⟨rfl,rfl,-,-⟩:v=_/\s'=_/\r=[]/\wr=[]:=h
 have hb:a.eval c= .bool b:=D.1
 rw[aHS]
 refine cK z hd e (u:=if b then a.eval x else a.eval y) ?_ ?_
 ·unfold execOp
  simp only[H,hb]
  cases b<;>rfl
 ·cases b
  ·exact e.opd z R
  ·exact e.opd z M
theorem aCJ (ho:o.op= .nilCheck x) (hx:dI nt x=true) (hg:cE X nt Z a w) (h:(aKS (opd Z.t x)).Run PC Z.s v s' r wr) :
  o.wp P a w (fun W w'=>cE X nt ⟨eJ o.dst v Z.t,s'⟩ W w') Q:=by
 obtain⟨Y,hd,J,N,H⟩:=id hg
 have I:=H.opd Y hx
 have fin:∀p,a.eval x= .pointer (some p)->v=opd Z.t x->s'=Z.s->o.wp P a w (fun W w'=>cE X nt ⟨eJ o.dst v Z.t,s'⟩ W w') Q:=by
  rintro p M rfl rfl
  refine cK Y hd H ?_ I
  unfold execOp
  simp only[ho,M]
  rfl
 unfold aKS at h
 split at h
 case h_3=>exact h.elim
 case h_1=>
  rename_i M
  rw[M]at I
  obtain⟨b,off,_,hp,_⟩:=I
  obtain⟨h1,D,-,-⟩:v=_/\s'=_/\r=[]/\wr=[]:=h
  exact fin _ hp h1 D
 case h_2=>
  rename_i id ver i0 j M
  rw[M]at I
  obtain⟨_,_,k3⟩:=I
  obtain⟨blk,R,hb,rfl,h⟩:=fM h
  obtain⟨b,o2,h1,D⟩:=k3 blk hb
  cases blk with
  | box cs=>
   obtain⟨e,z,-,-⟩:v=_/\s'=_/\R=[]/\wr=[]:=h
   exact fin _ D e z
  | rowb k l=>
   obtain⟨e,z,-,-⟩:v=_/\s'=_/\R=[]/\wr=[]:=h
   exact fin _ D.2.2 e z
  | rowd k l=>
   obtain⟨e,z,-,-⟩:v=_/\s'=_/\R=[]/\wr=[]:=h
   exact fin _ D.2.2 e z
  | rowx k l i cs=>
   obtain⟨e,z,-,-⟩:v=_/\s'=_/\R=[]/\wr=[]:=h
   exact fin _ D.2.2 e z
  | objb o=>exact h.elim
  | iterb=>exact h.elim
theorem aCy (hF:fT P) {op:BinOp} {t t':TypeId} (ho:o.op= .binOp op t x y t') (hx:dI nt x=true) (hy:dI nt y=true) (hg:cE X nt Z a w) (h:(aKP op t (opd Z.t x) (opd Z.t y)).Run PC Z.s v s' r wr) :
  o.wp P a w (fun R w'=>cE X nt ⟨eJ o.dst v Z.t,s'⟩ R w') Q:=by
 obtain⟨hs,hd,J,N,M⟩:=id hg
 have D:=M.opd hs hx
 have e:=M.opd hs hy
 have fin:∀(p q u:Value),a.eval x=p->a.eval y=q->(∀cs,p≠ .agg cs)->p≠ .nilIface->(binOp op t p q).run P w= .ok u w->sD u->v= .v u->s'=Z.s->o.wp P a w (fun R w'=>cE X nt ⟨eJ o.dst v Z.t,s'⟩ R w') Q:=by
  rintro p q u hp hq hna hni W hw rfl rfl
  refine cK hs hd M ?_ ⟨rfl,hw⟩
  have hgd:(eqGuard op t x y p q).run P w= .ok () w:=by
   unfold eqGuard
   cases op<;>first|rfl|(cases p<;>first|rfl|exact absurd rfl (hna _)|exact absurd rfl hni|(cases q<;>rfl))
  unfold execOp
  simp only[ho,hp,hq,Sem.run_bind,hgd,Result.andThen_ok,W]
  rfl
 unfold aKP at h
 split at h
 case h_4=>exact h.elim
 case h_1=>
  rename_i k p k' q Y z
  rw[Y]at D
  rw[z]at e
  obtain⟨D,hwx⟩:=D
  obtain⟨e,hwy⟩:=e
  have sh:(op= .shl∨op= .shr)->(aJr op k p q).Run PC Z.s v s' r wr->o.wp P a w (fun R w'=>cE X nt ⟨eJ o.dst v Z.t,s'⟩ R w') Q:=by
   intro hop h
   obtain⟨H,u,I,h1,h2⟩:=aH5 (P:=P) (w:=w) (t:=t) (k':=k') hop h hwx
   exact fin _ _ u D e (by simp) (by simp) h1 h2 I H
  split at h
  ·exact sh (.inl rfl) h
  ·exact sh (.inr rfl) h
  ·split at h
   case isFalse=>exact h.elim
   rename_i hk
   subst hk
   obtain⟨H,u,I,h1,h2⟩:=aFh (P:=P) (w:=w) (t:=t) h hwx hwy
   exact fin _ _ u D e (by simp) (by simp) h1 h2 I H
 case h_2=>
  rename_i p q Y z
  rw[Y]at D
  rw[z]at e
  obtain⟨H,u,I,h1,h2⟩:=aFS (P:=P) (w:=w) (t:=t) h
  exact fin _ _ u D.1 e.1 (by simp) (by simp) h1 h2 I H
 case h_3=>
  rename_i p q Y z
  rw[Y]at D
  rw[z]at e
  split at h
  case isFalse=>exact h.elim
  rename_i hb
  have hu:=hF.bool t hb
  have heq:(Op.equal t (.bool p) (.bool q)).run P w= .ok (p==q) w:=by
   show(Op.equalIn (9999+1) t (.bool p) (.bool q)).run P w=_
   unfold Op.equalIn
   simp[run_underlying hu]
  split at h
  ·obtain⟨H,I,-,-⟩:v=_/\s'=_/\r=[]/\wr=[]:=h
   exact fin _ _ (.bool (p==q)) D.1 e.1 (by simp) (by simp) (by simp[binOp,heq]) trivial H I
  ·obtain⟨H,I,-,-⟩:v=_/\s'=_/\r=[]/\wr=[]:=h
   exact fin _ _ (.bool (!(p==q))) D.1 e.1 (by simp) (by simp) (by simp[binOp,heq]) trivial H I
  ·exact h.elim
theorem PO (W:o.op= .extract x i) (Y:dI nt x=true) (hg:cE X nt Z a w) (h:(PN (opd Z.t x) i).Run PC Z.s v s' r wr) :
  o.wp P a w (fun a' w'=>cE X nt ⟨eJ o.dst v Z.t,s'⟩ a' w') Q:=by
 obtain⟨I,hd,J,N,e⟩:=id hg
 have M:=e.opd I Y
 unfold PN at h
 split at h
 case h_2=>exact h.elim
 rename_i vs he
 rw[he]at M
 split at h
 case h_2=>exact h.elim
 rename_i v0 D
 obtain⟨rfl,rfl,-,-⟩:v=_/\s'=_/\r=[]/\wr=[]:=h
 obtain⟨us,hu,z⟩:=M
 obtain⟨u,H,R⟩:=z.get i v D
 refine cK I hd e (u:=u) ?_ ?_
 ·unfold execOp
  have:us[i]?=some u:=by simpa using H
  simp[W,hu,Instr.extract,this]
 ·cases v<;>first|exact R|exact R.elim
theorem XP (R:fT P) {src dst:TypeId} (W:o.op= .convert src dst x) (Y:dI nt x=true) (hg:cE X nt Z a w) (h:(aCE src dst (opd Z.t x)).Run PC Z.s v s' r wr) :
  o.wp P a w (fun a' w'=>cE X nt ⟨eJ o.dst v Z.t,s'⟩ a' w') Q:=by
 obtain⟨M,hd,J,N,e⟩:=id hg
 have H:=e.opd M Y
 unfold aCE at h
 split at h
 case h_2=>exact h.elim
 rename_i k k0 n I he
 rw[he]at H
 obtain⟨⟨d,z⟩,D⟩:=R.cvI _ _ _ I
 obtain⟨rfl,rfl⟩:v= .v (.int k (k.wrap n))/\s'=Z.s:=by
  split at h
  ·rename_i hw
   rw[aB5 hw H.2];exact⟨h.1,h.2.1⟩
  ·obtain⟨e1,e2,_⟩:=SU h
   exact⟨e2,e1⟩
 refine cK M hd e (u:= .int k (k.wrap n)) ?_ ⟨rfl,yD _ _⟩
 unfold execOp
 simp[W,H.1,convert,run_underlying z,run_underlying D,Conv.intToInt]
theorem XR (M:fT P) {t:TypeId} (R:o.op= .index t x y) (W:dI nt x=true) (Y:dI nt y=true) (hg:cE X nt Z a w) (h:(aCG t (opd Z.t x) (opd Z.t y)).Run PC Z.s v s' r wr) :
  o.wp P a w (fun a' w'=>cE X nt ⟨eJ o.dst v Z.t,s'⟩ a' w') Q:=by
 obtain⟨D,hd,J,N,e⟩:=id hg
 have I:=e.opd D W
 have z:=e.opd D Y
 unfold aCG at h
 split at h
 case h_2=>exact h.elim
 rename_i s ik n he H
 rw[he]at I
 rw[H]at z
 split at h
 case isFalse=>exact h.elim
 rename_i hc
 obtain⟨h0,b,hb,rfl,rfl,-,-⟩:0<=n/\∃b,s[n.toNat]?=some b/\v=_/\s'=_/\r=[]/\wr=[]:=h
 refine cK D hd e (u:= .int .u8 b.toNat) ?_ ⟨rfl,?_⟩
 ·unfold execOp
  simp[R,I.1,z.1,Instr.index,asIntOf,run_underlying (M.str t hc),h0,hb]
 ·refine(iS .u8 _).2 ?_
  have:=b.toNat_lt
  simp[loK,hiK];omega
end
open Go.RowKit
def jR (w:World) (e:TypeId) (size:Nat) (v:Value) (n:Nat) (xs:List Value):Prop:=
 xs.length=n*size/\
 ((v= .slice none 0 0/\n=0)∨
  ∃g cap cur,v= .slice (some ⟨g,0,none⟩) n cap/\0<=g/\gY w g cur e/\n<=cap/\cap<=maxLen/\cur.size=cap*size/\cur.toList.take (n*size)=xs)
theorem jR.of {w:World} {e:TypeId} {size:Nat} {v:Value} {n:Nat} {xs:List Value} (h:w.ownsRow 0 e size v n xs):jR w e size v n xs:=by
 refine⟨h.1,?_⟩
 rcases h.2 with z|⟨g,cap,cur,D,H,I,rest⟩
 ·exact .inl z
 ·exact .inr ⟨g,cap,cur,D,H,gY.of I,rest⟩
theorem jR.lt {w:World} {e:TypeId} {size:Nat} {v:Value} {n:Nat} {xs:List Value} (h:jR w e size v n xs):∀k,v.ownBlock=some k->0<=k/\k<w.heap.size:=by
 intro k z
 rcases h.2 with⟨rfl,_⟩ |⟨g,cap,cur,rfl,D,H,_⟩
 ·simp[Value.ownBlock]at z
 ·simp[Value.ownBlock]at z
  subst z
  exact⟨D,H.lt⟩
theorem jR.cells {e:TypeId} {size:Nat} {v:Value} (h:jR w e size v n xs) (I:v.ownBlock=some g):∀j u,xs[j]?=some u->w.cell? ((⟨g,0,none⟩:Addr).add j)=some u:=by
 intro j u H
 rcases h.2 with⟨rfl,_⟩ |⟨R,cap,cur,rfl,_,M,_,_,_,z⟩
 ·simp[Value.ownBlock]at I
 ·simp[Value.ownBlock]at I
  subst I
  have D:(⟨R,0,none⟩:Addr).add j=⟨R,j,none⟩:=by unfold Addr.add;split<;>simp_all
  rw[D,M.cell j]
  rw[<-z,aU]at H
  split at H
  ·simpa using H
  ·cases H
section
variable {P:Program}
theorem SY (w:World) (t ty e:TypeId) (i:TypeInfo) (z:Value) (size bytes:Nat) (ht:P.underlying t=some (.slice e)) (hi:P.info? e=some i) (hz:i.zero=some z)
  (W:i.size=size) (hby:i.bytes=bytes) (hzs:z.cells.size=size) (hsz:0<size)
  (v:Value) (n:Nat) (xs:List Value) (D:jR w e size v n xs)
  (a:Addr) (m c:Nat) (news:List Value) (hl:news.length=m*size) (H:∀j u,news[j]?=some u->w.cell? (a.add j)=some u) (h1:∀u∈news,u.oneCell'=true)
  (Y:n+m<=maxLen) (M:(n+m)*bytes<=140737488355328) :
  ∃v' w',(Builtin.append_ #[t,t] ty #[v,.slice (some a) m c]).run P w= .ok v' w'/\jR w' e size v' (n+m) (xs++news)/\w.grownBy w' v.ownBlock/\
   (v'.ownBlock=v.ownBlock∨v'.ownBlock=some w.heap.size):=by
 subst W
 subst hby
 have hsmall:n+m<=9223372036854775807:=by simp only[maxLen]at Y;omega
 have R:(xs++news).length=(n+m)*i.size:=by rw[aW,D.1,hl,cF]
 have hown0:=D
 rcases D.2 with⟨rfl,rfl⟩ |⟨g,cap,cur,rfl,hbg,hg,hnc,hcm,hcs,htake⟩
 ·obtain⟨v',w',hr,h2,h3,_,h5⟩:=run_append_own_at (P:=P) w 0 t ty e i z i.size i.bytes ht hi hz rfl rfl hzs hsz (.slice none 0 0) 0 xs ⟨D.1,.inl ⟨rfl,rfl⟩⟩ a m c news hl H h1 Y M (cT _)
  exact⟨v',w',hr,jR.of h2,h3,h5⟩
 ·by_cases I:n+m<=cap
  ·have hfit:n*i.size+news.length<=cur.size:=by rw[hl,hcs,<-cF];exact bF _ I
   have hf:=run_firstCells_some (P:=P) w i.size m a m c news hl H
   have hst:=kG P g (n*i.size) e news 0 cur w hg (by simpa using hfit) h1
   simp only[eY]at hst
   have hr:(Builtin.append_ #[t,t] ty #[.slice (some ⟨g,0,none⟩) n cap,.slice (some a) m c]).run P w =
     .ok (.slice (some ⟨g,0,none⟩) (n+m) cap) (w.setRow g (cur.toList.take (n*i.size)++news++cur.toList.drop (n*i.size+news.length)).toArray):=by
    simp[Builtin.append_,run_underlying ht,sizeOf,typeInfo,hi,Builtin.lenOf,I,hf,Addr.add_lit,hst]
   have hss:(cur.toList.take (n*i.size)++news++cur.toList.drop (n*i.size+news.length)).toArray.size=cur.size:=by
    simp only[kY,aW,aF,cA,d5]
    omega
   refine⟨_,_,hr,⟨R,.inr ⟨g,cap,_,rfl,hbg,hg.setRow hss,I,hcm,?_,?_⟩⟩,⟨rfl,rfl,rfl,by simp,fun k _ hk=>setRow_other w g k _ (fun e=>hk (by simp[Value.ownBlock,e]))⟩,Or.inl rfl⟩
   ·rw[hss,hcs]
   ·rw[htake,<-R]
    exact List.take_left
  ·have holds:∀j u,xs[j]?=some u->w.cell? ((⟨g,0,none⟩:Addr).add j)=some u:=hown0.cells (g:=g) rfl
   have hr:=run_append_grow (P:=P) w t ty e i z ht hi hz ⟨g,0,none⟩ n cap xs D.1 holds a m c news hl H (by omega) (by omega) (growslice_fits (by omega) M)
   have hge:=grownCap_ge w (n+m) cap e
   have hcm2:grownCap w (n+m) cap e<=maxLen:=grownCap_le_maxLen w (n+m) cap e Y
   refine⟨_,_,hr,⟨R,.inr ⟨w.heap.size,_,_,rfl,cT _,gY.of (heap_alloc_new w.drew _),hge,hcm2,?_,?_⟩⟩,⟨rfl,rfl,rfl,by simp,fun k hk _=>heap_alloc_old w.drew _ hk⟩,Or.inr rfl⟩
   ·simp only[nD,kY,size_zeroCells,hzs,D.1,hl,<-cF]
    congr 1
    omega
   ·simp only[Array.toList_append,aQ]
    rw[<-aQ,<-R]
    exact List.take_left
end
open Go.RowKit
def wrQ (o:Oper) (x:Operand):Bool:=match o.dst,x with
 | some d,.tmp n=>wrL.any fun p=>Nat.beq p.1 d&&Nat.beq p.2 n
 | _,_=>false
def wrI (op:BinOp) (k:IntKind) (a b:Int):eM PV:=match op with
 | .add=> .ret (.v (.int k (k.wrap (a+b))))
 | .sub=> .ret (.v (.int k (k.wrap (a-b))))
 | .mul=> .ret (.v (.int k (k.wrap (a*b))))
 | _=> .fail
def aG3 (op:BinOp):PV->PV->eM PV
 | .v (.int k a),.v (.int k' b)=>if k=k' then wrI op k a b else .fail
 | _,_=> .fail
def aM8:BinOp->Bool
 | .add=>true
 | .sub=>true
 | .mul=>true
 | _=>false
def aGZ (o:Oper) (x:Operand) (op:BinOp) (t:TypeId) (p q:PV):eM PV:=match aM8 op&&wrQ o x with
 | true=>aG3 op p q
 | false=>aKP op t p q
section
variable {P:Program} {PC:rU} {X:mM} {nt:Nat} {Q:Exit->Act->World->Prop} {Z:gU} {a:Act} {w:World} {o:Oper} {v:PV} {s s':cU} {r wr:List Nat} {u:PV}
theorem aJ7 {op:BinOp} {t:TypeId} {k:IntKind} {a b:Int} (h:(wrI op k a b).Run PC s u s' r wr):s'=s/\∃v,u= .v v/\(binOp op t (.int k a) (.int k b)).run P w= .ok v w/\sD v:=by
 have val:∀v:Value,(eM.ret (PV.v v)).Run PC s u s' r wr->(binOp op t (.int k a) (.int k b)).run P w= .ok v w->sD v->s'=s/\∃v,u= .v v/\(binOp op t (.int k a) (.int k b)).run P w= .ok v w/\sD v:=fun v h e z=>⟨h.2.1,v,h.1,e,z⟩
 cases op<;>simp only[wrI]at h
 all_goals first
  | exact h.elim
  | exact val _ h (by simp[binOp,Op.intArith,Sem.run_pure]) (yD _ _)
theorem aAH {op:BinOp} {t W:TypeId} (Y:o.op= .binOp op t x y W) (hx:dI nt x=true) (hy:dI nt y=true) (hg:cE X nt Z a w) (h:(aG3 op (opd Z.t x) (opd Z.t y)).Run PC Z.s v s' r wr) :
  o.wp P a w (fun a' w'=>cE X nt ⟨eJ o.dst v Z.t,s'⟩ a' w') Q:=by
 obtain⟨H,hd,J,N,e⟩:=id hg
 have R:=e.opd H hx
 have z:=e.opd H hy
 unfold aG3 at h
 split at h
 case h_2=>exact h.elim
 rename_i k p k' q he I
 rw[he]at R
 rw[I]at z
 split at h
 case isFalse=>exact h.elim
 rename_i hk
 subst hk
 obtain⟨rfl,u,rfl,D,hw⟩:=aJ7 (P:=P) (w:=w) (t:=t) h
 refine cK H hd e ?_ ⟨rfl,hw⟩
 have hp:a.eval x= .int k p:=R.1
 have hq:a.eval y= .int k q:=z.1
 have M:(eqGuard op t x y (.int k p) (.int k q)).run P w= .ok () w:=by
  unfold eqGuard
  cases op<;>rfl
 unfold execOp
 simp only[Y,hp,hq,Sem.run_bind,M,Result.andThen_ok,D]
 rfl
end
open Go.RowKit
def vX (k:K) {k':K} (l:List (ty k')):Option (List (ty k)):=if h:k'=k then some (h▸l)else none
def nQ {α:Type} (full:Bool) (l:List α) (off n:Nat):List α:=match full with
 | true=>l
 | false=>(l.drop off).take n
theorem aAa {X:mM} {tm:Array Value} (D:St X Z w tm J N) {blk:oE} {l:List (ty k)} {id:Nat} {full:Bool} (h:Z.s id=⟨ver,some blk⟩) (H:kR blk k l) (I:oF w J Z.s id ver off n full u):nQ full l off n=(l.drop off).take n:=by
 cases full with
 | false=>rfl
 | true=>
  obtain⟨_,_,M⟩:=I
  obtain⟨h4,z⟩:=M _ k l h H
  rcases z with⟨z,R⟩ |⟨b,c,o,z,R,h7,h8,W⟩
  ·rcases uD H (D.blk id _ (by rw[h]))with⟨_,e,_⟩ |⟨b,cap,cur,q,_⟩
   ·subst e;simp[nQ]
   ·rw[z]at q;cases q
  ·obtain⟨Y,e2,_⟩:=W rfl
   subst Y e2
   simp[nQ]
def HG (k:K):PV->eM (List (ty k))
 | .nil=> .ret []
 | .row false _ l=>match vX k l with
  | some l=> .ret l
  | none=> .fail
 | .ref id ver off n full=>oG id ver fun
  | .rowb _ l=>match vX k l with
   | some l=> .ret (nQ full l off n)
   | none=> .fail
  | .box _=> .fail
  | .objb _=> .fail
  | .iterb _ _ _ _ _=> .fail
  | .rowd _ _=> .fail
  | .rowx _ _ _ _=> .fail
 | _=> .fail
def cR (k:K) (n:Nat):Prop:=n<=9223372036854775807/\n*byt k<=140737488355328
instance (k:K) (n:Nat):Decidable (cR k n):=inferInstanceAs (Decidable (_/\_))
def uO (o:Oper) (t:TypeId) (d s:PV):eM PV:=match F3 t with
 | none=> .fail
 | some k=>(HG k s).bind fun l2=>match d with
   | .nil=>NR (cR k l2.length) (pG (rS o) (.rowb k l2) fun ver=> .ret (.ref (rS o) ver 0 l2.length true))
   | .ref id ver off n full=>oG id ver fun
    | .rowb _ l=>match vX k l with
     | some l=>(match full,Nat.ble 99 id with
      | true,true=>NR (cR k (l++l2).length) (.wr id ⟨ver+1,some (.rowb k (l++l2))⟩ (.ret (.ref id (ver+1) 0 (l++l2).length true)))
      | _,_=> .fail)
     | none=> .fail
    | .box _=> .fail
    | .objb _=> .fail
    | .iterb _ _ _ _ _=> .fail
    | .rowd _ _=> .fail
    | .rowx _ _ _ _=> .fail
   | _=> .fail
section
variable {P:Program} {PC:rU} {X:mM} {nt:Nat} {Q:Exit->Act->World->Prop} {Z:gU} {a:Act} {w:World} {o:Oper} {v:PV} {s':cU} {r wr:List Nat}
theorem hU {l:List (ty k')} {l2:List (ty k)} (h:vX k l=some l2):∃e:k'=k,l2=e▸l:=by
 unfold vX at h
 split at h
 ·rename_i e;cases h;exact⟨e,rfl⟩
 ·cases h
theorem nI {s:Nat} (e:i<n) (z:j<s):i*s+j<n*s:=by
 have:(i+1)*s<=n*s:=bF _ e
 rw[cF]at this;omega
def fF (S:Nat->Prop) (w:World) {k:K} (l:List (ty k)) (xs:List Value):Prop:=xs.length=l.length*size k/\vR S w l (fun o=>xs[o]?)
theorem mY.one {lf:d4} (h:mY S w lf u):u.oneCell'=true:=by
 cases lf with
 | sc q=>obtain⟨rfl,e⟩:=h;cases u<;>simp_all[sD,Value.oneCell']
 | nest k l=>obtain⟨a,cap,rfl,_⟩:=h;rfl
theorem fF.at {S:Nat->Prop} {k:K} {l:List (ty k)} {f:Nat->Option Value} (h:vR S w l f) {m:Nat} (D:m<l.length*size k):∃u,f m=some u/\u.oneCell'=true:=by
 have e:=mH k
 have H:m / size k<l.length:=(Nat.div_lt_iff_lt_mul e).2 D
 have I:m % size k<(aG l[m / size k]).length:=by rw[cP];exact Nat.mod_lt _ e
 obtain⟨u,z,M⟩:=h (m / size k) _ (iD H) (m % size k) _ (iD I)
 rw[Nat.div_add_mod']at z
 exact⟨u,z,M.one⟩
theorem fF.one {l:List (ty k)} (h:fF S w l xs):∀u∈xs,u.oneCell'=true:=by
 intro u D
 obtain⟨m,e,rfl⟩:=List.mem_iff_getElem.1 D
 obtain⟨u,z,H⟩:=fF.at h.2 (m:=m) (by rw[<-h.1];exact e)
 rw[iD e,Option.some.injEq]at z
 rw[z];exact H
theorem fF.append {z l2:List (ty k)} {H I:List Value} (D:fF S w z H) (Y:fF S w l2 I):fF S w (z++l2) (H++I):=by
 refine⟨by simp[D.1,Y.1,cF],fun i x M j lf e=> ?_⟩
 have hj:j<size k:=by have:=(iR.1 e).1;rwa[cP]at this
 by_cases hi:i<z.length
 ·rw[bM hi]at M
  obtain⟨u,R,W⟩:=D.2 i x M j lf e
  refine⟨u,?_,W⟩
  show(H++I)[i*size k+j]?=some u
  rw[bM (by rw[D.1];exact nI hi hj)];exact R
 ·rw[bI (by omega)]at M
  obtain⟨u,R,W⟩:=Y.2 _ x M j lf e
  refine⟨u,?_,W⟩
  have:z.length*size k<=i*size k:=bF _ (by omega)
  show(H++I)[i*size k+j]?=some u
  rw[bI (by rw[D.1];omega),D.1]
  rw[show i*size k+j-z.length*size k=(i-z.length)*size k+j by rw[Nat.sub_mul];omega]
  exact R
theorem fF.mono {l:List (ty k)} (h:fF S w l xs) (D:∀{k:K} {u:Value} {l:List (ty k)},wY S w k u l->wY S' w' k u l):fF S' w' l xs:=⟨h.1,fun i x H j lf e=>by
 obtain⟨u,I,z⟩:=h.2 i x H j lf e
 refine⟨u,I,?_⟩
 cases lf with
 | sc q=>exact z
 | nest k' M=>exact D z⟩
theorem fF.of {l:List (ty k)} {f:Nat->Option Value} (h:vR S w l f):∃xs,fF S w l xs/\∀(o:Nat) u,xs[o]?=some u->f o=some u:=by
 have key:∀m,m<=l.length*size k->∃xs:List Value,xs.length=m/\∀(o:Nat) u,xs[o]?=some u->f o=some u:=by
  intro m
  induction m with
  | zero=>intro _;exact⟨[],rfl,by simp⟩
  | succ m ih=>
   intro hm
   obtain⟨xs,z,e⟩:=ih (by omega)
   obtain⟨u,M,_⟩:=fF.at h (m:=m) (by omega)
   refine⟨xs++ [u],by simp[z],fun o W D=> ?_⟩
   by_cases Y:o<m
   ·exact e o W (by rw[bM (by omega)]at D;exact D)
   ·have:o=m:=by
     have:=(iR.1 D).1
     simp[z]at this;omega
    subst this
    rw[bI (by omega),z]at D
    simp at D
    subst D
    exact M
 obtain⟨xs,z,e⟩:=key _ (bB _)
 refine⟨xs,⟨z,fun i x R j lf H=> ?_⟩,e⟩
 obtain⟨u,M,hv⟩:=h i x R j lf H
 have hj:j<size k:=by have:=(iR.1 H).1;rwa[cP]at this
 have I:i*size k+j<xs.length:=by rw[z];exact nI (iR.1 R).1 hj
 have:=e _ _ (iD I)
 rw[M]at this
 cases this
 exact⟨_,iD I,hv⟩
theorem HH {l:List (ty k)} {tm:Array Value} (Y:St X Z w tm J N) (hv:gM (Fz X w N Z.s) w J Z.s p u) (h:(HG k p).Run PC Z.s l s' r wr) :
  s'=Z.s/\∃pa c xs,u= .slice pa l.length c/\fF (Fz X w N Z.s) w l xs/\(l≠[]->∃b off,pa=some ⟨b,off,none⟩/\∀(j:Nat) q,xs[j]?=some q->w.cell? ⟨b,off+j,none⟩ = some q):=by
 have fin:∀(l:List (ty k)) (pa:Option Addr),(l≠[]->∃b off,pa=some ⟨b,off,none⟩/\vR (Fz X w N Z.s) w l (fun o=>w.cell? ⟨b,off+o,none⟩))->
   ∃xs,fF (Fz X w N Z.s) w l xs/\(l≠[]->∃b off,pa=some ⟨b,off,none⟩/\∀(j:Nat) q,xs[j]?=some q->w.cell? ⟨b,off+j,none⟩ = some q):=by
  intro l pa hc
  by_cases z:l=[]
  ·subst z;exact⟨[],⟨by simp,fun i x D=>by simp at D⟩,fun h=>absurd rfl h⟩
  ·obtain⟨b,off,rfl,h1⟩:=hc z
   obtain⟨xs,h2,h3⟩:=fF.of h1
   exact⟨xs,h2,fun _=>⟨b,off,rfl,h3⟩⟩
 unfold HG at h
 split at h
 case h_4=>exact h.elim
 case h_1=>
  obtain⟨rfl,rfl,-,-⟩:l=_/\s'=_/\r=[]/\wr=[]:=h
  exact⟨rfl,none,0,[],hv,⟨by simp,fun i x D=>by simp at D⟩,fun h=>absurd rfl h⟩
 case h_2=>
  rename_i k' l'
  split at h
  case h_2=>exact h.elim
  rename_i l2 I
  obtain⟨rfl,rfl,-,-⟩:l=_/\s'=_/\r=[]/\wr=[]:=h
  obtain⟨rfl,rfl⟩:=hU I
  obtain⟨_,hrow⟩:=hv
  obtain⟨a,cap,rfl,h1,h2,h3⟩:=hrow.open
  obtain⟨xs,M,R⟩:=fin _ a fun z=>by
   obtain⟨b,off,e,_,h4⟩:=h3 z
   exact⟨b,off,e,h4⟩
  exact⟨rfl,a,cap,xs,rfl,M,R⟩
 case h_3=>
  rename_i id ver off n full
  have hv0:oF w J Z.s id ver off n full u:=hv
  obtain⟨_,_,k3⟩:=hv
  obtain⟨blk,r',hb,rfl,h⟩:=fM h
  cases blk with
  | box cs=>exact h.elim
  | objb o=>exact h.elim
  | iterb=>exact h.elim
  | rowd=>exact h.elim
  | rowx=>exact h.elim
  | rowb k' l'=>
   simp only at h
   split at h
   case h_2=>exact h.elim
   rename_i l2 I
   obtain⟨rfl,rfl⟩:=hU I
   rw[aAa Y hb .b hv0]at h
   obtain⟨rfl,rfl,-,-⟩:l=_/\s'=_/\r'=[]/\wr=[]:=h
   obtain⟨e1,W⟩:=k3 _ _ _ hb .b
   have hlen:((l2.drop off).take n).length=n:=by rw[aF,cA];omega
   have H:=Y.blk id _ (by rw[hb])
   rcases W with⟨W,e3⟩ |⟨b,c,o2,W,e3,e4,e5,e6⟩
   ·rcases H with⟨_,e,_⟩ |⟨b,cap,cur,q,_⟩
    ·subst e
     have:n=0:=by simp at e1;omega
     subst this
     exact⟨rfl,none,0,[],by rw[e3];simp,⟨by simp,fun i x D=>by simp at D⟩,fun h=>absurd (by simp) h⟩
    ·rw[W]at q;cases q
   ·rcases H with⟨e,_⟩ |⟨b',cap,cur,q1,q2,q3,q4,q5,q6,q7,q8⟩
    ·rw[W]at e;cases e
    ·rw[W]at q1;cases q1
     obtain⟨xs,M,R⟩:=fin ((l2.drop off).take n) (some ⟨b,o2,none⟩) fun z=>by
      have hn:n≠0:=by intro e;subst e;simp at z
      have ho:=e5 (.inl hn)
      subst ho
      refine⟨b,off*size k',rfl,fun i x D j lf hlf=> ?_⟩
      have hi:i<n:=by have:=(iR.1 D).1;omega
      rw[aU,if_pos hi,bK]at D
      obtain⟨u,h5,h6⟩:=q8 (off+i) x D j lf hlf
      refine⟨u,?_,h6⟩
      show w.cell? ⟨b,off*size k'+(i*size k'+j),none⟩ = some u
      rw[q4.cell,<-fE,<-cF];exact h5
     exact⟨rfl,_,c,xs,by rw[e4,hlen],M,R⟩
theorem PX {l:List (ty k)} {tm:Array Value} (D:St X Z w tm J N) (H:gM (Fz X w N Z.s) w J Z.s p u) (h:(HG k p).Run PC Z.s l s' r wr):l.length<=9223372036854775807:=by
 unfold HG at h
 split at h
 case h_4=>exact h.elim
 case h_1=>obtain⟨rfl,-,-,-⟩:l=_/\s'=_/\r=[]/\wr=[]:=h;simp
 case h_2=>
  split at h
  case h_2=>exact h.elim
  rename_i l2 z
  obtain⟨rfl,-,-,-⟩:l=_/\s'=_/\r=[]/\wr=[]:=h
  obtain⟨rfl,rfl⟩:=hU z
  obtain⟨_,a,cap,_,_,M,_⟩:=H
  exact M
 case h_3=>
  rename_i id ver off n full
  obtain⟨blk,R,I,rfl,h⟩:=fM h
  cases blk with
  | box cs=>exact h.elim
  | objb o=>exact h.elim
  | iterb=>exact h.elim
  | rowd=>exact h.elim
  | rowx=>exact h.elim
  | rowb k' W=>
   simp only at h
   split at h
   case h_2=>exact h.elim
   rename_i l2 z
   obtain⟨rfl,rfl⟩:=hU z
   rw[aAa D I .b H]at h
   obtain⟨rfl,-,-,-⟩:l=_/\s'=_/\R=[]/\wr=[]:=h
   rcases D.blk id _ (by rw[I])with⟨_,e,_⟩ |⟨b,cap,cur,_,_,Y,_⟩
   ·rw[e];simp
   ·rw[aF,cA];omega
end
open Go.RowKit
section
variable {P:Program} {PC:rU} {X:mM} {nt:Nat} {Q:Exit->Act->World->Prop} {Z:gU} {a:Act} {w:World} {o:Oper} {v:PV} {s':cU} {r wr:List Nat}
theorem xA (I:fT P) {t ty':TypeId} (W:F3 t=some k) {v:Value} (D:jR w (mJ k) (size k) v n xs) {pa:Option Addr} {c:Nat} {news:List Value} (M:news.length=m*size k)
  (H:m≠0->∃b off,pa=some ⟨b,off,none⟩/\∀(j:Nat) u,news[j]?=some u->w.cell? ⟨b,off+j,none⟩ = some u) (h1:∀u∈news,u.oneCell'=true) (Y:n+m<=9223372036854775807) (hby:(n+m)*byt k<=140737488355328) :
  ∃R w',(Builtin.append_ #[t,t] ty' #[v,.slice pa m c]).run P w= .ok R w'/\jR w' (mJ k) (size k) R (n+m) (xs++news)/\w.grownBy w' v.ownBlock/\(R.ownBlock=v.ownBlock∨R.ownBlock=some w.heap.size):=by
 obtain⟨i,z,q1,q2,q3,q4,q5,-⟩:=I.el k
 cases pa with
 | some a=>
  refine SY w t ty' (mJ k) i z (size k) (byt k) (I.sl t k W) q1 q2 q3 q4 q5 (mH k) v n xs D a m c news M ?_ h1 (by unfold maxLen;exact Y) hby
  intro j u hu
  have hm:m≠0:=by rintro rfl;simp at M;rw[M]at hu;simp at hu
  obtain⟨b,off,e,h2⟩:=H hm
  cases e
  rw[nH]
  exact h2 j u hu
 | none=>
  have hm:m=0:=by
   rcases Nat.eq_zero_or_pos m with h|h
   ·exact h
   ·obtain⟨b,off,e,_⟩:=H (by omega);cases e
  subst hm
  have hn:news=[]:=aR (by simpa using M)
  subst hn
  refine⟨v,w,?_,by simpa using D,⟨rfl,rfl,rfl,bB _,fun _ _ _=>rfl⟩,.inl rfl⟩
  rcases D.2 with⟨rfl,rfl⟩ |⟨g,cap,cur,rfl,_,hg,hnc,hcm,hcs,htake⟩
  ·simp[Builtin.append_,run_underlying (I.sl t k W),sizeOf,typeInfo,q1,Builtin.lenOf,Builtin.firstCells]
  ·simp[Builtin.append_,run_underlying (I.sl t k W),sizeOf,typeInfo,q1,Builtin.lenOf,Builtin.firstCells,hnc,storeCells]
theorem aCm {l:List (ty k)} {v:Value} (Y:l.length<=9223372036854775807) (h:jR w (mJ k) (size k) v l.length xs) (hx:fF S w l xs) :
  (v= .slice none 0 0/\l=[])∨∃g cap cur,v= .slice (some ⟨g,0,none⟩) l.length cap/\v.ownBlock=some g/\C4 S w g l cap cur:=by
 rcases h.2 with⟨h1,h2⟩ |⟨g,cap,cur,rfl,_,hg,D,H,I,e⟩
 ·exact .inl ⟨h1,aR h2⟩
 ·refine .inr ⟨g,cap,cur,rfl,by simp[Value.ownBlock],Y,hg,D,H,I,fun i x W j lf z=> ?_⟩
  obtain⟨u,M,h4⟩:=hx.2 i x W j lf z
  refine⟨u,?_,h4⟩
  have hj:j<size k:=by have:=(iR.1 z).1;rwa[cP]at this
  have R:i*size k+j<l.length*size k:=nI (iR.1 W).1 hj
  simp only at M
  rw[<-e,aU,if_pos R]at M
  simpa using M
theorem aDq {l:List (ty k)} {cur:Array Value} (h:C4 S w b l cap cur):∃xs,jR w (mJ k) (size k) (.slice (some ⟨b,0,none⟩) l.length cap) l.length xs/\fF S w l xs:=by
 obtain⟨h0,I,z,M,D,R⟩:=h
 have W:l.length*size k<=cur.size:=by rw[D];exact bF _ z
 refine⟨cur.toList.take (l.length*size k),⟨by simp;omega,.inr ⟨b,cap,cur,rfl,cT _,I,z,M,D,rfl⟩⟩,by simp;omega,fun i x H j lf e=> ?_⟩
 have Y:j<size k:=by have:=(iR.1 e).1;rwa[cP]at this
 obtain⟨u,h6,h7⟩:=R i x H j lf e
 refine⟨u,?_,h7⟩
 show(cur.toList.take (l.length*size k))[i*size k+j]?=some u
 rw[aU,if_pos (nI (iR.1 H).1 Y)]
 simpa using h6
theorem MS {tm:Array Value} (h:St X Z w tm J N) (id ver:Nat) (h99:99<=id) (hver:(Z.s id).ver<ver) {l:List (ty k)} {v':Value} (hl:l.length<=9223372036854775807)
  (hown:jR w' (mJ k) (size k) v' l.length xs) (hx:fF (Fz X w N Z.s) w l xs) {vo:Option Nat} (I:w.grownBy w' vo) (hvo:∀g,vo=some g->∃blk,(Z.s id).blk=some blk/\N id=[g]) (hvb:v'.ownBlock=vo∨v'.ownBlock=some w.heap.size) :
  ∃J' N',St X ⟨Z.t,eN Z.s id ⟨ver,some (.rowb k l)⟩⟩ w' tm J' N'/\gM (Fz X w' N' (eN Z.s id ⟨ver,some (.rowb k l)⟩)) w' J' (eN Z.s id ⟨ver,some (.rowb k l)⟩) (.ref id ver 0 l.length true) v':=by
 have hid:∀p,X.ext[id]?≠some p:=fun p hp=>by
  have:=(iR.1 hp).1
  have:=X.few
  omega
 obtain⟨p,L,M⟩:∃(p:Option (Nat×Nat)) (L:List Nat),(p=none/\l=[]/\L=[]/\v'= .slice none 0 0)∨∃b cap cur,p=some (b,0)/\L=[b]/\v'= .slice (some ⟨b,0,none⟩) l.length cap/\(vo=some b∨(b=w.heap.size/\b<w'.heap.size))/\gY w' b cur (mJ k)/\l.length<=cap/\cur.size=cap*size k:=by
  rcases hown.2 with⟨z,h2⟩ |⟨g,cap,cur,z,_,D,H,h5,h6,h7⟩
  ·exact⟨none,[],.inl ⟨rfl,aR h2,rfl,z⟩⟩
  ·refine⟨some (g,0),[g],.inr ⟨g,cap,cur,rfl,rfl,z,?_,D,H,h6⟩⟩
   rw[show v'.ownBlock=some g by rw[z];simp[Value.ownBlock]]at hvb
   rcases hvb with e|e
   ·exact .inl e.symm
   ·injection e with e;subst e;exact .inr ⟨rfl,D.lt⟩
 have R:∀x,x<w.heap.size->(∀i blk,i=id->(Z.s i).blk=some blk->x∉N i)->w'.heap[x]?=w.heap[x]?:=by
  intro x hxz hc
  refine I.block x hxz fun e=> ?_
  obtain⟨blk,z,h2⟩:=hvo x e.symm
  exact hc id blk rfl z (by rw[h2];simp)
 obtain⟨T,hst'⟩:=St.step (Z:=Z) h (eN Z.s id ⟨ver,some (.rowb k l)⟩) (· = id) (w':=w') (J':=eN J id p) (N':=eN N id L) I.size R (fun i hi=>⟨bU _ _ hi,bU _ _ hi,bU _ _ hi⟩)
  (by
   rintro i rfl v o n f u ⟨k1,k2,k3⟩
   refine⟨by rw[aD];exact oC (iW k1 hver),k2,fun blk k l e hr=> ?_⟩
   rw[aD]at e
   cases e
   omega)
  (by
   rintro i rfl v i' j' u ⟨k1,k2,k3⟩
   refine⟨by rw[aD];exact oC (iW k1 hver),k2,fun blk e=> ?_⟩
   rw[aD]at e
   cases e
   omega)
  (by
   rintro i blk rfl Y T
   rw[aD]at Y
   cases Y
   rw[aD]
   rcases M with⟨z,h2,D,_⟩ |⟨b,cap,cur,z,h2,D,_⟩
   ·exact .inl ⟨by rw[aD];exact z,h2,D⟩
   ·rcases aCm hl hown (hx.mono T.row)with⟨e,_⟩ |⟨g,cap',cur',e,_,H⟩
    ·rw[D]at e;cases e
    ·rw[D]at e;cases e
     exact .inr ⟨b,cap,cur',by rw[aD];exact z,h2,H⟩)
  (by
   rintro i blk rfl Y x hx
   rw[aD]at hx
   rcases M with⟨z,h2,D,_⟩ |⟨b,cap,cur,z,H,h5,D,_⟩
   ·rw[D]at hx;simp at hx
   ·rw[H]at hx
    have hxb:x=b:=by simpa using hx
    subst hxb
    rcases D with D|⟨D,h6⟩
    ·obtain⟨blk,h7,h8⟩:=hvo x D
     exact .inl ⟨i,blk,rfl,h7,by rw[h8];simp⟩
    ·exact .inr ⟨by omega,h6⟩)
  (by
   rintro i blk rfl Y
   rw[aD]
   rcases M with⟨z,h2,D,_⟩ |⟨b,cap,cur,z,H,_⟩
   ·rw[D];simp
   ·rw[H];simp)
  (by rintro i i' b1 b2 rfl rfl _ _ hne;exact absurd rfl hne)
  (by
   rintro i q hq rfl
   exact absurd hq (hid q))
  (fun q u n hq e=>absurd e (h.rx_far h99 q u n hq))
  (by
   cases W:vo with
   | none=>exact h.frm.grow I.os I.tape I.output I.size fun b hb=>I.block b hb (by rw[W];simp)
   | some g=>
    obtain⟨blk,z,h2⟩:=hvo g W
    refine Frm.turn h id blk z I.os I.tape I.output I.size (fun b hb hn=>I.block b hb fun e=>hn ?_) fun i2 b2 off2 n hi2 hn hm=> ?_
    ·rw[h2];rw[W]at e;cases e;simp
    ·exfalso
     obtain⟨e1,cs',e2,e3⟩:=h.ext i2 _ hi2
     have hne:i2≠id:=fun e=>hid _ (e▸hi2)
     have hb2:=h.blk i2 _ e2
     obtain⟨b3,off3,_,_,p1,p2,_⟩:=hb2
     rw[e1]at p1
     cases p1
     exact h.disj i2 id _ _ e2 z hne b2 (by rw[p2];simp) hm)
  (by
   refine X.cl w w' h.env fun b hb=>R b (by have:=X.hw;have:=h.frm.size;omega) ?_
   rintro i blk rfl z hm
   rcases h.new i blk z b hm with h2|h2
   ·have:=X.hG b h2;omega
   ·have:=X.hw;omega)
 refine⟨_,_,hst',by show ver<=(eN Z.s _ _ _).ver;rw[aD];exact bB _,?_,fun blk2 k2 l2 e hr2=> ?_⟩
 ·rcases M with⟨z,h2,D,H⟩ |⟨b,cap,cur,z,H,h5,_⟩
  ·exact⟨_,_,_,H⟩
  ·exact⟨_,_,_,h5⟩
 ·rw[aD]at e
  cases e
  cases hr2
  refine⟨by omega,?_⟩
  rw[aD]
  rcases M with⟨z,h2,D,H⟩ |⟨b,cap,cur,z,H,h5,h6,h7,h8,h9⟩
  ·exact .inl ⟨z,H⟩
  ·refine .inr ⟨b,cap,0,z,h8,h5,fun _=>by rw[iI],fun _=>⟨rfl,rfl,fun c2 E2 fz2 hc2=> ?_⟩⟩
   obtain⟨fz,hh,_⟩:=h7
   rw[hh]at hc2
   cases hc2
   exact h9
end
open Go.RowKit
section
variable {P:Program} {PC:rU} {X:mM} {nt:Nat} {Q:Exit->Act->World->Prop} {Z:gU} {a:Act} {w:World} {o:Oper} {v:PV} {s':cU} {r wr:List Nat}
theorem GK (hF:fT P) {t:TypeId} (ho:o.op= .call {callee:= .builtin .append,args:= #[x,y],argTypes:= #[t,t]}) (hx:dI nt x=true) (hy:dI nt y=true) (hg:cE X nt Z a w) (h:(uO o t (opd Z.t x) (opd Z.t y)).Run PC Z.s v s' r wr) :
  o.wp P a w (fun a' w'=>cE X nt ⟨eJ o.dst v Z.t,s'⟩ a' w') Q:=by
 obtain⟨hs,hd,J,N,D⟩:=id hg
 have hv:=D.opd hs hx
 have hvy:=D.opd hs hy
 unfold uO at h
 split at h
 case h_1=>exact h.elim
 rename_i k ht
 obtain⟨l2,s1,r1,w1,r2,w2,h1,h⟩:=cB h
 obtain⟨rfl,pa,c,news,he,R,hnews⟩:=HH D hvy h1
 have fin:∀(vv u:Value) (w':World),a.eval x=vv->(Builtin.append_ #[t,t] o.type #[vv,a.eval y]).run P w= .ok u w'->(execOp a.eval o).run P w= .ok (.value u) w':=by
  intro vv u w' e H
  unfold execOp
  simp only[ho,resolve,invoke,builtin,Sem.run_bind,Sem.run_pure,Result.andThen_ok,lT,bR,iH,e,H]
 have I:l2.length≠0->∃b off,pa=some ⟨b,off,none⟩/\∀(j:Nat) u,news[j]?=some u->w.cell? ⟨b,off+j,none⟩ = some u:=fun hn=>hnews (by intro e;subst e;simp at hn)
 split at h
 case h_3=>exact h.elim
 case h_1=>
  rename_i hxe
  rw[hxe]at hv
  obtain⟨⟨g1,g2⟩,h⟩:=h
  obtain⟨r',wr',h⟩:=fA h
  obtain⟨rfl,rfl,-,-⟩:v=_/\s'=_/\r'=[]/\wr'=[]:=h
  obtain⟨v',w',H,M,hgr,hvb⟩:=xA (P:=P) (w:=w) (ty':=o.type) hF ht (v:= .slice none 0 0) (n:=0) (xs:=[]) ⟨by simp,.inl ⟨rfl,rfl⟩⟩ (m:=l2.length) (c:=c) (news:=news) R.1 I R.one (by omega) (by rw[bP];exact g2)
  rw[bP,cV]at M
  obtain⟨J',N',q1,q2⟩:=MS D (rS o) ((Z.s (rS o)).ver+1) (xX o) (cM _) g1 M R hgr (by simp[Value.ownBlock]) hvb
  exact jM hs hd (fin _ v' w' hv (by rw[he];exact H)) q1 q2
 case h_2=>
  rename_i id ver off n full hxe
  rw[hxe]at hv
  obtain⟨_,_,k3⟩:=hv
  obtain⟨blk,r',hb,-,h⟩:=fM h
  cases blk with
  | box cs=>exact h.elim
  | objb o=>exact h.elim
  | iterb=>exact h.elim
  | rowd=>exact h.elim
  | rowx=>exact h.elim
  | rowb k' l'=>
   simp only at h
   split at h
   case h_2=>exact h.elim
   rename_i l hcl
   obtain⟨rfl,rfl⟩:=hU hcl
   cases W:Nat.ble 99 id with
   | false=>rw[W]at h;cases full<;>exact h.elim
   | true=>
   rw[W]at h
   have W:=bY W
   cases full with
   | false=>exact h.elim
   | true=>
   have z:true=true:=rfl
   obtain⟨⟨g1,g2⟩,w3,-,h⟩:=h
   rw[aW]at g1 g2
   obtain⟨rfl,rfl,-,-⟩:v=_/\s'=_/\r'=[]/\w3=[]:=h
   obtain⟨e1,Y⟩:=k3 _ _ _ hb .b
   have hnl:n=l.length:=by
    rcases Y with⟨Y,e3⟩ |⟨b,c2,o2,Y,e3,e4,e5,e6⟩
    ·rcases D.blk id _ (by rw[hb])with⟨_,e,_⟩ |⟨b,cap,cur,q,_⟩
     ·subst e;simp at e1⊢;omega
     ·rw[Y]at q;cases q
    ·exact(e6 z).2.1
   have z:true=true/\n=l.length:=⟨rfl,hnl⟩
   have hnext:∀p,X.ext[id]?≠some p:=fun p hp=>by
    obtain⟨_,cs,e3,_⟩:=D.ext id p hp
    rw[hb]at e3;cases e3
   have hblk:=D.blk id _ (by rw[hb])
   have main:∀(vv:Value) (xs:List Value),a.eval x=vv->jR w (mJ k') (size k') vv n xs->fF (Fz X w N Z.s) w l xs->(∀g,vv.ownBlock=some g->∃blk,(Z.s id).blk=some blk/\N id=[g])->
     o.wp P a w (fun a' w'=>cE X nt ⟨eJ o.dst (.ref id (ver+1) 0 (l++l2).length true) Z.t,eN Z.s id ⟨ver+1,some (.rowb k' (l++l2))⟩⟩ a' w') Q:=by
    intro vv xs hvv hown0 hfc0 hvo
    obtain⟨v',w',H,M,hgr,hvb⟩:=xA (P:=P) (w:=w) (ty':=o.type) hF ht hown0 (m:=l2.length) (c:=c) (news:=news) R.1 I R.one (by rw[z.2];exact g1) (by rw[z.2];exact g2)
    have:=MS D id (ver+1) W (by rw[hb];exact cM _) (l:=l++l2) (by rw[aW];exact g1) (by rw[aW,<-z.2];exact M) (hfc0.append R) hgr hvo hvb
    obtain⟨J',N',q1,q2⟩:=this
    exact jM hs hd (fin _ v' w' hvv (by rw[he];exact H)) q1 q2
   rcases Y with⟨Y,e3⟩ |⟨b,c2,o2,Y,e3,e4,e5,e6⟩
   ·rcases hblk with⟨_,e,_⟩ |⟨b,cap,cur,q,_⟩
    ·have hn:n=0:=by rw[z.2,e];simp
     refine main (.slice none 0 0) [] e3 ⟨by rw[hn];simp,.inl ⟨rfl,hn⟩⟩ (by rw[e];exact⟨by simp,fun i x hx=>by simp at hx⟩) (by simp[Value.ownBlock])
    ·rw[Y]at q;cases q
   ·rcases hblk with⟨e,_⟩ |⟨b',cap,cur,q1,qN,q2⟩
    ·rw[Y]at e;cases e
    ·rw[Y]at q1;cases q1
     obtain⟨f1,f2,f3⟩:=e6 z.1
     have ho2:o2=0:=by have h9:=e5 (.inr z.1);rw[f1,iI]at h9;exact h9
     subst ho2
     obtain⟨xs,p1,p2⟩:=aDq q2
     have hcap:c2=cap:=by
      obtain⟨fz,hh,_⟩:=q2.2.1
      have h7:=f3 cur _ fz hh
      have h8:=q2.2.2.2.2.1
      rw[h7]at h8
      exact Nat.eq_of_mul_eq_mul_right (mH _) h8
     refine main (.slice (some ⟨b,0,none⟩) n c2) xs e4 ?_ p2 fun g hgg=> ?_
     ·rw[hcap,z.2];exact p1
     ·simp only[Value.ownBlock,Option.some.injEq]at hgg
      subst hgg
      exact⟨.rowb k' l,by rw[hb],qN⟩
end
open Go.RowKit
def yF (n:Nat) (d:Nat):Option PV->Option Nat
 | none=>some d
 | some (.v (.int _ i))=>if 0<=i/\i<=n then some i.toNat else none
 | _=>none
def xD (n:Nat) (lo hi:Option PV):Option (Nat×Nat):=match yF n n hi with
 | none=>none
 | some h=>match yF h 0 lo with
  | none=>none
  | some l=>some (l,h)
def XE (n d:Nat) (x:Option PV) (k:Nat->eM PV):eM PV:=match x with
 | none=>k d
 | some (.v (.int _ i))=>NR (0<=i/\i<=n) (k i.toNat)
 | _=> .fail
def E4 (n:Nat) (lo hi:Option PV) (k:Nat->Nat->eM PV):eM PV:=XE n n hi fun h=>XE h 0 lo fun l=>k l h
theorem O4 {PC:rU} {x:Option PV} {k:Nat->eM PV} (h:(XE n d x k).Run PC s v s' r wr):∃m,yF n d x=some m/\(k m).Run PC s v s' r wr:=by
 unfold XE at h
 split at h
 ·exact⟨d,rfl,h⟩
 ·obtain⟨e,h⟩:_/\_:=h
  exact⟨_,if_pos e,h⟩
 ·exact h.elim
theorem DS {PC:rU} {lo e:Option PV} {k:Nat->Nat->eM PV} (h:(E4 n lo e k).Run PC s v s' r wr):∃p q,xD n lo e=some (p,q)/\(k p q).Run PC s v s' r wr:=by
 obtain⟨m,z,h⟩:=O4 h
 obtain⟨l,D,h⟩:=O4 h
 exact⟨l,m,by unfold xD;rw[z];simp only;rw[D],h⟩
def aKM {α:Type} (lo hi:Option PV) (l:List α) (p q:Nat):List α:=match lo,hi with
 | none,none=>l
 | none,some _=>l.take q
 | some _,none=>l.drop p
 | some _,some _=>(l.take q).drop p
theorem xB (h:yF n d none=some m):m=d:=by cases h;rfl
theorem aIP {lo e:Option PV} {l:List α} {p q:Nat} (h:xD l.length lo e=some (p,q)):aKM lo e l p q=(l.take q).drop p:=by
 unfold xD at h
 split at h
 ·cases h
 rename_i H z
 split at h
 ·cases h
 rename_i I D
 cases h
 unfold aKM
 cases lo<;>cases e<;>simp only
 ·rw[xB z,xB D];simp
 ·rw[xB D];simp
 ·rw[xB z];simp
def PS (t:TypeId) (x:PV) (lo hi:Option PV):eM PV:=match x with
 | .v (.string s)=>if QD t then E4 s.size lo hi fun l h=> .ret (.v (.string (s.extract l h)))else .fail
 | .row false k l=>if F3 t=some k then E4 l.length lo hi fun p q=> .ret (.row false k (aKM lo hi l p q))else .fail
 | .ref id ver off n full=>oG id ver fun
  | .rowb k _=>if F3 t=some k then E4 n lo hi fun p q=> .ret (.ref id ver (off+p) (q-p) (full&&lo.isNone&&hi.isNone))else .fail
  | .rowd k _=>if F3 t=some k then E4 n lo hi fun p q=> .ret (.ref id ver (off+p) (q-p) (full&&lo.isNone&&hi.isNone))else .fail
  | .box _=> .fail
  | .objb _=> .fail
  | .iterb _ _ _ _ _=> .fail
  | .rowx _ _ _ _=> .fail
 | _=> .fail
section
variable {P:Program} {PC:rU} {X:mM} {nt:Nat} {Q:Exit->Act->World->Prop} {Z:gU} {a:Act} {w:World} {o:Oper} {v:PV} {s':cU} {r wr:List Nat}
theorem aCH (hF:fT P) {t:TypeId} (ho:o.op= .call {callee:= .builtin .len,args:= #[x],argTypes:= #[t]}) (hx:dI nt x=true) (hg:cE X nt Z a w) (h:(aKR t (opd Z.t x)).Run PC Z.s v s' r wr) :
  o.wp P a w (fun W w'=>cE X nt ⟨eJ o.dst v Z.t,s'⟩ W w') Q:=by
 obtain⟨hs,hd,J,N,R⟩:=id hg
 have D:=R.opd hs hx
 have wfn:∀n:Nat,n<=9223372036854775807->sD (.int .i64 n):=fun n hn=>(iS .i64 _).2 (by simp[loK,hiK];omega)
 have fin:∀(u:Value) (n:Nat),a.eval x=u->(Builtin.len_ #[t] o.type #[u]).run P w= .ok (.int .i64 n) w->n<=9223372036854775807->v= .v (.int .i64 n)->s'=Z.s->o.wp P a w (fun W w'=>cE X nt ⟨eJ o.dst v Z.t,s'⟩ W w') Q:=by
  rintro u n H Y hn rfl rfl
  refine cK hs hd R ?_ ⟨rfl,wfn n hn⟩
  unfold execOp
  simp only[ho,resolve,invoke,builtin,Sem.run_bind,Sem.run_pure,Result.andThen_ok,lT,bR,iH,H,Y]
 have slen:∀(p:Option Addr) (n c:Nat),(F3 t).isSome=true->(Builtin.len_ #[t] o.type #[.slice p n c]).run P w= .ok (.int .i64 n) w:=by
  intro p n c z
  obtain⟨k,z⟩:=Option.isSome_iff_exists.1 z
  simp[Builtin.len_,run_underlying (hF.sl t k z),goInt]
 unfold aKR at h
 split at h
 case h_5=>exact h.elim
 case h_1=>
  rename_i s H
  rw[H]at D
  split at h
  case isFalse=>exact h.elim
  rename_i hst2
  obtain⟨I,M,-,-⟩:v=_/\s'=_/\r=[]/\wr=[]:=h
  exact fin _ _ D.1 (by simp[Builtin.len_,run_underlying (hF.str t hst2),goInt]) D.2 I M
 case h_2=>
  rename_i H
  rw[H]at D
  split at h
  case isFalse=>exact h.elim
  rename_i z
  obtain⟨I,M,-,-⟩:v=_/\s'=_/\r=[]/\wr=[]:=h
  exact fin _ 0 D (slen none 0 0 z) (by omega) I M
 case h_3=>
  rename_i k l H
  rw[H]at D
  split at h
  case isFalse=>exact h.elim
  rename_i z
  obtain⟨I,M,-,-⟩:v=_/\s'=_/\r=[]/\wr=[]:=h
  obtain⟨_,p,cap,e3,_,e4,_⟩:=D
  exact fin _ _ e3 (slen p _ cap z) e4 I M
 case h_4=>
  rename_i id ver off n full H
  rw[H]at D
  obtain⟨_,_,k3⟩:=D
  obtain⟨blk,r',hb,rfl,h⟩:=fM h
  have go:∀(k:K) (l:List (ty k)),kR blk k l->(if(F3 t).isSome then .ret (.v (.int .i64 n))else .fail:eM PV).Run PC Z.s v s' r' wr->o.wp P a w (fun W w'=>cE X nt ⟨eJ o.dst v Z.t,s'⟩ W w') Q:=by
   intro k l hrw h
   split at h
   case isFalse=>exact h.elim
   rename_i z
   obtain⟨I,M,-,-⟩:v=_/\s'=_/\r'=[]/\wr=[]:=h
   obtain⟨q1,q2⟩:=k3 _ k l hb hrw
   have hh:=uD hrw (R.blk id _ (by rw[hb]))
   have hl:l.length<=9223372036854775807:=by
    rcases hh with⟨_,e,_⟩ |⟨b,cap,cur,_,_,h0,_⟩;(rw[e];simp);exact h0
   rcases q2 with⟨q2,q3⟩ |⟨b,c,o2,q2,q3,q4,_⟩
   ·have hn:n=0:=by
     have:l=[]:=by
      rcases hh with⟨_,e,_⟩ |⟨b,cap,cur,q,_⟩;exact e;simp_all
     subst this
     simp at q1;omega
    subst hn
    exact fin _ 0 q3 (slen none 0 0 z) (by omega) I M
   ·exact fin _ n q4 (slen _ n c z) (by omega) I M
  cases blk with
  | box cs=>exact h.elim
  | objb o=>exact h.elim
  | iterb=>exact h.elim
  | rowb k l=>exact go k l .b h
  | rowd k l=>exact go k l .d h
  | rowx k l i cs=>exact go k l .x h
def aAh (R:PV->Value->Prop):Option PV->Option Value->Prop
 | none,none=>True
 | some p,some q=>R p q
 | _,_=>False
theorem G8 {x:Option PV} {u:Option Value} (z:aAh (gM S w J σ) x u) (h:yF n d x=some m) :
  (u=none/\m=d)∨∃ik i,u=some (.int ik i)/\0<=i/\i<=n/\m=i.toNat:=by
 cases x with
 | none=>
  cases u with
  | none=>cases h;exact .inl ⟨rfl,rfl⟩
  | some q=>exact z.elim
 | some p=>
  cases u with
  | none=>exact z.elim
  | some q=>
   unfold yF at h
   split at h
   ·rename_i e;cases e
   ·rename_i ik i e
    cases e
    split at h
    ·rename_i D
     cases h
     exact .inr ⟨ik,i,by rw[z.1],D.1,D.2,rfl⟩
    ·cases h
   ·cases h
theorem aAq {x:Option PV} (e:d<=n) (h:yF n d x=some m):m<=n:=by
 unfold yF at h
 split at h
 ·cases h;exact e
 ·split at h
  ·rename_i z;cases h;omega
  ·cases h
 ·cases h
theorem rJ {ik:IntKind} {i:Int} {y:Nat} {c:BoundsCode} (e:u= .int ik i) (z:0<=i) (D:i<=y):(Instr.sliceBound u y c).run P w= .ok i.toNat w:=by
 subst e
 simp[Instr.sliceBound,asIntOf,z,D]
theorem sR {w0:World} {isS:Bool} {len:Nat} {lo M:Option PV} {ul uh:Option Value} {p q:Nat} (R:aAh (gM S w J σ) lo ul) (hh:aAh (gM S w J σ) M uh) (hc:len<=cap)
  (h:xD len lo M=some (p,q)):(Instr.sliceBounds isS len cap ul uh none).run P w0= .ok (p,q,cap) w0/\p<=q/\q<=len:=by
 unfold xD at h
 split at h
 ·cases h
 rename_i hv z
 split at h
 ·cases h
 rename_i lv e
 cases h
 have hq:q<=len:=aAq (bB _) z
 have hp:p<=q:=aAq (cT _) e
 refine⟨?_,hp,hq⟩
 rcases G8 hh z with⟨rfl,rfl⟩ |⟨ik,i,rfl,D,W,rfl⟩
 ·rcases G8 R e with⟨rfl,rfl⟩ |⟨ik,i,rfl,D,W,rfl⟩
  ·simp[Instr.sliceBounds]
  ·simp[Instr.sliceBounds,rJ (P:=P) (w:=w0) rfl D W]
 ·have Y:i<=(cap:Int):=by omega
  rcases G8 R e with⟨rfl,rfl⟩ |⟨ik',i',rfl,H,I,rfl⟩
  ·simp[Instr.sliceBounds,rJ (P:=P) (w:=w0) rfl D Y]
  ·simp[Instr.sliceBounds,rJ (P:=P) (w:=w0) rfl D Y,rJ (P:=P) (w:=w0) rfl H I]
end
end Go.Px
