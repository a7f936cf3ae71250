/- What a call may hold, as plain values and a store: a small machine over them, the functions of this program as its contracts, and the plain laws: texts QM1 to QT5. -/
import Derived.Test.YtoinimaobnbimaaGreatDoorQE
import Derived.Test.YtoinimaobnbimaaGreatDoorQD
set_option linter.unusedSimpArgs false
set_option linter.unusedVariables false
set_option linter.constructorNameAsVariable false
namespace Go.Px
def tAttr (x:LAttr):IAttr:=IAttr.mk x.Fg x.Bg x.Bold x.Under x.Turn
theorem to_Attr {fuel:Nat} {x:LAttr}:pL_toAttr fuel x=some (tAttr x):=by
 unfold pL_toAttr
 rfl
theorem eq_Attr {fuel:Nat} {x:IAttr}:pL_eqAttr fuel x x=some true:=by
 unfold pL_eqAttr
 simp[]
def tCell (x:LCell):ICell:=ICell.mk x.R (tAttr x.A)
theorem to_Cell {fuel:Nat} {x:LCell}:pL_toCell fuel x=some (tCell x):=by
 have q_A:=to_Attr (fuel:=fuel) (x:=x.A)
 unfold pL_toCell
 simp only[q_A,bd_s]
 rfl
theorem eq_Cell {fuel:Nat} {x:ICell}:pL_eqCell fuel x x=some true:=by
 have q_A:=eq_Attr (fuel:=fuel) (x:=x.A)
 unfold pL_eqCell
 simp[q_A]
theorem to_CellS {fuel:Nat} {l:List LCell} (hl:l.length≤1048576) (hf:1048586<fuel):pL_toCellS fuel l=some (l.map tCell):=by
 unfold pL_toCellS
 rw[gd_t ⟨by omega,by omega⟩,gd_t (show roomB K.iCell _ from⟨by omega,by show _*byt K.iCell≤_;rw[show byt K.iCell=32 from rfl];omega⟩)]
 have:=loopF_set (B:=pL_toCellS_b1 fuel) l (tCell) (fun o=>o) (o:=List.replicate (l.length:Int).toNat (zK K.iCell)) (fuel:=fuel) (by simp) (fun i x o hxi ho=>by
  obtain⟨h1,h2,h3,h4,h5⟩:=idx_facts hxi (by omega)
  have hi:=(qS1.1 hxi).1
  unfold pL_toCellS_b1
  have ht:=to_Cell (fuel:=fuel) (x:=x)
  simp only[h1,br_t,gd_t h2,h3,bd_s,ht,ho,show(0+(i:Int).toNat)=i by omega,qE1 (show i<o.length by omega),h5,gd_t h4])
  (fun o=>by unfold pL_toCellS_b1;simp) (by omega)
 rw[this]
 rfl
theorem eq_CellS {fuel:Nat} {l:List ICell} (hl:l.length≤1048581) (hf:1048586<fuel):pL_eqCellS fuel l l=some true:=by
 unfold pL_eqCellS
 simp only[bne_self_eq_false,br_f]
 have:=loopF_walk (B:=pL_eqCellS_b1 fuel) (fun i=>(l,l,(i:Int))) l.length (.inl ()) (fuel:=fuel) (v:=(l,l,0)) rfl (fun i hi=>by
  obtain⟨h1,h2,h3,h4,h5⟩:=idx_facts (qE1 hi) (by omega)
  unfold pL_eqCellS_b1
  have ht:=eq_Cell (fuel:=fuel) (x:=l[i])
  simp only[h1,br_t,gd_t h2,h3,bd_s,ht,Bool.not_true,br_f,h5,gd_t h4,bne_self_eq_false]) (by unfold pL_eqCellS_b1;simp) (by omega)
 rw[this]
 rfl
def tGrid (x:LGrid):IGrid:=IGrid.mk x.W x.H (x.Cells.map tCell)
def FitGrid (n:Nat) (x:IGrid):Prop:=x.Cells.length≤n
theorem to_Grid {fuel:Nat} {x:LGrid} (hf:1048586<fuel) (h:FitGrid 1048576 (tGrid x)):pL_toGrid fuel x=some (tGrid x):=by
 have l_Cells:(tGrid x).Cells.length≤1048576:=h
 have q_Cells:=to_CellS (fuel:=fuel) (l:=x.Cells) (by simpa [tGrid]using l_Cells) hf
 unfold pL_toGrid
 simp only[q_Cells,bd_s]
 rfl
theorem eq_Grid {fuel:Nat} {x:IGrid} (hf:1048586<fuel) (h:FitGrid 1048581 x):pL_eqGrid fuel x x=some true:=by
 have l_Cells:x.Cells.length≤1048581:=h
 have q_Cells:=eq_CellS (fuel:=fuel) (l:=x.Cells) l_Cells hf
 unfold pL_eqGrid
 simp[q_Cells]
def tRow (x:LRow):IRow:=IRow.mk (x.Cells.map tCell)
def FitRow (n:Nat) (x:IRow):Prop:=x.Cells.length≤n
theorem to_Row {fuel:Nat} {x:LRow} (hf:1048586<fuel) (h:FitRow 1048576 (tRow x)):pL_toRow fuel x=some (tRow x):=by
 have l_Cells:(tRow x).Cells.length≤1048576:=h
 have q_Cells:=to_CellS (fuel:=fuel) (l:=x.Cells) (by simpa [tRow]using l_Cells) hf
 unfold pL_toRow
 simp only[q_Cells,bd_s]
 rfl
theorem eq_Row {fuel:Nat} {x:IRow} (hf:1048586<fuel) (h:FitRow 1048581 x):pL_eqRow fuel x x=some true:=by
 have l_Cells:x.Cells.length≤1048581:=h
 have q_Cells:=eq_CellS (fuel:=fuel) (l:=x.Cells) l_Cells hf
 unfold pL_eqRow
 simp[q_Cells]
theorem to_IntS {fuel:Nat} {l:List Int} (hl:l.length≤1048576) (hf:1048586<fuel):pL_toIntS fuel l=some l:=by
 unfold pL_toIntS
 rw[gd_t ⟨by omega,by omega⟩,gd_t (show roomB K.int _ from⟨by omega,by show _*byt K.int≤_;rw[show byt K.int=8 from rfl];omega⟩)]
 have:=loopF_set (B:=pL_toIntS_b1 fuel) l (fun x=>x) (fun o=>o) (o:=List.replicate (l.length:Int).toNat (zK K.int)) (fuel:=fuel) (by simp) (fun i x o hxi ho=>by
  obtain⟨h1,h2,h3,h4,h5⟩:=idx_facts hxi (by omega)
  have hi:=(qS1.1 hxi).1
  unfold pL_toIntS_b1
  simp only[h1,br_t,gd_t h2,h3,bd_s,ho,show(0+(i:Int).toNat)=i by omega,qE1 (show i<o.length by omega),h5,gd_t h4])
  (fun o=>by unfold pL_toIntS_b1;simp) (by omega)
 rw[this]
 simp
theorem eq_IntS {fuel:Nat} {l:List Int} (hl:l.length≤1048581) (hf:1048586<fuel):pL_eqIntS fuel l l=some true:=by
 unfold pL_eqIntS
 simp only[bne_self_eq_false,br_f]
 have:=loopF_walk (B:=pL_eqIntS_b1 fuel) (fun i=>(l,l,(i:Int))) l.length (.inl ()) (fuel:=fuel) (v:=(l,l,0)) rfl (fun i hi=>by
  obtain⟨h1,h2,h3,h4,h5⟩:=idx_facts (qE1 hi) (by omega)
  unfold pL_eqIntS_b1
  simp only[h1,br_t,gd_t h2,h3,bd_s,Bool.not_true,br_f,h5,gd_t h4,bne_self_eq_false]) (by unfold pL_eqIntS_b1;simp) (by omega)
 rw[this]
 rfl
theorem to_ByteS {fuel:Nat} {l:List UInt8} (hl:l.length≤1048576) (hf:1048586<fuel):pL_toByteS fuel l=some l:=by
 unfold pL_toByteS
 rw[gd_t ⟨by omega,by omega⟩,gd_t (show roomB K.u8 _ from⟨by omega,by show _*byt K.u8≤_;rw[show byt K.u8=1 from rfl];omega⟩)]
 have:=loopF_set (B:=pL_toByteS_b1 fuel) l (fun x=>x) (fun o=>o) (o:=List.replicate (l.length:Int).toNat (zK K.u8)) (fuel:=fuel) (by simp) (fun i x o hxi ho=>by
  obtain⟨h1,h2,h3,h4,h5⟩:=idx_facts hxi (by omega)
  have hi:=(qS1.1 hxi).1
  unfold pL_toByteS_b1
  simp only[h1,br_t,gd_t h2,h3,bd_s,ho,show(0+(i:Int).toNat)=i by omega,qE1 (show i<o.length by omega),h5,gd_t h4,show UInt8.ofNat (x.toNat:Int).toNat=x by simp])
  (fun o=>by unfold pL_toByteS_b1;simp) (by omega)
 rw[this]
 simp
theorem eq_ByteS {fuel:Nat} {l:List UInt8} (hl:l.length≤1048581) (hf:1048586<fuel):pL_eqByteS fuel l l=some true:=by
 unfold pL_eqByteS
 simp only[bne_self_eq_false,br_f]
 have:=loopF_walk (B:=pL_eqByteS_b1 fuel) (fun i=>(l,l,(i:Int))) l.length (.inl ()) (fuel:=fuel) (v:=(l,l,0)) rfl (fun i hi=>by
  obtain⟨h1,h2,h3,h4,h5⟩:=idx_facts (qE1 hi) (by omega)
  unfold pL_eqByteS_b1
  simp only[h1,br_t,gd_t h2,h3,bd_s,Bool.not_true,br_f,h5,gd_t h4,bne_self_eq_false]) (by unfold pL_eqByteS_b1;simp) (by omega)
 rw[this]
 rfl
def tVp (x:LVp):IVp:=IVp.mk x.State x.Mark x.Args x.Part
def FitVp (n:Nat) (x:IVp):Prop:=x.Args.length≤n∧x.Part.length≤n
theorem to_Vp {fuel:Nat} {x:LVp} (hf:1048586<fuel) (h:FitVp 1048576 (tVp x)):pL_toVp fuel x=some (tVp x):=by
 obtain⟨l_Args,l_Part⟩:=h
 have q_Args:=to_IntS (fuel:=fuel) (l:=x.Args) (by simpa [tVp]using l_Args) hf
 have q_Part:=to_ByteS (fuel:=fuel) (l:=x.Part) (by simpa [tVp]using l_Part) hf
 unfold pL_toVp
 simp only[q_Args,q_Part,bd_s]
 rfl
theorem eq_Vp {fuel:Nat} {x:IVp} (hf:1048586<fuel) (h:FitVp 1048581 x):pL_eqVp fuel x x=some true:=by
 obtain⟨l_Args,l_Part⟩:=h
 have q_Args:=eq_IntS (fuel:=fuel) (l:=x.Args) l_Args hf
 have q_Part:=eq_ByteS (fuel:=fuel) (l:=x.Part) l_Part hf
 unfold pL_eqVp
 simp[q_Args,q_Part]
theorem to_RowS {fuel:Nat} {l:List LRow} (hl:l.length≤1048576) (hf:1048586<fuel) (hx:∀y∈l,FitRow 1048576 (tRow y)):pL_toRowS fuel l=some (l.map tRow):=by
 unfold pL_toRowS
 rw[gd_t ⟨by omega,by omega⟩,gd_t (show roomB K.iRow _ from⟨by omega,by show _*byt K.iRow≤_;rw[show byt K.iRow=24 from rfl];omega⟩)]
 have:=loopF_set (B:=pL_toRowS_b1 fuel) l (tRow) (fun o=>o) (o:=List.replicate (l.length:Int).toNat (zK K.iRow)) (fuel:=fuel) (by simp) (fun i x o hxi ho=>by
  obtain⟨h1,h2,h3,h4,h5⟩:=idx_facts hxi (by omega)
  have hi:=(qS1.1 hxi).1
  unfold pL_toRowS_b1
  have ht:=to_Row (fuel:=fuel) (x:=x) hf (hx x (qM1 hxi))
  simp only[h1,br_t,gd_t h2,h3,bd_s,ht,ho,show(0+(i:Int).toNat)=i by omega,qE1 (show i<o.length by omega),h5,gd_t h4])
  (fun o=>by unfold pL_toRowS_b1;simp) (by omega)
 rw[this]
 rfl
theorem eq_RowS {fuel:Nat} {l:List IRow} (hl:l.length≤1048581) (hf:1048586<fuel) (hx:∀y∈l,FitRow 1048581 y):pL_eqRowS fuel l l=some true:=by
 unfold pL_eqRowS
 simp only[bne_self_eq_false,br_f]
 have:=loopF_walk (B:=pL_eqRowS_b1 fuel) (fun i=>(l,l,(i:Int))) l.length (.inl ()) (fuel:=fuel) (v:=(l,l,0)) rfl (fun i hi=>by
  obtain⟨h1,h2,h3,h4,h5⟩:=idx_facts (qE1 hi) (by omega)
  unfold pL_eqRowS_b1
  have ht:=eq_Row (fuel:=fuel) (x:=l[i]) hf (hx _ (List.getElem_mem hi))
  simp only[h1,br_t,gd_t h2,h3,bd_s,ht,Bool.not_true,br_f,h5,gd_t h4,bne_self_eq_false]) (by unfold pL_eqRowS_b1;simp) (by omega)
 rw[this]
 rfl
def tScr (x:LScr):IScr:=IScr.mk x.W x.H (tGrid x.Main) (tGrid x.Alt) x.OnAlt x.X x.Y x.Wrap (tAttr x.A) x.Top x.Bot x.NoWrap x.Hide x.SaveX x.SaveY (tAttr x.SaveA) x.Tabs x.Limit (x.Back.map tRow)
def FitScr (n:Nat) (x:IScr):Prop:=FitGrid n x.Main∧FitGrid n x.Alt∧x.Tabs.length≤n∧x.Back.length≤n∧(∀y∈x.Back,FitRow n y)
theorem to_Scr {fuel:Nat} {x:LScr} (hf:1048586<fuel) (h:FitScr 1048576 (tScr x)):pL_toScr fuel x=some (tScr x):=by
 obtain⟨f_Main,f_Alt,l_Tabs,l_Back,e_Back⟩:=h
 have q_Main:=to_Grid (fuel:=fuel) (x:=x.Main) hf f_Main
 have q_Alt:=to_Grid (fuel:=fuel) (x:=x.Alt) hf f_Alt
 have q_A:=to_Attr (fuel:=fuel) (x:=x.A)
 have q_SaveA:=to_Attr (fuel:=fuel) (x:=x.SaveA)
 have q_Tabs:=to_IntS (fuel:=fuel) (l:=x.Tabs) (by simpa [tScr]using l_Tabs) hf
 have q_Back:=to_RowS (fuel:=fuel) (l:=x.Back) (by simpa [tScr]using l_Back) hf (fun y hy=>e_Back _ (List.mem_map.2 ⟨y,hy,rfl⟩))
 unfold pL_toScr
 simp only[q_Main,q_Alt,q_A,q_SaveA,q_Tabs,q_Back,bd_s]
 rfl
theorem eq_Scr {fuel:Nat} {x:IScr} (hf:1048586<fuel) (h:FitScr 1048581 x):pL_eqScr fuel x x=some true:=by
 obtain⟨f_Main,f_Alt,l_Tabs,l_Back,e_Back⟩:=h
 have q_Main:=eq_Grid (fuel:=fuel) (x:=x.Main) hf f_Main
 have q_Alt:=eq_Grid (fuel:=fuel) (x:=x.Alt) hf f_Alt
 have q_A:=eq_Attr (fuel:=fuel) (x:=x.A)
 have q_SaveA:=eq_Attr (fuel:=fuel) (x:=x.SaveA)
 have q_Tabs:=eq_IntS (fuel:=fuel) (l:=x.Tabs) l_Tabs hf
 have q_Back:=eq_RowS (fuel:=fuel) (l:=x.Back) l_Back hf e_Back
 unfold pL_eqScr
 simp[q_Main,q_Alt,q_A,q_SaveA,q_Tabs,q_Back]
def tTerm (x:LTerm):ITerm:=ITerm.mk (tVp x.P) (tScr x.S)
def FitTerm (n:Nat) (x:ITerm):Prop:=FitVp n x.P∧FitScr n x.S
theorem to_Term {fuel:Nat} {x:LTerm} (hf:1048586<fuel) (h:FitTerm 1048576 (tTerm x)):pL_toTerm fuel x=some (tTerm x):=by
 obtain⟨f_P,f_S⟩:=h
 have q_P:=to_Vp (fuel:=fuel) (x:=x.P) hf f_P
 have q_S:=to_Scr (fuel:=fuel) (x:=x.S) hf f_S
 unfold pL_toTerm
 simp only[q_P,q_S,bd_s]
 rfl
theorem eq_Term {fuel:Nat} {x:ITerm} (hf:1048586<fuel) (h:FitTerm 1048581 x):pL_eqTerm fuel x x=some true:=by
 obtain⟨f_P,f_S⟩:=h
 have q_P:=eq_Vp (fuel:=fuel) (x:=x.P) hf f_P
 have q_S:=eq_Scr (fuel:=fuel) (x:=x.S) hf f_S
 unfold pL_eqTerm
 simp[q_P,q_S]
def tPane (x:LPane):IPane:=IPane.mk x.Id x.Cmd x.Dir x.Life x.Code x.Pid (tTerm x.Term)
def FitPane (n:Nat) (x:IPane):Prop:=x.Cmd.size≤n∧x.Dir.size≤n∧FitTerm n x.Term
theorem to_Pane {fuel:Nat} {x:LPane} (hf:1048586<fuel) (h:FitPane 1048576 (tPane x)):pL_toPane fuel x=some (tPane x):=by
 obtain⟨s_Cmd,s_Dir,f_Term⟩:=h
 have q_Term:=to_Term (fuel:=fuel) (x:=x.Term) hf f_Term
 unfold pL_toPane
 simp only[q_Term,bd_s]
 rfl
theorem eq_Pane {fuel:Nat} {x:IPane} (hf:1048586<fuel) (h:FitPane 1048581 x):pL_eqPane fuel x x=some true:=by
 obtain⟨s_Cmd,s_Dir,f_Term⟩:=h
 have q_Term:=eq_Term (fuel:=fuel) (x:=x.Term) hf f_Term
 unfold pL_eqPane
 simp[q_Term]
def tNode (x:LNode):INode:=INode.mk x.Pane x.Down x.First
theorem to_Node {fuel:Nat} {x:LNode}:pL_toNode fuel x=some (tNode x):=by
 unfold pL_toNode
 rfl
theorem eq_Node {fuel:Nat} {x:INode}:pL_eqNode fuel x x=some true:=by
 unfold pL_eqNode
 simp[]
theorem to_NodeS {fuel:Nat} {l:List LNode} (hl:l.length≤1048576) (hf:1048586<fuel):pL_toNodeS fuel l=some (l.map tNode):=by
 unfold pL_toNodeS
 rw[gd_t ⟨by omega,by omega⟩,gd_t (show roomB K.iNode _ from⟨by omega,by show _*byt K.iNode≤_;rw[show byt K.iNode=24 from rfl];omega⟩)]
 have:=loopF_set (B:=pL_toNodeS_b1 fuel) l (tNode) (fun o=>o) (o:=List.replicate (l.length:Int).toNat (zK K.iNode)) (fuel:=fuel) (by simp) (fun i x o hxi ho=>by
  obtain⟨h1,h2,h3,h4,h5⟩:=idx_facts hxi (by omega)
  have hi:=(qS1.1 hxi).1
  unfold pL_toNodeS_b1
  have ht:=to_Node (fuel:=fuel) (x:=x)
  simp only[h1,br_t,gd_t h2,h3,bd_s,ht,ho,show(0+(i:Int).toNat)=i by omega,qE1 (show i<o.length by omega),h5,gd_t h4])
  (fun o=>by unfold pL_toNodeS_b1;simp) (by omega)
 rw[this]
 rfl
theorem eq_NodeS {fuel:Nat} {l:List INode} (hl:l.length≤1048581) (hf:1048586<fuel):pL_eqNodeS fuel l l=some true:=by
 unfold pL_eqNodeS
 simp only[bne_self_eq_false,br_f]
 have:=loopF_walk (B:=pL_eqNodeS_b1 fuel) (fun i=>(l,l,(i:Int))) l.length (.inl ()) (fuel:=fuel) (v:=(l,l,0)) rfl (fun i hi=>by
  obtain⟨h1,h2,h3,h4,h5⟩:=idx_facts (qE1 hi) (by omega)
  unfold pL_eqNodeS_b1
  have ht:=eq_Node (fuel:=fuel) (x:=l[i])
  simp only[h1,br_t,gd_t h2,h3,bd_s,ht,Bool.not_true,br_f,h5,gd_t h4,bne_self_eq_false]) (by unfold pL_eqNodeS_b1;simp) (by omega)
 rw[this]
 rfl
def tWin (x:LWin):IWin:=IWin.mk x.Id x.Name (x.Tree.map tNode) x.Active x.Zoom
def FitWin (n:Nat) (x:IWin):Prop:=x.Name.size≤n∧x.Tree.length≤n
theorem to_Win {fuel:Nat} {x:LWin} (hf:1048586<fuel) (h:FitWin 1048576 (tWin x)):pL_toWin fuel x=some (tWin x):=by
 obtain⟨s_Name,l_Tree⟩:=h
 have q_Tree:=to_NodeS (fuel:=fuel) (l:=x.Tree) (by simpa [tWin]using l_Tree) hf
 unfold pL_toWin
 simp only[q_Tree,bd_s]
 rfl
theorem eq_Win {fuel:Nat} {x:IWin} (hf:1048586<fuel) (h:FitWin 1048581 x):pL_eqWin fuel x x=some true:=by
 obtain⟨s_Name,l_Tree⟩:=h
 have q_Tree:=eq_NodeS (fuel:=fuel) (l:=x.Tree) l_Tree hf
 unfold pL_eqWin
 simp[q_Tree]
def tSess (x:LSess):ISess:=ISess.mk x.Name x.Wins x.Active
def FitSess (n:Nat) (x:ISess):Prop:=x.Name.size≤n∧x.Wins.length≤n
theorem to_Sess {fuel:Nat} {x:LSess} (hf:1048586<fuel) (h:FitSess 1048576 (tSess x)):pL_toSess fuel x=some (tSess x):=by
 obtain⟨s_Name,l_Wins⟩:=h
 have q_Wins:=to_IntS (fuel:=fuel) (l:=x.Wins) (by simpa [tSess]using l_Wins) hf
 unfold pL_toSess
 simp only[q_Wins,bd_s]
 rfl
theorem eq_Sess {fuel:Nat} {x:ISess} (hf:1048586<fuel) (h:FitSess 1048581 x):pL_eqSess fuel x x=some true:=by
 obtain⟨s_Name,l_Wins⟩:=h
 have q_Wins:=eq_IntS (fuel:=fuel) (l:=x.Wins) l_Wins hf
 unfold pL_eqSess
 simp[q_Wins]
theorem to_PaneS {fuel:Nat} {l:List LPane} (hl:l.length≤1048576) (hf:1048586<fuel) (hx:∀y∈l,FitPane 1048576 (tPane y)):pL_toPaneS fuel l=some (l.map tPane):=by
 unfold pL_toPaneS
 rw[gd_t ⟨by omega,by omega⟩,gd_t (show roomB K.iPane _ from⟨by omega,by show _*byt K.iPane≤_;rw[show byt K.iPane=400 from rfl];omega⟩)]
 have:=loopF_set (B:=pL_toPaneS_b1 fuel) l (tPane) (fun o=>o) (o:=List.replicate (l.length:Int).toNat (zK K.iPane)) (fuel:=fuel) (by simp) (fun i x o hxi ho=>by
  obtain⟨h1,h2,h3,h4,h5⟩:=idx_facts hxi (by omega)
  have hi:=(qS1.1 hxi).1
  unfold pL_toPaneS_b1
  have ht:=to_Pane (fuel:=fuel) (x:=x) hf (hx x (qM1 hxi))
  simp only[h1,br_t,gd_t h2,h3,bd_s,ht,ho,show(0+(i:Int).toNat)=i by omega,qE1 (show i<o.length by omega),h5,gd_t h4])
  (fun o=>by unfold pL_toPaneS_b1;simp) (by omega)
 rw[this]
 rfl
theorem eq_PaneS {fuel:Nat} {l:List IPane} (hl:l.length≤1048581) (hf:1048586<fuel) (hx:∀y∈l,FitPane 1048581 y):pL_eqPaneS fuel l l=some true:=by
 unfold pL_eqPaneS
 simp only[bne_self_eq_false,br_f]
 have:=loopF_walk (B:=pL_eqPaneS_b1 fuel) (fun i=>(l,l,(i:Int))) l.length (.inl ()) (fuel:=fuel) (v:=(l,l,0)) rfl (fun i hi=>by
  obtain⟨h1,h2,h3,h4,h5⟩:=idx_facts (qE1 hi) (by omega)
  unfold pL_eqPaneS_b1
  have ht:=eq_Pane (fuel:=fuel) (x:=l[i]) hf (hx _ (List.getElem_mem hi))
  simp only[h1,br_t,gd_t h2,h3,bd_s,ht,Bool.not_true,br_f,h5,gd_t h4,bne_self_eq_false]) (by unfold pL_eqPaneS_b1;simp) (by omega)
 rw[this]
 rfl
theorem to_WinS {fuel:Nat} {l:List LWin} (hl:l.length≤1048576) (hf:1048586<fuel) (hx:∀y∈l,FitWin 1048576 (tWin y)):pL_toWinS fuel l=some (l.map tWin):=by
 unfold pL_toWinS
 rw[gd_t ⟨by omega,by omega⟩,gd_t (show roomB K.iWin _ from⟨by omega,by show _*byt K.iWin≤_;rw[show byt K.iWin=64 from rfl];omega⟩)]
 have:=loopF_set (B:=pL_toWinS_b1 fuel) l (tWin) (fun o=>o) (o:=List.replicate (l.length:Int).toNat (zK K.iWin)) (fuel:=fuel) (by simp) (fun i x o hxi ho=>by
  obtain⟨h1,h2,h3,h4,h5⟩:=idx_facts hxi (by omega)
  have hi:=(qS1.1 hxi).1
  unfold pL_toWinS_b1
  have ht:=to_Win (fuel:=fuel) (x:=x) hf (hx x (qM1 hxi))
  simp only[h1,br_t,gd_t h2,h3,bd_s,ht,ho,show(0+(i:Int).toNat)=i by omega,qE1 (show i<o.length by omega),h5,gd_t h4])
  (fun o=>by unfold pL_toWinS_b1;simp) (by omega)
 rw[this]
 rfl
theorem eq_WinS {fuel:Nat} {l:List IWin} (hl:l.length≤1048581) (hf:1048586<fuel) (hx:∀y∈l,FitWin 1048581 y):pL_eqWinS fuel l l=some true:=by
 unfold pL_eqWinS
 simp only[bne_self_eq_false,br_f]
 have:=loopF_walk (B:=pL_eqWinS_b1 fuel) (fun i=>(l,l,(i:Int))) l.length (.inl ()) (fuel:=fuel) (v:=(l,l,0)) rfl (fun i hi=>by
  obtain⟨h1,h2,h3,h4,h5⟩:=idx_facts (qE1 hi) (by omega)
  unfold pL_eqWinS_b1
  have ht:=eq_Win (fuel:=fuel) (x:=l[i]) hf (hx _ (List.getElem_mem hi))
  simp only[h1,br_t,gd_t h2,h3,bd_s,ht,Bool.not_true,br_f,h5,gd_t h4,bne_self_eq_false]) (by unfold pL_eqWinS_b1;simp) (by omega)
 rw[this]
 rfl
theorem to_SessS {fuel:Nat} {l:List LSess} (hl:l.length≤1048576) (hf:1048586<fuel) (hx:∀y∈l,FitSess 1048576 (tSess y)):pL_toSessS fuel l=some (l.map tSess):=by
 unfold pL_toSessS
 rw[gd_t ⟨by omega,by omega⟩,gd_t (show roomB K.iSess _ from⟨by omega,by show _*byt K.iSess≤_;rw[show byt K.iSess=48 from rfl];omega⟩)]
 have:=loopF_set (B:=pL_toSessS_b1 fuel) l (tSess) (fun o=>o) (o:=List.replicate (l.length:Int).toNat (zK K.iSess)) (fuel:=fuel) (by simp) (fun i x o hxi ho=>by
  obtain⟨h1,h2,h3,h4,h5⟩:=idx_facts hxi (by omega)
  have hi:=(qS1.1 hxi).1
  unfold pL_toSessS_b1
  have ht:=to_Sess (fuel:=fuel) (x:=x) hf (hx x (qM1 hxi))
  simp only[h1,br_t,gd_t h2,h3,bd_s,ht,ho,show(0+(i:Int).toNat)=i by omega,qE1 (show i<o.length by omega),h5,gd_t h4])
  (fun o=>by unfold pL_toSessS_b1;simp) (by omega)
 rw[this]
 rfl
theorem eq_SessS {fuel:Nat} {l:List ISess} (hl:l.length≤1048581) (hf:1048586<fuel) (hx:∀y∈l,FitSess 1048581 y):pL_eqSessS fuel l l=some true:=by
 unfold pL_eqSessS
 simp only[bne_self_eq_false,br_f]
 have:=loopF_walk (B:=pL_eqSessS_b1 fuel) (fun i=>(l,l,(i:Int))) l.length (.inl ()) (fuel:=fuel) (v:=(l,l,0)) rfl (fun i hi=>by
  obtain⟨h1,h2,h3,h4,h5⟩:=idx_facts (qE1 hi) (by omega)
  unfold pL_eqSessS_b1
  have ht:=eq_Sess (fuel:=fuel) (x:=l[i]) hf (hx _ (List.getElem_mem hi))
  simp only[h1,br_t,gd_t h2,h3,bd_s,ht,Bool.not_true,br_f,h5,gd_t h4,bne_self_eq_false]) (by unfold pL_eqSessS_b1;simp) (by omega)
 rw[this]
 rfl
def tState (x:LState):IState:=IState.mk x.W x.H x.Limit x.Next (x.Panes.map tPane) (x.Wins.map tWin) (x.Sess.map tSess)
def FitState (n:Nat) (x:IState):Prop:=x.Panes.length≤n∧(∀y∈x.Panes,FitPane n y)∧x.Wins.length≤n∧(∀y∈x.Wins,FitWin n y)∧x.Sess.length≤n∧(∀y∈x.Sess,FitSess n y)
theorem to_State {fuel:Nat} {x:LState} (hf:1048586<fuel) (h:FitState 1048576 (tState x)):pL_toState fuel x=some (tState x):=by
 obtain⟨l_Panes,e_Panes,l_Wins,e_Wins,l_Sess,e_Sess⟩:=h
 have q_Panes:=to_PaneS (fuel:=fuel) (l:=x.Panes) (by simpa [tState]using l_Panes) hf (fun y hy=>e_Panes _ (List.mem_map.2 ⟨y,hy,rfl⟩))
 have q_Wins:=to_WinS (fuel:=fuel) (l:=x.Wins) (by simpa [tState]using l_Wins) hf (fun y hy=>e_Wins _ (List.mem_map.2 ⟨y,hy,rfl⟩))
 have q_Sess:=to_SessS (fuel:=fuel) (l:=x.Sess) (by simpa [tState]using l_Sess) hf (fun y hy=>e_Sess _ (List.mem_map.2 ⟨y,hy,rfl⟩))
 unfold pL_toState
 simp only[q_Panes,q_Wins,q_Sess,bd_s]
 rfl
theorem eq_State {fuel:Nat} {x:IState} (hf:1048586<fuel) (h:FitState 1048581 x):pL_eqState fuel x x=some true:=by
 obtain⟨l_Panes,e_Panes,l_Wins,e_Wins,l_Sess,e_Sess⟩:=h
 have q_Panes:=eq_PaneS (fuel:=fuel) (l:=x.Panes) l_Panes hf e_Panes
 have q_Wins:=eq_WinS (fuel:=fuel) (l:=x.Wins) l_Wins hf e_Wins
 have q_Sess:=eq_SessS (fuel:=fuel) (l:=x.Sess) l_Sess hf e_Sess
 unfold pL_eqState
 simp[q_Panes,q_Wins,q_Sess]
theorem sz_CellS {fuel:Nat} {l:List LCell} {left:Int} (hm:l.length≤9223372036854775807) (h0:0≤left) (h1:left≤1048576):∃r,pL_szCellS fuel l left=some r∧r≤left∧(0≤r→l.length≤1048576):=by
 unfold pL_szCellS
 rw[gd_i64 (by omega) (by omega)]
 by_cases hn:left-(l.length:Int)<0
 ·rw[qT1 hn];exact⟨-1,rfl,by omega,fun h=>by omega⟩
 rw[qF1 hn]
 exact⟨_,rfl,by omega,fun h=>by omega⟩
theorem sz_Grid {fuel:Nat} {x:LGrid} {left:Int} (hf:1048586<fuel) (h:FitGrid 9223372036854775807 (tGrid x)) (h0:0≤left) (h1:left≤1048576):∃r,pL_szGrid fuel x left=some r∧r≤left∧(0≤r→FitGrid 1048576 (tGrid x)):=by
 have l_Cells:(tGrid x).Cells.length≤9223372036854775807:=h
 unfold pL_szGrid
 obtain⟨r_Cells,a_Cells,b_Cells,c_Cells⟩:=sz_CellS (fuel:=fuel) (l:=x.Cells) (left:=left) (by simpa [tGrid]using l_Cells) (by omega) (by omega)
 rw[a_Cells]
 simp only[bd_s]
 by_cases n_Cells:r_Cells<0
 ·rw[qT1 n_Cells];exact⟨-1,rfl,by omega,fun h=>by omega⟩
 rw[qF1 n_Cells]
 simp only[br_f]
 have d_Cells:=c_Cells (by omega)
 exact⟨_,rfl,by omega,fun _=>(by show(x.Cells.map tCell).length≤_;rw[List.length_map];exact d_Cells)⟩
theorem sz_Row {fuel:Nat} {x:LRow} {left:Int} (hf:1048586<fuel) (h:FitRow 9223372036854775807 (tRow x)) (h0:0≤left) (h1:left≤1048576):∃r,pL_szRow fuel x left=some r∧r≤left∧(0≤r→FitRow 1048576 (tRow x)):=by
 have l_Cells:(tRow x).Cells.length≤9223372036854775807:=h
 unfold pL_szRow
 obtain⟨r_Cells,a_Cells,b_Cells,c_Cells⟩:=sz_CellS (fuel:=fuel) (l:=x.Cells) (left:=left) (by simpa [tRow]using l_Cells) (by omega) (by omega)
 rw[a_Cells]
 simp only[bd_s]
 by_cases n_Cells:r_Cells<0
 ·rw[qT1 n_Cells];exact⟨-1,rfl,by omega,fun h=>by omega⟩
 rw[qF1 n_Cells]
 simp only[br_f]
 have d_Cells:=c_Cells (by omega)
 exact⟨_,rfl,by omega,fun _=>(by show(x.Cells.map tCell).length≤_;rw[List.length_map];exact d_Cells)⟩
theorem sz_IntS {fuel:Nat} {l:List Int} {left:Int} (hm:l.length≤9223372036854775807) (h0:0≤left) (h1:left≤1048576):∃r,pL_szIntS fuel l left=some r∧r≤left∧(0≤r→l.length≤1048576):=by
 unfold pL_szIntS
 rw[gd_i64 (by omega) (by omega)]
 by_cases hn:left-(l.length:Int)<0
 ·rw[qT1 hn];exact⟨-1,rfl,by omega,fun h=>by omega⟩
 rw[qF1 hn]
 exact⟨_,rfl,by omega,fun h=>by omega⟩
theorem sz_ByteS {fuel:Nat} {l:List UInt8} {left:Int} (hm:l.length≤9223372036854775807) (h0:0≤left) (h1:left≤1048576):∃r,pL_szByteS fuel l left=some r∧r≤left∧(0≤r→l.length≤1048576):=by
 unfold pL_szByteS
 rw[gd_i64 (by omega) (by omega)]
 by_cases hn:left-(l.length:Int)<0
 ·rw[qT1 hn];exact⟨-1,rfl,by omega,fun h=>by omega⟩
 rw[qF1 hn]
 exact⟨_,rfl,by omega,fun h=>by omega⟩
theorem sz_Vp {fuel:Nat} {x:LVp} {left:Int} (hf:1048586<fuel) (h:FitVp 9223372036854775807 (tVp x)) (h0:0≤left) (h1:left≤1048576):∃r,pL_szVp fuel x left=some r∧r≤left∧(0≤r→FitVp 1048576 (tVp x)):=by
 obtain⟨l_Args,l_Part⟩:=h
 unfold pL_szVp
 obtain⟨r_Args,a_Args,b_Args,c_Args⟩:=sz_IntS (fuel:=fuel) (l:=x.Args) (left:=left) (by simpa [tVp]using l_Args) (by omega) (by omega)
 rw[a_Args]
 simp only[bd_s]
 by_cases n_Args:r_Args<0
 ·rw[qT1 n_Args];exact⟨-1,rfl,by omega,fun h=>by omega⟩
 rw[qF1 n_Args]
 simp only[br_f]
 have d_Args:=c_Args (by omega)
 obtain⟨r_Part,a_Part,b_Part,c_Part⟩:=sz_ByteS (fuel:=fuel) (l:=x.Part) (left:=r_Args) (by simpa [tVp]using l_Part) (by omega) (by omega)
 rw[a_Part]
 simp only[bd_s]
 by_cases n_Part:r_Part<0
 ·rw[qT1 n_Part];exact⟨-1,rfl,by omega,fun h=>by omega⟩
 rw[qF1 n_Part]
 simp only[br_f]
 have d_Part:=c_Part (by omega)
 exact⟨_,rfl,by omega,fun _=>⟨d_Args,d_Part⟩⟩
theorem sz_RowS {fuel:Nat} {l:List LRow} {left:Int} (hm:l.length≤9223372036854775807) (h0:0≤left) (h1:left≤1048576) (hf:1048586<fuel) (hx:∀y∈l,FitRow 9223372036854775807 (tRow y)):∃r,pL_szRowS fuel l left=some r∧r≤left∧(0≤r→l.length≤1048576∧∀y∈l,FitRow 1048576 (tRow y)):=by
 unfold pL_szRowS
 rw[gd_i64 (by omega) (by omega)]
 by_cases hn:left-(l.length:Int)<0
 ·rw[qT1 hn];exact⟨-1,rfl,by omega,fun h=>by omega⟩
 rw[qF1 hn]
 have hl:l.length≤1048576:=by omega
 simp only[br_f]
 rcases loopF_sz (B:=pL_szRowS_b1 fuel) l (fun y=>FitRow 1048576 (tRow y)) (left:=left-(l.length:Int)) (fuel:=fuel) (by omega) (by omega) (fun i x k hxi hk0 hk1=>by
   obtain⟨g1,g2,g3,g4,g5⟩:=idx_facts hxi (by omega)
   obtain⟨r,e1,e2,e3⟩:=sz_Row (fuel:=fuel) (x:=x) (left:=k) hf (hx x (qM1 hxi)) hk0 hk1
   refine⟨r,?_,e2,e3⟩
   unfold pL_szRowS_b1
   simp only[g1,br_t,gd_t g2,g3,bd_s,e1,g5,gd_t g4,show IntKind.i64.wrap ((i+1:Nat):Int)=((i+1:Nat):Int)from g4]
   by_cases hr:r<0
   ·simp only[qT1 hr,br_t,if_pos hr]
   ·simp only[qF1 hr,br_f,if_neg hr]) (fun k=>by unfold pL_szRowS_b1;simp) (by omega)with h|⟨r,h,r0,r1,r2⟩
 ·rw[h];exact⟨-1,rfl,by omega,fun h=>by omega⟩
 ·rw[h];exact⟨r,rfl,by omega,fun _=>⟨hl,r2⟩⟩
theorem sz_Scr {fuel:Nat} {x:LScr} {left:Int} (hf:1048586<fuel) (h:FitScr 9223372036854775807 (tScr x)) (h0:0≤left) (h1:left≤1048576):∃r,pL_szScr fuel x left=some r∧r≤left∧(0≤r→FitScr 1048576 (tScr x)):=by
 obtain⟨f_Main,f_Alt,l_Tabs,l_Back,e_Back⟩:=h
 unfold pL_szScr
 obtain⟨r_Main,a_Main,b_Main,c_Main⟩:=sz_Grid (fuel:=fuel) (x:=x.Main) (left:=left) hf f_Main (by omega) (by omega)
 rw[a_Main]
 simp only[bd_s]
 by_cases n_Main:r_Main<0
 ·rw[qT1 n_Main];exact⟨-1,rfl,by omega,fun h=>by omega⟩
 rw[qF1 n_Main]
 simp only[br_f]
 have d_Main:=c_Main (by omega)
 obtain⟨r_Alt,a_Alt,b_Alt,c_Alt⟩:=sz_Grid (fuel:=fuel) (x:=x.Alt) (left:=r_Main) hf f_Alt (by omega) (by omega)
 rw[a_Alt]
 simp only[bd_s]
 by_cases n_Alt:r_Alt<0
 ·rw[qT1 n_Alt];exact⟨-1,rfl,by omega,fun h=>by omega⟩
 rw[qF1 n_Alt]
 simp only[br_f]
 have d_Alt:=c_Alt (by omega)
 obtain⟨r_Tabs,a_Tabs,b_Tabs,c_Tabs⟩:=sz_IntS (fuel:=fuel) (l:=x.Tabs) (left:=r_Alt) (by simpa [tScr]using l_Tabs) (by omega) (by omega)
 rw[a_Tabs]
 simp only[bd_s]
 by_cases n_Tabs:r_Tabs<0
 ·rw[qT1 n_Tabs];exact⟨-1,rfl,by omega,fun h=>by omega⟩
 rw[qF1 n_Tabs]
 simp only[br_f]
 have d_Tabs:=c_Tabs (by omega)
 obtain⟨r_Back,a_Back,b_Back,c_Back⟩:=sz_RowS (fuel:=fuel) (l:=x.Back) (left:=r_Tabs) (by simpa [tScr]using l_Back) (by omega) (by omega) hf (fun y hy=>e_Back _ (List.mem_map.2 ⟨y,hy,rfl⟩))
 rw[a_Back]
 simp only[bd_s]
 by_cases n_Back:r_Back<0
 ·rw[qT1 n_Back];exact⟨-1,rfl,by omega,fun h=>by omega⟩
 rw[qF1 n_Back]
 simp only[br_f]
 have d_Back:=c_Back (by omega)
 exact⟨_,rfl,by omega,fun _=>⟨d_Main,d_Alt,d_Tabs,(by show(x.Back.map tRow).length≤_;rw[List.length_map];exact d_Back.1),(fun y hy=>by obtain⟨z,hz,rfl⟩:=List.mem_map.1 hy;exact d_Back.2 z hz)⟩⟩
theorem sz_Term {fuel:Nat} {x:LTerm} {left:Int} (hf:1048586<fuel) (h:FitTerm 9223372036854775807 (tTerm x)) (h0:0≤left) (h1:left≤1048576):∃r,pL_szTerm fuel x left=some r∧r≤left∧(0≤r→FitTerm 1048576 (tTerm x)):=by
 obtain⟨f_P,f_S⟩:=h
 unfold pL_szTerm
 obtain⟨r_P,a_P,b_P,c_P⟩:=sz_Vp (fuel:=fuel) (x:=x.P) (left:=left) hf f_P (by omega) (by omega)
 rw[a_P]
 simp only[bd_s]
 by_cases n_P:r_P<0
 ·rw[qT1 n_P];exact⟨-1,rfl,by omega,fun h=>by omega⟩
 rw[qF1 n_P]
 simp only[br_f]
 have d_P:=c_P (by omega)
 obtain⟨r_S,a_S,b_S,c_S⟩:=sz_Scr (fuel:=fuel) (x:=x.S) (left:=r_P) hf f_S (by omega) (by omega)
 rw[a_S]
 simp only[bd_s]
 by_cases n_S:r_S<0
 ·rw[qT1 n_S];exact⟨-1,rfl,by omega,fun h=>by omega⟩
 rw[qF1 n_S]
 simp only[br_f]
 have d_S:=c_S (by omega)
 exact⟨_,rfl,by omega,fun _=>⟨d_P,d_S⟩⟩
theorem sz_Pane {fuel:Nat} {x:LPane} {left:Int} (hf:1048586<fuel) (h:FitPane 9223372036854775807 (tPane x)) (h0:0≤left) (h1:left≤1048576):∃r,pL_szPane fuel x left=some r∧r≤left∧(0≤r→FitPane 1048576 (tPane x)):=by
 obtain⟨s_Cmd,s_Dir,f_Term⟩:=h
 have s_Cmd:x.Cmd.size≤9223372036854775807:=s_Cmd
 have s_Dir:x.Dir.size≤9223372036854775807:=s_Dir
 unfold pL_szPane
 rw[gd_i64 (by omega) (by omega)]
 by_cases n_Cmd:left-(x.Cmd.size:Int)<0
 ·rw[qT1 n_Cmd];exact⟨-1,rfl,by omega,fun h=>by omega⟩
 rw[qF1 n_Cmd]
 simp only[br_f]
 rw[gd_i64 (by omega) (by omega)]
 by_cases n_Dir:left-(x.Cmd.size:Int)-(x.Dir.size:Int)<0
 ·rw[qT1 n_Dir];exact⟨-1,rfl,by omega,fun h=>by omega⟩
 rw[qF1 n_Dir]
 simp only[br_f]
 obtain⟨r_Term,a_Term,b_Term,c_Term⟩:=sz_Term (fuel:=fuel) (x:=x.Term) (left:=left-(x.Cmd.size:Int)-(x.Dir.size:Int)) hf f_Term (by omega) (by omega)
 rw[a_Term]
 simp only[bd_s]
 by_cases n_Term:r_Term<0
 ·rw[qT1 n_Term];exact⟨-1,rfl,by omega,fun h=>by omega⟩
 rw[qF1 n_Term]
 simp only[br_f]
 have d_Term:=c_Term (by omega)
 exact⟨_,rfl,by omega,fun _=>⟨(by show x.Cmd.size≤_;omega),(by show x.Dir.size≤_;omega),d_Term⟩⟩
theorem sz_NodeS {fuel:Nat} {l:List LNode} {left:Int} (hm:l.length≤9223372036854775807) (h0:0≤left) (h1:left≤1048576):∃r,pL_szNodeS fuel l left=some r∧r≤left∧(0≤r→l.length≤1048576):=by
 unfold pL_szNodeS
 rw[gd_i64 (by omega) (by omega)]
 by_cases hn:left-(l.length:Int)<0
 ·rw[qT1 hn];exact⟨-1,rfl,by omega,fun h=>by omega⟩
 rw[qF1 hn]
 exact⟨_,rfl,by omega,fun h=>by omega⟩
theorem sz_Win {fuel:Nat} {x:LWin} {left:Int} (hf:1048586<fuel) (h:FitWin 9223372036854775807 (tWin x)) (h0:0≤left) (h1:left≤1048576):∃r,pL_szWin fuel x left=some r∧r≤left∧(0≤r→FitWin 1048576 (tWin x)):=by
 obtain⟨s_Name,l_Tree⟩:=h
 have s_Name:x.Name.size≤9223372036854775807:=s_Name
 unfold pL_szWin
 rw[gd_i64 (by omega) (by omega)]
 by_cases n_Name:left-(x.Name.size:Int)<0
 ·rw[qT1 n_Name];exact⟨-1,rfl,by omega,fun h=>by omega⟩
 rw[qF1 n_Name]
 simp only[br_f]
 obtain⟨r_Tree,a_Tree,b_Tree,c_Tree⟩:=sz_NodeS (fuel:=fuel) (l:=x.Tree) (left:=left-(x.Name.size:Int)) (by simpa [tWin]using l_Tree) (by omega) (by omega)
 rw[a_Tree]
 simp only[bd_s]
 by_cases n_Tree:r_Tree<0
 ·rw[qT1 n_Tree];exact⟨-1,rfl,by omega,fun h=>by omega⟩
 rw[qF1 n_Tree]
 simp only[br_f]
 have d_Tree:=c_Tree (by omega)
 exact⟨_,rfl,by omega,fun _=>⟨(by show x.Name.size≤_;omega),(by show(x.Tree.map tNode).length≤_;rw[List.length_map];exact d_Tree)⟩⟩
theorem sz_Sess {fuel:Nat} {x:LSess} {left:Int} (hf:1048586<fuel) (h:FitSess 9223372036854775807 (tSess x)) (h0:0≤left) (h1:left≤1048576):∃r,pL_szSess fuel x left=some r∧r≤left∧(0≤r→FitSess 1048576 (tSess x)):=by
 obtain⟨s_Name,l_Wins⟩:=h
 have s_Name:x.Name.size≤9223372036854775807:=s_Name
 unfold pL_szSess
 rw[gd_i64 (by omega) (by omega)]
 by_cases n_Name:left-(x.Name.size:Int)<0
 ·rw[qT1 n_Name];exact⟨-1,rfl,by omega,fun h=>by omega⟩
 rw[qF1 n_Name]
 simp only[br_f]
 obtain⟨r_Wins,a_Wins,b_Wins,c_Wins⟩:=sz_IntS (fuel:=fuel) (l:=x.Wins) (left:=left-(x.Name.size:Int)) (by simpa [tSess]using l_Wins) (by omega) (by omega)
 rw[a_Wins]
 simp only[bd_s]
 by_cases n_Wins:r_Wins<0
 ·rw[qT1 n_Wins];exact⟨-1,rfl,by omega,fun h=>by omega⟩
 rw[qF1 n_Wins]
 simp only[br_f]
 have d_Wins:=c_Wins (by omega)
 exact⟨_,rfl,by omega,fun _=>⟨(by show x.Name.size≤_;omega),d_Wins⟩⟩
theorem sz_PaneS {fuel:Nat} {l:List LPane} {left:Int} (hm:l.length≤9223372036854775807) (h0:0≤left) (h1:left≤1048576) (hf:1048586<fuel) (hx:∀y∈l,FitPane 9223372036854775807 (tPane y)):∃r,pL_szPaneS fuel l left=some r∧r≤left∧(0≤r→l.length≤1048576∧∀y∈l,FitPane 1048576 (tPane y)):=by
 unfold pL_szPaneS
 rw[gd_i64 (by omega) (by omega)]
 by_cases hn:left-(l.length:Int)<0
 ·rw[qT1 hn];exact⟨-1,rfl,by omega,fun h=>by omega⟩
 rw[qF1 hn]
 have hl:l.length≤1048576:=by omega
 simp only[br_f]
 rcases loopF_sz (B:=pL_szPaneS_b1 fuel) l (fun y=>FitPane 1048576 (tPane y)) (left:=left-(l.length:Int)) (fuel:=fuel) (by omega) (by omega) (fun i x k hxi hk0 hk1=>by
   obtain⟨g1,g2,g3,g4,g5⟩:=idx_facts hxi (by omega)
   obtain⟨r,e1,e2,e3⟩:=sz_Pane (fuel:=fuel) (x:=x) (left:=k) hf (hx x (qM1 hxi)) hk0 hk1
   refine⟨r,?_,e2,e3⟩
   unfold pL_szPaneS_b1
   simp only[g1,br_t,gd_t g2,g3,bd_s,e1,g5,gd_t g4,show IntKind.i64.wrap ((i+1:Nat):Int)=((i+1:Nat):Int)from g4]
   by_cases hr:r<0
   ·simp only[qT1 hr,br_t,if_pos hr]
   ·simp only[qF1 hr,br_f,if_neg hr]) (fun k=>by unfold pL_szPaneS_b1;simp) (by omega)with h|⟨r,h,r0,r1,r2⟩
 ·rw[h];exact⟨-1,rfl,by omega,fun h=>by omega⟩
 ·rw[h];exact⟨r,rfl,by omega,fun _=>⟨hl,r2⟩⟩
theorem sz_WinS {fuel:Nat} {l:List LWin} {left:Int} (hm:l.length≤9223372036854775807) (h0:0≤left) (h1:left≤1048576) (hf:1048586<fuel) (hx:∀y∈l,FitWin 9223372036854775807 (tWin y)):∃r,pL_szWinS fuel l left=some r∧r≤left∧(0≤r→l.length≤1048576∧∀y∈l,FitWin 1048576 (tWin y)):=by
 unfold pL_szWinS
 rw[gd_i64 (by omega) (by omega)]
 by_cases hn:left-(l.length:Int)<0
 ·rw[qT1 hn];exact⟨-1,rfl,by omega,fun h=>by omega⟩
 rw[qF1 hn]
 have hl:l.length≤1048576:=by omega
 simp only[br_f]
 rcases loopF_sz (B:=pL_szWinS_b1 fuel) l (fun y=>FitWin 1048576 (tWin y)) (left:=left-(l.length:Int)) (fuel:=fuel) (by omega) (by omega) (fun i x k hxi hk0 hk1=>by
   obtain⟨g1,g2,g3,g4,g5⟩:=idx_facts hxi (by omega)
   obtain⟨r,e1,e2,e3⟩:=sz_Win (fuel:=fuel) (x:=x) (left:=k) hf (hx x (qM1 hxi)) hk0 hk1
   refine⟨r,?_,e2,e3⟩
   unfold pL_szWinS_b1
   simp only[g1,br_t,gd_t g2,g3,bd_s,e1,g5,gd_t g4,show IntKind.i64.wrap ((i+1:Nat):Int)=((i+1:Nat):Int)from g4]
   by_cases hr:r<0
   ·simp only[qT1 hr,br_t,if_pos hr]
   ·simp only[qF1 hr,br_f,if_neg hr]) (fun k=>by unfold pL_szWinS_b1;simp) (by omega)with h|⟨r,h,r0,r1,r2⟩
 ·rw[h];exact⟨-1,rfl,by omega,fun h=>by omega⟩
 ·rw[h];exact⟨r,rfl,by omega,fun _=>⟨hl,r2⟩⟩
theorem sz_SessS {fuel:Nat} {l:List LSess} {left:Int} (hm:l.length≤9223372036854775807) (h0:0≤left) (h1:left≤1048576) (hf:1048586<fuel) (hx:∀y∈l,FitSess 9223372036854775807 (tSess y)):∃r,pL_szSessS fuel l left=some r∧r≤left∧(0≤r→l.length≤1048576∧∀y∈l,FitSess 1048576 (tSess y)):=by
 unfold pL_szSessS
 rw[gd_i64 (by omega) (by omega)]
 by_cases hn:left-(l.length:Int)<0
 ·rw[qT1 hn];exact⟨-1,rfl,by omega,fun h=>by omega⟩
 rw[qF1 hn]
 have hl:l.length≤1048576:=by omega
 simp only[br_f]
 rcases loopF_sz (B:=pL_szSessS_b1 fuel) l (fun y=>FitSess 1048576 (tSess y)) (left:=left-(l.length:Int)) (fuel:=fuel) (by omega) (by omega) (fun i x k hxi hk0 hk1=>by
   obtain⟨g1,g2,g3,g4,g5⟩:=idx_facts hxi (by omega)
   obtain⟨r,e1,e2,e3⟩:=sz_Sess (fuel:=fuel) (x:=x) (left:=k) hf (hx x (qM1 hxi)) hk0 hk1
   refine⟨r,?_,e2,e3⟩
   unfold pL_szSessS_b1
   simp only[g1,br_t,gd_t g2,g3,bd_s,e1,g5,gd_t g4,show IntKind.i64.wrap ((i+1:Nat):Int)=((i+1:Nat):Int)from g4]
   by_cases hr:r<0
   ·simp only[qT1 hr,br_t,if_pos hr]
   ·simp only[qF1 hr,br_f,if_neg hr]) (fun k=>by unfold pL_szSessS_b1;simp) (by omega)with h|⟨r,h,r0,r1,r2⟩
 ·rw[h];exact⟨-1,rfl,by omega,fun h=>by omega⟩
 ·rw[h];exact⟨r,rfl,by omega,fun _=>⟨hl,r2⟩⟩
theorem sz_State {fuel:Nat} {x:LState} {left:Int} (hf:1048586<fuel) (h:FitState 9223372036854775807 (tState x)) (h0:0≤left) (h1:left≤1048576):∃r,pL_szState fuel x left=some r∧r≤left∧(0≤r→FitState 1048576 (tState x)):=by
 obtain⟨l_Panes,e_Panes,l_Wins,e_Wins,l_Sess,e_Sess⟩:=h
 unfold pL_szState
 obtain⟨r_Panes,a_Panes,b_Panes,c_Panes⟩:=sz_PaneS (fuel:=fuel) (l:=x.Panes) (left:=left) (by simpa [tState]using l_Panes) (by omega) (by omega) hf (fun y hy=>e_Panes _ (List.mem_map.2 ⟨y,hy,rfl⟩))
 rw[a_Panes]
 simp only[bd_s]
 by_cases n_Panes:r_Panes<0
 ·rw[qT1 n_Panes];exact⟨-1,rfl,by omega,fun h=>by omega⟩
 rw[qF1 n_Panes]
 simp only[br_f]
 have d_Panes:=c_Panes (by omega)
 obtain⟨r_Wins,a_Wins,b_Wins,c_Wins⟩:=sz_WinS (fuel:=fuel) (l:=x.Wins) (left:=r_Panes) (by simpa [tState]using l_Wins) (by omega) (by omega) hf (fun y hy=>e_Wins _ (List.mem_map.2 ⟨y,hy,rfl⟩))
 rw[a_Wins]
 simp only[bd_s]
 by_cases n_Wins:r_Wins<0
 ·rw[qT1 n_Wins];exact⟨-1,rfl,by omega,fun h=>by omega⟩
 rw[qF1 n_Wins]
 simp only[br_f]
 have d_Wins:=c_Wins (by omega)
 obtain⟨r_Sess,a_Sess,b_Sess,c_Sess⟩:=sz_SessS (fuel:=fuel) (l:=x.Sess) (left:=r_Wins) (by simpa [tState]using l_Sess) (by omega) (by omega) hf (fun y hy=>e_Sess _ (List.mem_map.2 ⟨y,hy,rfl⟩))
 rw[a_Sess]
 simp only[bd_s]
 by_cases n_Sess:r_Sess<0
 ·rw[qT1 n_Sess];exact⟨-1,rfl,by omega,fun h=>by omega⟩
 rw[qF1 n_Sess]
 simp only[br_f]
 have d_Sess:=c_Sess (by omega)
 exact⟨_,rfl,by omega,fun _=>⟨(by show(x.Panes.map tPane).length≤_;rw[List.length_map];exact d_Panes.1),(fun y hy=>by obtain⟨z,hz,rfl⟩:=List.mem_map.1 hy;exact d_Panes.2 z hz),(by show(x.Wins.map tWin).length≤_;rw[List.length_map];exact d_Wins.1),(fun y hy=>by obtain⟨z,hz,rfl⟩:=List.mem_map.1 hy;exact d_Wins.2 z hz),(by show(x.Sess.map tSess).length≤_;rw[List.length_map];exact d_Sess.1),(fun y hy=>by obtain⟨z,hz,rfl⟩:=List.mem_map.1 hy;exact d_Sess.2 z hz)⟩⟩
theorem loopF_wt {α:Type} {B:List α×Int×Int→Option ((List α×Int×Int)⊕(Int⊕Int))} (l:List α) (wt:α→Nat)
  (hB:∀(i:Nat) x k,l[i]?=some x→0≤k→k≤1048576→∃r,B (l,k,(i:Int))=(if r<0 then some (.inr (.inr (-1)))else some (.inl (l,r,((i+1:Nat):Int))))∧r≤k∧(0≤r→r+(wt x:Int)≤k)) (hE:∀k,B (l,k,(l.length:Int))=some (.inr (.inl k))) :
  ∀(fuel i:Nat) (k:Int) (o:Int⊕Int),i≤l.length→0≤k→k≤1048576→loopF B fuel (l,k,(i:Int))=some o→o= .inr (-1)∨∃r,o= .inl r∧r+(((l.drop i).map wt).sum:Int)≤k:=by
 intro fuel
 induction fuel with
 | zero=>intro i k o hi h0 h1 h;cases h
 | succ fuel ih=>
  intro i k o hi h0 h1 h
  unfold loopF at h
  by_cases he:i=l.length
  ·subst he
   rw[hE]at h
   cases h
   rw[List.drop_eq_nil_of_le (Nat.le_refl _)]
   exact .inr ⟨_,rfl,by simp⟩
  ·have hx:l[i]?=some (l[i]'(by omega)):=qE1 (by omega)
   obtain⟨r',e,e1,e2⟩:=hB i _ k hx h0 h1
   rw[e]at h
   by_cases hr:r'<0
   ·rw[if_pos hr]at h;cases h;exact .inl rfl
   ·rw[if_neg hr]at h
    rcases ih (i+1) r' o (by omega) (by omega) (by omega) h with h|⟨r,h,h2⟩
    ·exact .inl h
    ·have:=e2 (by omega)
     refine .inr ⟨r,h,?_⟩
     rw[drop_get hx,List.map_cons,List.sum_cons]
     omega
theorem wt_Win {fuel:Nat} {x:LWin} {left:Int} (h:FitWin 9223372036854775807 (tWin x)) (h0:0≤left) (h1:left≤1048576):∃r,pL_szWin fuel x left=some r∧r≤left∧(0≤r→r+(x.Tree.length:Int)≤left):=by
 obtain⟨s_Name,l_Tree⟩:=h
 have s_Name:x.Name.size≤9223372036854775807:=s_Name
 have l_Tree:x.Tree.length≤9223372036854775807:=by simpa [tWin]using l_Tree
 unfold pL_szWin pL_szNodeS
 rw[gd_i64 (by omega) (by omega)]
 by_cases n_Name:left-(x.Name.size:Int)<0
 ·rw[qT1 n_Name];exact⟨-1,rfl,by omega,fun h=>by omega⟩
 rw[qF1 n_Name]
 simp only[br_f]
 rw[gd_i64 (by omega) (by omega)]
 by_cases n2:left-(x.Name.size:Int)-(x.Tree.length:Int)<0
 ·rw[qT1 n2];exact⟨-1,rfl,by omega,fun h=>by omega⟩
 rw[qF1 n2]
 simp only[br_f,bd_s,qF1 n2]
 exact⟨_,rfl,by omega,fun _=>by omega⟩
theorem wt_Sess {fuel:Nat} {x:LSess} {left:Int} (h:FitSess 9223372036854775807 (tSess x)) (h0:0≤left) (h1:left≤1048576):∃r,pL_szSess fuel x left=some r∧r≤left∧(0≤r→r+(x.Wins.length:Int)≤left):=by
 obtain⟨s_Name,l_Tree⟩:=h
 have s_Name:x.Name.size≤9223372036854775807:=s_Name
 have l_Tree:x.Wins.length≤9223372036854775807:=l_Tree
 unfold pL_szSess pL_szIntS
 rw[gd_i64 (by omega) (by omega)]
 by_cases n_Name:left-(x.Name.size:Int)<0
 ·rw[qT1 n_Name];exact⟨-1,rfl,by omega,fun h=>by omega⟩
 rw[qF1 n_Name]
 simp only[br_f]
 rw[gd_i64 (by omega) (by omega)]
 by_cases n2:left-(x.Name.size:Int)-(x.Wins.length:Int)<0
 ·rw[qT1 n2];exact⟨-1,rfl,by omega,fun h=>by omega⟩
 rw[qF1 n2]
 simp only[br_f,bd_s,qF1 n2]
 exact⟨_,rfl,by omega,fun _=>by omega⟩
theorem wt_WinS {fuel:Nat} {l:List LWin} {left r:Int} (hm:l.length≤9223372036854775807) (h0:0≤left) (h1:left≤1048576) (hx:∀y∈l,FitWin 9223372036854775807 (tWin y)) (h:pL_szWinS fuel l left=some r) (hr:0≤r):(l.flatMap fun w=>w.Tree).length≤1048576:=by
 unfold pL_szWinS at h
 rw[gd_i64 (by omega) (by omega)]at h
 by_cases hn:left-(l.length:Int)<0
 ·rw[qT1 hn]at h;cases h;omega
 rw[qF1 hn]at h
 simp only[br_f]at h
 have key:=loopF_wt (B:=pL_szWinS_b1 fuel) l (fun w=>w.Tree.length) (fun i x k hxi hk0 hk1=>by
   obtain⟨g1,g2,g3,g4,g5⟩:=idx_facts hxi (by omega)
   obtain⟨r,e1,e2,e3⟩:=wt_Win (fuel:=fuel) (x:=x) (left:=k) (hx x (qM1 hxi)) hk0 hk1
   refine⟨r,?_,e2,e3⟩
   unfold pL_szWinS_b1
   simp only[g1,br_t,gd_t g2,g3,bd_s,e1,g5,gd_t g4,show IntKind.i64.wrap ((i+1:Nat):Int)=((i+1:Nat):Int)from g4]
   by_cases hr:r<0
   ·simp only[qT1 hr,br_t,if_pos hr]
   ·simp only[qF1 hr,br_f,if_neg hr]) (fun k=>by unfold pL_szWinS_b1;simp) fuel 0 (left-(l.length:Int))
 cases hl:loopF (pL_szWinS_b1 fuel) fuel (l,left-(l.length:Int),0)with
 | none=>rw[hl]at h;cases h
 | some o=>
  rw[hl]at h
  rcases key o (by omega) (by omega) (by omega) hl with rfl|⟨v,rfl,h2⟩
  ·cases h;omega
  ·rw[List.length_flatMap]
   rw[List.drop_zero]at h2
   cases h
   omega
theorem wt_SessS {fuel:Nat} {l:List LSess} {left r:Int} (hm:l.length≤9223372036854775807) (h0:0≤left) (h1:left≤1048576) (hx:∀y∈l,FitSess 9223372036854775807 (tSess y)) (h:pL_szSessS fuel l left=some r) (hr:0≤r):(l.flatMap fun w=>w.Wins).length≤1048576:=by
 unfold pL_szSessS at h
 rw[gd_i64 (by omega) (by omega)]at h
 by_cases hn:left-(l.length:Int)<0
 ·rw[qT1 hn]at h;cases h;omega
 rw[qF1 hn]at h
 simp only[br_f]at h
 have key:=loopF_wt (B:=pL_szSessS_b1 fuel) l (fun w=>w.Wins.length) (fun i x k hxi hk0 hk1=>by
   obtain⟨g1,g2,g3,g4,g5⟩:=idx_facts hxi (by omega)
   obtain⟨r,e1,e2,e3⟩:=wt_Sess (fuel:=fuel) (x:=x) (left:=k) (hx x (qM1 hxi)) hk0 hk1
   refine⟨r,?_,e2,e3⟩
   unfold pL_szSessS_b1
   simp only[g1,br_t,gd_t g2,g3,bd_s,e1,g5,gd_t g4,show IntKind.i64.wrap ((i+1:Nat):Int)=((i+1:Nat):Int)from g4]
   by_cases hr:r<0
   ·simp only[qT1 hr,br_t,if_pos hr]
   ·simp only[qF1 hr,br_f,if_neg hr]) (fun k=>by unfold pL_szSessS_b1;simp) fuel 0 (left-(l.length:Int))
 cases hl:loopF (pL_szSessS_b1 fuel) fuel (l,left-(l.length:Int),0)with
 | none=>rw[hl]at h;cases h
 | some o=>
  rw[hl]at h
  rcases key o (by omega) (by omega) (by omega) hl with rfl|⟨v,rfl,h2⟩
  ·cases h;omega
  ·rw[List.length_flatMap]
   rw[List.drop_zero]at h2
   cases h
   omega
theorem markText_loop (F:Nat):∀(m fuel:Nat) (v:Int) (s:ByteArray),0≤v→v≤9223372036854775807→v<10 ^ m→m<fuel→s.size+m≤1000→∃r:ByteArray,loopF (pL_markText_b1 F) fuel (v,s)=some r∧r.size≤1000
 | m,0,_,_,_,_,_,h,_=>by omega
 | 0,fuel+1,v,s,h0,hM,h1,_,hs=>by
  have:v=0:=by simp at h1;omega
  subst this
  exact⟨s,by rw[loopF];rfl,by omega⟩
 | m+1,fuel+1,v,s,h0,hM,h1,hf,hs=>by
  rw[loopF]
  by_cases hv:0<v
  ·have hd:v.tdiv 10=v / 10:=Int.tdiv_eq_ediv_of_nonneg h0
   have hm:v.tmod 10=v % 10:=Int.tmod_eq_emod_of_nonneg h0
   have hp:(10:Int) ^ (m+1)=10 ^ m*10:=Int.pow_succ 10 m
   have e:pL_markText_b1 F (v,s)=some (.inl (v / 10,ByteArray.mk #[UInt8.ofNat (IntKind.u8.wrap (48+v % 10)).toNat]++s)):=by
    unfold pL_markText_b1
    simp only[qT1 hv,br_t]
    rw[gd_t (by omega),hm,gd_i64 (by omega) (by omega),gd_t (by show 1+s.size≤_;omega),gd_t (by omega),hd,gd_i64 (by omega) (by omega)]
   rw[e]
   refine markText_loop F m fuel (v / 10) _ (by omega) (by omega) (by rw[hp]at h1;omega) (by omega) ?_
   rw[ByteArray.size_append]
   show 1+s.size+m≤1000
   omega
  ·have:v=0:=by omega
   subst this
   exact⟨s,rfl,by omega⟩
theorem markText_tot {fuel:Nat} {k:Int} (h0:0≤k) (h1:k≤9223372036854775807) (hf:100<fuel):∃s,pL_markText fuel k=some s:=by
 unfold pL_markText
 by_cases h:k≤0
 ·rw[qT1 h];exact⟨_,rfl⟩
 ·rw[qF1 h]
  obtain⟨r,h2,h3⟩:=markText_loop fuel 20 fuel k (ByteArray.mk #[]) h0 (by omega) (by omega) (by omega) (by decide)
  simp only[br_f,h2,bd_s]
  rw[gd_t (by show 1+r.size≤_;omega)]
  exact⟨_,rfl⟩
theorem wrap64 {v:Int} (h1: -9223372036854775808≤v) (h2:v≤9223372036854775807):IntKind.i64.wrap v=v:=(wrap_iff .i64 v).2 ⟨h1,h2⟩
theorem mark_tot {α:Type} {B:List α×Int×Int→Option ((List α×Int×Int)⊕(Int×List α))} (l:List α) (C:Int) (hC:0≤C) {k:Int} {fuel:Nat} (hk:0≤k) (hk2:k+C*(l.length:Int)≤9000000000000000000)
  (hB:∀(i:Nat) x (l':List α) (k:Int),l'[i]?=some x→l[i]?=some x→(decide ((i:Int)<(l'.length:Int))=true∧((0:Int)≤i∧(i:Int)<(l'.length:Int))∧(i:Int)+1=((i+1:Nat):Int)∧inK .i64 ((i+1:Nat):Int)∧l'[0+(i:Int).toNat]?=some x)→0≤k→k+C≤9000000000000000000→∃k' x',B (l',k,(i:Int))=some (.inl (l'.set (0+(i:Int).toNat) x',k',(i:Int)+1))∧k≤k'∧k'≤k+C)
  (hE:∀(l':List α) k,B (l',k,(l'.length:Int))=some (.inr (k,l'))) (hf:l.length<fuel) (hl:l.length≤1048581):∃k' l',loopF B fuel (l,k,0)=some (k',l')∧k≤k'∧k'≤k+C*(l.length:Int):=by
 obtain⟨k',l',ks,q1,q2,q3,q4,_⟩:=loopF_mark (B:=B) l C hC (fun _ _ _ _=>True) (fun k l=>(k,l)) (k:=k) (fuel:=fuel) hk hk2 (fun i x l' k hx hxl hl' hk0 hk1=>by
  obtain⟨g1,g2,g3,g4,g5⟩:=idx_facts hx (by omega)
  obtain⟨k2,x',m1,m2,m3⟩:=hB i x l' k hx hxl ⟨g1,g2,g5,g4,by rw[Nat.zero_add];exact g3⟩ hk0 hk1
  exact⟨k2,x',by rw[m1,Nat.zero_add,Int.toNat_natCast,g5],trivial,m2,m3⟩) (fun l' k hl'=>by rw[←hl'];exact hE l' k) hf
 exact⟨k',l',q1,q2,q3⟩
theorem bd_of {α β:Type} {x:Option α} {a:α} (h:x=some a) (f:α→Option β):bd x f=f a:=by rw[h];rfl
theorem mark_IntS {fuel:Nat} {l:List Int} {k:Int} (hl:l.length≤1048581) (hf:1048590<fuel) (h0:0≤k) (h1:k+1048590≤9000000000000000000):∃k' l',pL_markIntS fuel l k=some (k',l')∧k≤k'∧k'≤k+1048581:=by
 obtain⟨k',l',q1,q2,q3⟩:=mark_tot (B:=pL_markIntS_b1 fuel) l 1 (by omega) (k:=k) (fuel:=fuel) h0 (by omega) (fun i x l' k hx hxl ⟨g1,g2,g5,g4,g3⟩ hk0 hk1=>by
  refine⟨k+1,k,?_,by omega,by omega⟩
  unfold pL_markIntS_b1
  simp only[g1,br_t,gd_t g2,g3,bd_s]
  rw[g5,gd_t g4,wrap64 (by omega) (by omega)]) (fun l' k=>by unfold pL_markIntS_b1;simp) (by omega) hl
 exact⟨k',l',by unfold pL_markIntS;rw[q1];rfl,q2,by omega⟩
theorem mark_ByteS {fuel:Nat} {l:List UInt8} {k:Int} (hl:l.length≤1048581) (hf:1048590<fuel) (h0:0≤k) (h1:k+1048590≤9000000000000000000):∃k' l',pL_markByteS fuel l k=some (k',l')∧k≤k'∧k'≤k+1048581:=by
 obtain⟨k',l',q1,q2,q3⟩:=mark_tot (B:=pL_markByteS_b1 fuel) l 1 (by omega) (k:=k) (fuel:=fuel) h0 (by omega) (fun i x l' k hx hxl ⟨g1,g2,g5,g4,g3⟩ hk0 hk1=>by
  refine⟨k+1,UInt8.ofNat (IntKind.u8.wrap k).toNat,?_,by omega,by omega⟩
  unfold pL_markByteS_b1
  simp only[g1,br_t,gd_t g2,g3,bd_s]
  rw[gd_i64 (by omega) (by omega),g5,gd_t g4]) (fun l' k=>by unfold pL_markByteS_b1;simp) (by omega) hl
 exact⟨k',l',by unfold pL_markByteS;rw[q1];rfl,q2,by omega⟩
theorem mark_NodeS {fuel:Nat} {l:List INode} {k:Int} (hl:l.length≤1048581) (hf:1048590<fuel) (h0:0≤k) (h1:k+3145800≤9000000000000000000):∃k' l',pL_markNodeS fuel l k=some (k',l')∧k≤k'∧k'≤k+3145743:=by
 obtain⟨k',l',q1,q2,q3⟩:=mark_tot (B:=pL_markNodeS_b1 fuel) l 3 (by omega) (k:=k) (fuel:=fuel) h0 (by omega) (fun i x l' k hx hxl ⟨g1,g2,g5,g4,g3⟩ hk0 hk1=>by
  have hi:=(qS1.1 hx).1
  refine⟨k+1+1+1,INode.mk k ((k+1).tmod 3==0) (k+1+1),?_,by omega,by omega⟩
  unfold pL_markNodeS_b1
  simp only[g1,br_t,gd_t g2,g3,bd_s,List.getElem?_set_self (show 0+(i:Int).toNat<l'.length by omega),List.set_set,gd_t (show(3:Int)≠(0:Int) by omega)]
  rw[gd_i64 (by omega) (by omega),gd_i64 (by omega) (by omega),gd_i64 (by omega) (by omega),g5,gd_t g4]) (fun l' k=>by unfold pL_markNodeS_b1;simp) (by omega) hl
 exact⟨k',l',by unfold pL_markNodeS;rw[q1];rfl,q2,by omega⟩
theorem nb (b:Bool):(!b==b)=false:=by cases b<;>rfl
theorem mark_CellS {fuel:Nat} {l:List ICell} {k:Int} (hl:l.length≤1048581) (hf:1048590<fuel) (h0:0≤k) (h1:k+6291500≤9000000000000000000) :
  ∃k' l',pL_markCellS fuel l k=some (k',l')∧k≤k'∧k'≤k+6291486∧pL_heldCellS fuel l' k=some k':=by
 obtain⟨k',l',ks,q1,q2,q3,q4,q5,q6,q7,q8⟩:=loopF_mark (B:=pL_markCellS_b1 fuel) l 6 (by omega) (fun k x k' x'=>k'=k+1+1+1+1+1+1∧x'=ICell.mk k (IAttr.mk (k+1) (k+1+1) ((k+1+1+1).tmod 3==0) ((k+1+1+1+1).tmod 3==0) ((k+1+1+1+1+1).tmod 3==0))) (fun k l=>(k,l)) (k:=k) (fuel:=fuel) h0 (by omega) (fun i x l' k hx hxl hl' hk0 hk1=>by
  obtain⟨g1,g2,g3,g4,g5⟩:=idx_facts hx (by omega)
  have hi:=(qS1.1 hx).1
  refine⟨k+1+1+1+1+1+1,_,?_,⟨rfl,rfl⟩,by omega,by omega⟩
  unfold pL_markCellS_b1
  simp only[g1,br_t,gd_t g2,show(0+(i:Int).toNat)=i by omega,hx,bd_s,List.getElem?_set_self hi,List.set_set,gd_t (show(3:Int)≠(0:Int) by omega)]
  rw[gd_i64 (by omega) (by omega),gd_i64 (by omega) (by omega),gd_i64 (by omega) (by omega),gd_i64 (by omega) (by omega),gd_i64 (by omega) (by omega),gd_i64 (by omega) (by omega),g5,gd_t g4]) (fun l' k hl'=>by
  unfold pL_markCellS_b1
  rw[←hl']
  simp) (by omega)
 refine⟨k',l',by unfold pL_markCellS;rw[q1];rfl,q2,by omega,?_⟩
 unfold pL_heldCellS
 have:=loopF_walk (B:=pL_heldCellS_b1 fuel) (fun i=>(l',ks i,(i:Int))) l'.length (.inl k') (fuel:=fuel) (v:=(l',k,0)) (by simp[q5]) (fun i hi=>by
  obtain⟨x',e1,m1,m2⟩:=q8 i l[i] (qE1 (by omega))
  obtain⟨g1,g2,g3,g4,g5⟩:=idx_facts e1 (by omega)
  obtain⟨b1,b2⟩:=q7 i (by omega)
  unfold pL_heldCellS_b1
  simp only[g1,br_t,gd_t g2,g3,bd_s,m2,bne_self_eq_false,br_f,nb,gd_t (show(3:Int)≠(0:Int) by omega)]
  rw[gd_i64 (by omega) (by omega),gd_i64 (by omega) (by omega),gd_i64 (by omega) (by omega),gd_i64 (by omega) (by omega),gd_i64 (by omega) (by omega),gd_i64 (by omega) (by omega),g5,gd_t g4,m1]) (by
  unfold pL_heldCellS_b1
  dsimp only
  rw[qF1 (by omega),br_f,q4,q6]) (by omega)
 rw[this]
 rfl
theorem mark_RowS {fuel:Nat} {l:List IRow} {k:Int} (hl:l.length≤1048581) (hx:∀y∈l,FitRow 1048581 y) (hf:1048590<fuel) (h0:0≤k) (h1:k+6597147370000≤9000000000000000000) :
  ∃k' l',pL_markRowS fuel l k=some (k',l')∧k≤k'∧k'≤k+6597147361500:=by
 obtain⟨k',l',q1,q2,q3⟩:=mark_tot (B:=pL_markRowS_b1 fuel) l 6291500 (by omega) (k:=k) (fuel:=fuel) h0 (by omega) (fun i x l' k hx1 hxl ⟨g1,g2,g5,g4,g3⟩ hk0 hk1=>by
  have hfx:x.Cells.length≤1048581:=hx x (qM1 hxl)
  obtain⟨k2,c2,m1,m2,m3,m4⟩:=mark_CellS (fuel:=fuel) (l:=x.Cells) (k:=k) hfx hf hk0 hk1
  refine⟨k2,IRow.mk c2,?_,m2,by omega⟩
  unfold pL_markRowS_b1
  simp only[g1,br_t,gd_t g2,g3,bd_s,m1]
  rw[g5,gd_t g4]) (fun l' k=>by unfold pL_markRowS_b1;simp) (by omega) hl
 exact⟨k',l',by unfold pL_markRowS;rw[q1];rfl,q2,by omega⟩
theorem mark_WinS {fuel:Nat} {l:List IWin} {k:Int} (hl:l.length≤1048581) (hx:∀y∈l,FitWin 1048581 y) (hf:1048590<fuel) (h0:0≤k) (h1:k+3299000000000≤9000000000000000000) :
  ∃k' l',pL_markWinS fuel l k=some (k',l')∧k≤k'∧k'≤k+3299000000000:=by
 obtain⟨k',l',q1,q2,q3⟩:=mark_tot (B:=pL_markWinS_b1 fuel) l 3145900 (by omega) (k:=k) (fuel:=fuel) h0 (by omega) (fun i x l' k hx1 hxl ⟨g1,g2,g5,g4,g3⟩ hk0 hk1=>by
  have hfx:=(hx x (qM1 hxl)).2
  obtain⟨s1,t1⟩:=markText_tot (fuel:=fuel) (k:=k+1) (by omega) (by omega) (by omega)
  obtain⟨k2,c2,m1,m2,m3⟩:=mark_NodeS (fuel:=fuel) (l:=x.Tree) (k:=k+1+1) hfx hf (by omega) (by omega)
  refine⟨k2+1+1,IWin.mk k s1 c2 k2 ((k2+1).tmod 3==0),?_,by omega,by omega⟩
  unfold pL_markWinS_b1
  simp only[g1,br_t,gd_t g2,g3,bd_s,t1,m1,gd_t (show(3:Int)≠(0:Int) by omega)]
  repeat rw[gd_p (by first|exact trivial|exact inK64 (by omega) (by omega)|(rw[g5];exact g4))]
  ) (fun l' k=>by unfold pL_markWinS_b1;simp) (by omega) hl
 exact⟨k',l',by unfold pL_markWinS;rw[q1];rfl,q2,by omega⟩
theorem mark_SessS {fuel:Nat} {l:List ISess} {k:Int} (hl:l.length≤1048581) (hx:∀y∈l,FitSess 1048581 y) (hf:1048590<fuel) (h0:0≤k) (h1:k+1099700000000≤9000000000000000000) :
  ∃k' l',pL_markSessS fuel l k=some (k',l')∧k≤k'∧k'≤k+1099700000000:=by
 obtain⟨k',l',q1,q2,q3⟩:=mark_tot (B:=pL_markSessS_b1 fuel) l 1048700 (by omega) (k:=k) (fuel:=fuel) h0 (by omega) (fun i x l' k hx1 hxl ⟨g1,g2,g5,g4,g3⟩ hk0 hk1=>by
  have hfx:=(hx x (qM1 hxl)).2
  obtain⟨s1,t1⟩:=markText_tot (fuel:=fuel) (k:=k) (by omega) (by omega) (by omega)
  obtain⟨k2,c2,m1,m2,m3⟩:=mark_IntS (fuel:=fuel) (l:=x.Wins) (k:=k+1) hfx hf (by omega) (by omega)
  refine⟨k2+1,ISess.mk s1 c2 k2,?_,by omega,by omega⟩
  unfold pL_markSessS_b1
  simp only[g1,br_t,gd_t g2,g3,bd_s,t1,m1]
  repeat rw[gd_p (by first|exact trivial|exact inK64 (by omega) (by omega)|(rw[g5];exact g4))]
  ) (fun l' k=>by unfold pL_markSessS_b1;simp) (by omega) hl
 exact⟨k',l',by unfold pL_markSessS;rw[q1];rfl,q2,by omega⟩
set_option maxHeartbeats 2000000 in
theorem mark_Pane1 {fuel:Nat} {l':List IPane} {i:Nat} {x:IPane} {k k1 k2 k3 k4 k5 k6:Int} {s1 s2:ByteArray} {c1:List Int} {c2:List UInt8} {c3 c4:List ICell} {c5:List Int} {c6:List IRow} (g1:decide ((i:Int)<(l'.length:Int))=true) (g2:(0:Int)≤i∧(i:Int)<(l'.length:Int)) (g3:l'[0+(i:Int).toNat]?=some x) (g5:(i:Int)+1=((i+1:Nat):Int)) (g4:inK .i64 ((i+1:Nat):Int))
  (t1:pL_markText fuel (k+1)=some s1) (t2:pL_markText fuel (k+1+1)=some s2) (m1:pL_markIntS fuel x.Term.P.Args (k+1+1+1+1+1+1+1+1)=some (k1,c1)) (m2:pL_markByteS fuel x.Term.P.Part k1=some (k2,c2)) (m3:pL_markCellS fuel x.Term.S.Main.Cells (k2+1+1+1+1)=some (k3,c3)) (m4:pL_markCellS fuel x.Term.S.Alt.Cells (k3+1+1)=some (k4,c4))
  (m5:pL_markIntS fuel x.Term.S.Tabs (k4+1+1+1+1+1+1+1+1+1+1+1+1+1+1+1+1+1+1+1+1)=some (k5,c5)) (m6:pL_markRowS fuel x.Term.S.Back (k5+1)=some (k6,c6)) (h0:0≤k) (u0:k+100≤9000000000000000000) (u2:0≤k2∧k2+100≤9000000000000000000) (u3:0≤k3∧k3+100≤9000000000000000000) (u4:0≤k4∧k4+100≤9000000000000000000) (u5:0≤k5∧k5+100≤9000000000000000000) :
  ∃x',pL_markPaneS_b1 fuel (l',k,(i:Int))=some (.inl (l'.set (0+(i:Int).toNat) x',k6,(i:Int)+1)):=by
 have e3:(3:Int)≠(0:Int):=by decide
 have g6:inK .i64 ((i:Int)+1):=by rw[g5];exact g4
 clear g4 g5
 refine⟨?x,?h⟩
 case h=>
  unfold pL_markPaneS_b1
  dsimp only
  rw[g1,br_t]
  refine(gd_p g2 _).trans ?_
  refine(bd_of g3 _).trans ?_
  repeat (first
   | with_reducible refine (gd_p g6 _).trans ?_
   | with_reducible refine (gd_i64 (by omega) (by omega)).trans ?_
   | with_reducible refine (gd_p g2 _).trans ?_
   | with_reducible refine (gd_p e3 _).trans ?_
   | with_reducible refine (gd_p rfl _).trans ?_
   | (with_reducible refine (bd_of t1 _).trans ?_; try dsimp only)
   | (with_reducible refine (bd_of t2 _).trans ?_; try dsimp only)
   | (with_reducible refine (bd_of m1 _).trans ?_; try dsimp only)
   | (with_reducible refine (bd_of m2 _).trans ?_; try dsimp only)
   | (with_reducible refine (bd_of m3 _).trans ?_; try dsimp only)
   | (with_reducible refine (bd_of m4 _).trans ?_; try dsimp only)
   | (with_reducible refine (bd_of m5 _).trans ?_; try dsimp only)
   | (with_reducible refine (bd_of m6 _).trans ?_; try dsimp only))
  rfl
theorem mark_PaneS {fuel:Nat} {l:List IPane} {k:Int} (hl:l.length≤1048581) (hx:∀y∈l,FitPane 1048581 y) (hf:1048590<fuel) (h0:0≤k) (h1:k≤1000) :
  ∃k' l',pL_markPaneS fuel l k=some (k',l')∧k≤k'∧k'≤k+6920634600000000000:=by
 obtain⟨k',l',q1,q2,q3⟩:=mark_tot (B:=pL_markPaneS_b1 fuel) l 6600000000000 (by omega) (k:=k) (fuel:=fuel) h0 (by omega) (fun i x l' k hx1 hxl ⟨g1,g2,g5,g4,g3⟩ hk0 hk1=>by
  obtain⟨_,_,⟨p1,p2⟩,f1,f2,f3,f4,f5⟩:=hx x (qM1 hxl)
  obtain⟨s1,t1⟩:=markText_tot (fuel:=fuel) (k:=k+1) (by omega) (by omega) (by omega)
  obtain⟨s2,t2⟩:=markText_tot (fuel:=fuel) (k:=k+1+1) (by omega) (by omega) (by omega)
  obtain⟨k1,c1,m1,a1,b1⟩:=mark_IntS (fuel:=fuel) (l:=x.Term.P.Args) (k:=k+1+1+1+1+1+1+1+1) p1 hf (by omega) (by omega)
  obtain⟨k2,c2,m2,a2,b2⟩:=mark_ByteS (fuel:=fuel) (l:=x.Term.P.Part) (k:=k1) p2 hf (by omega) (by omega)
  obtain⟨k3,c3,m3,a3,b3,_⟩:=mark_CellS (fuel:=fuel) (l:=x.Term.S.Main.Cells) (k:=k2+1+1+1+1) f1 hf (by omega) (by omega)
  obtain⟨k4,c4,m4,a4,b4,_⟩:=mark_CellS (fuel:=fuel) (l:=x.Term.S.Alt.Cells) (k:=k3+1+1) f2 hf (by omega) (by omega)
  obtain⟨k5,c5,m5,a5,b5⟩:=mark_IntS (fuel:=fuel) (l:=x.Term.S.Tabs) (k:=k4+1+1+1+1+1+1+1+1+1+1+1+1+1+1+1+1+1+1+1+1) f3 hf (by omega) (by omega)
  obtain⟨k6,c6,m6,a6,b6⟩:=mark_RowS (fuel:=fuel) (l:=x.Term.S.Back) (k:=k5+1) f4 f5 hf (by omega) (by omega)
  obtain⟨x',e⟩:=mark_Pane1 g1 g2 g3 g5 g4 t1 t2 m1 m2 m3 m4 m5 m6 hk0 (by omega) (by omega) (by omega) (by omega) (by omega)
  exact⟨k6,x',e,by omega,by omega⟩
  ) (fun l' k=>by unfold pL_markPaneS_b1;simp) (by omega) hl
 exact⟨k',l',by unfold pL_markPaneS;rw[q1];rfl,q2,by omega⟩
theorem mark_State {fuel:Nat} {x:IState} (h:FitState 1048581 x) (hf:1048590<fuel):∃k' a b c,pL_markState fuel x 1=some (k',a,b,c)∧0≤k':=by
 obtain⟨h1,h2,h3,h4,h5,h6⟩:=h
 obtain⟨k1,a,a1,a2,a3⟩:=mark_PaneS (fuel:=fuel) (l:=x.Panes) (k:=1) h1 h2 hf (by omega) (by omega)
 obtain⟨k2,b,b1,b2,b3⟩:=mark_WinS (fuel:=fuel) (l:=x.Wins) (k:=k1) h3 h4 hf (by omega) (by omega)
 obtain⟨k3,c,c1,c2,c3⟩:=mark_SessS (fuel:=fuel) (l:=x.Sess) (k:=k2) h5 h6 hf (by omega) (by omega)
 refine⟨k3,a,b,c,?_,by omega⟩
 unfold pL_markState
 rw[a1,bd_s]
 dsimp only
 rw[b1,bd_s]
 dsimp only
 rw[c1,bd_s]
theorem sz_StateG {fuel:Nat} {x:LState} {left:Int} (hf:1048586<fuel) (h:FitState 9223372036854775807 (tState x)) (h0:0≤left) (h1:left≤1048576):∃r,pL_szState fuel x left=some r∧(0≤r→FitState 1048576 (tState x)∧(x.Wins.flatMap fun w=>w.Tree).length≤1048576∧(x.Sess.flatMap fun w=>w.Wins).length≤1048576):=by
 obtain⟨r0,q0,q1,q2⟩:=sz_State (fuel:=fuel) hf h h0 h1
 refine⟨r0,q0,fun hr=>⟨q2 hr,?_⟩⟩
 obtain⟨l_Panes,e_Panes,l_Wins,e_Wins,l_Sess,e_Sess⟩:=h
 have l_Panes:x.Panes.length≤9223372036854775807:=by simpa [tState]using l_Panes
 have l_Wins:x.Wins.length≤9223372036854775807:=by simpa [tState]using l_Wins
 have l_Sess:x.Sess.length≤9223372036854775807:=by simpa [tState]using l_Sess
 have f_Wins:∀y∈x.Wins,FitWin 9223372036854775807 (tWin y):=fun y hy=>e_Wins _ (List.mem_map.2 ⟨y,hy,rfl⟩)
 have f_Sess:∀y∈x.Sess,FitSess 9223372036854775807 (tSess y):=fun y hy=>e_Sess _ (List.mem_map.2 ⟨y,hy,rfl⟩)
 unfold pL_szState at q0
 obtain⟨r1,a1,b1,c1⟩:=sz_PaneS (fuel:=fuel) (l:=x.Panes) (left:=left) l_Panes (by omega) (by omega) hf (fun y hy=>e_Panes _ (List.mem_map.2 ⟨y,hy,rfl⟩))
 rw[a1,bd_s]at q0
 by_cases n1:r1<0
 ·rw[qT1 n1]at q0;cases q0;omega
 rw[qF1 n1,br_f]at q0
 obtain⟨r2,a2,b2,c2⟩:=sz_WinS (fuel:=fuel) (l:=x.Wins) (left:=r1) l_Wins (by omega) (by omega) hf f_Wins
 rw[a2,bd_s]at q0
 by_cases n2:r2<0
 ·rw[qT1 n2]at q0;cases q0;omega
 rw[qF1 n2,br_f]at q0
 obtain⟨r3,a3,b3,c3⟩:=sz_SessS (fuel:=fuel) (l:=x.Sess) (left:=r2) l_Sess (by omega) (by omega) hf f_Sess
 rw[a3,bd_s]at q0
 by_cases n3:r3<0
 ·rw[qT1 n3]at q0;cases q0;omega
 exact⟨wt_WinS l_Wins (by omega) (by omega) f_Wins a2 (by omega),wt_SessS l_Sess (by omega) (by omega) f_Sess a3 (by omega)⟩
theorem paneF_of {p:IPane} (hp:FitPane 1048576 p) {fu:Nat} (hf:1048700≤fu):PaneF fu p:=by
 obtain⟨_,_,⟨a1,a2⟩,b1,b2,b3,b4,b5⟩:=hp
 have b1:p.Term.S.Main.Cells.length≤1048576:=b1
 have b2:p.Term.S.Alt.Cells.length≤1048576:=b2
 refine⟨by omega,by omega,⟨⟨by omega,by omega⟩,⟨by omega,by omega⟩,⟨by omega,by omega⟩,⟨by omega,by omega⟩,fun x hx=> ?_,by omega⟩⟩
 have:x.Cells.length≤1048576:=b5 x hx
 exact⟨by omega,by omega⟩
theorem FitPane.up {p:IPane} (h:FitPane 1048576 p):FitPane 1048581 p:=by
 obtain⟨h1,h2,⟨a1,a2⟩,b1,b2,b3,b4,b5⟩:=h
 have b1:p.Term.S.Main.Cells.length≤1048576:=b1
 have b2:p.Term.S.Alt.Cells.length≤1048576:=b2
 refine⟨by omega,by omega,⟨by omega,by omega⟩,?_,?_,by omega,by omega,fun y hy=> ?_⟩
 ·show p.Term.S.Main.Cells.length≤_;omega
 ·show p.Term.S.Alt.Cells.length≤_;omega
 ·have:y.Cells.length≤1048576:=b5 y hy
  show y.Cells.length≤_;omega
theorem FitState.up {s:IState} (h:FitState 1048576 s):FitState 1048581 s:=by
 obtain⟨h1,h2,h3,h4,h5,h6⟩:=h
 exact⟨by omega,fun y hy=>(h2 y hy).up,by omega,fun y hy=>⟨Nat.le_trans (h4 y hy).1 (by omega),Nat.le_trans (h4 y hy).2 (by omega)⟩,by omega,fun y hy=>⟨Nat.le_trans (h6 y hy).1 (by omega),Nat.le_trans (h6 y hy).2 (by omega)⟩⟩
theorem flat_tree (l:List LWin):((l.map tWin).flatMap fun w=>w.Tree).length=(l.flatMap fun w=>w.Tree).length:=by
 rw[List.length_flatMap,List.length_flatMap,List.map_map]
 congr 1
 exact List.map_congr_left fun w hw=>by show(w.Tree.map tNode).length=_;rw[List.length_map]
theorem flat_wins (l:List LSess):((l.map tSess).flatMap fun w=>w.Wins).length=(l.flatMap fun w=>w.Wins).length:=by
 rw[List.length_flatMap,List.length_flatMap,List.map_map]
 congr 1
theorem sg_of {F:Nat} {x:LState} (hF:20000000<F+70) (h:FitState 1048576 (tState x)) (h1:(x.Wins.flatMap fun w=>w.Tree).length≤1048576) (h2:(x.Sess.flatMap fun w=>w.Wins).length≤1048576):SG F (tState x):=by
 obtain⟨a1,a2,a3,a4,a5,a6⟩:=h
 refine⟨⟨⟨hF,a1,a3,a5,fun w hw=>(a4 w hw).2,fun w hw=>(a4 w hw).1,fun w hw=>(a6 w hw).2,fun w hw=>(a6 w hw).1⟩,fun p hp=>paneF_of (a2 p hp) (by omega)⟩,?_,?_⟩
 ·show((x.Wins.map tWin).flatMap fun w=>w.Tree).length≤_;rw[flat_tree];exact h1
 ·show((x.Sess.map tSess).flatMap fun w=>w.Wins).length≤_;rw[flat_wins];exact h2
theorem plain_law (s:LState) (n:ByteArray) (W H back:Int) (hs:FitState 9223372036854775807 (tState s)):pL_FnExactPicture 20000100 s n W H back=some true:=by
 have hf:1048586<20000100:=by omega
 unfold pL_FnExactPicture
 by_cases n0:1048576<(n.size:Int)
 ·rw[qT1 n0];rfl
 rw[qF1 n0]
 simp only[br_f]
 obtain⟨r1,a1,a2⟩:=sz_StateG (fuel:=20000100) (x:=s) (left:=1048576) hf hs (by omega) (by omega)
 rw[a1]
 simp only[bd_s]
 by_cases n1:r1<0
 ·rw[qT1 n1];rfl
 rw[qF1 n1]
 simp only[br_f]
 obtain⟨hs',s1,s2⟩:=a2 (by omega)
 have hg:SG 20000030 (tState s):=sg_of (by omega) hs' s1 s2
 have e1:=to_State (fuel:=20000100) (x:=s) hf hs'
 obtain⟨v,b,e4,e3,hl⟩:=Picture_both hg n W H back
 have e3:pS_Picture 20000100 (tState s) n W H back=some (v,b):=e3
 have e4:pI_Picture 20000100 (tState s) n W H back=some (v,b):=e4
 have e5:=eq_State (fuel:=20000100) (x:=tState s) hf hs'.up
 have e6:pL_eqView 20000100 v v=some true:=by
  unfold pL_eqView
  rw[eq_Grid (fuel:=20000100) (x:=v.Grid) hf (show v.Grid.Cells.length≤_ by omega),bd_s]
  simp only[Bool.not_true,br_f,bne_self_eq_false,beq_self_eq_true]
 obtain⟨k1,ma,mb,mc,m1,m2⟩:=mark_State (fuel:=20000100) (x:=tState s) hs'.up (by omega)
 obtain⟨k2,l2,c1,c2,c3,c4⟩:=mark_CellS (fuel:=20000100) (l:=v.Grid.Cells) (k:=1) (by omega) (by omega) (by omega) (by omega)
 unfold pL_markView pL_heldView pL_markGrid pL_heldGrid
 simp only[e1,e3,e4,bd_s,e5,e6,Bool.not_true,br_f,m1,c1,c4,qF1 (show¬k1<0 by omega),qF1 (show¬k2<0 by omega),bne_self_eq_false,beq_self_eq_true]
open Go.RowKit
def lenN:Nat→Leaf→Prop
 | 0,_=>True
 | _+1,.sc v=>wfV v
 | n+1,.nest _ l=>l.length≤9223372036854775807∧∀x∈l,∀lf∈leaves x,lenN n lf
theorem lenN_of {S:Nat→Prop} {w:World}:∀(n:Nat) {lf:Leaf} {u:Value},LeafV S w lf u→lenN n lf
 | 0,_,_,_=>trivial
 | n+1,.sc v,u,h=>h.2
 | n+1,.nest k l,u,h=>by
  obtain⟨a,cap,_,h1,h2,h3⟩:=Row.open h
  refine⟨h2,fun x hx lf hlf=> ?_⟩
  obtain⟨i,hi⟩:=List.getElem?_of_mem hx
  obtain⟨j,hj⟩:=List.getElem?_of_mem hlf
  obtain⟨b,off,_,_,h4⟩:=h3 (by intro e;subst e;simp at hi)
  obtain⟨u',_,hv⟩:=h4 i x hi j lf hj
  exact lenN_of n hv
theorem lens_of {S:Nat→Prop} {w:World} {lfs:List Leaf} {us:List Value} (n:Nat) (h:All2 (LeafV S w) lfs us):∀lf∈lfs,lenN n lf:=fun lf hm=>by
 obtain⟨i,hi⟩:=List.getElem?_of_mem hm
 obtain⟨u,_,hv⟩:=h.get i lf hi
 exact lenN_of n hv
theorem fit_Pane {p:LPane} (h:∀lf∈leaves (k:= .lPane) p,lenN 3 lf):FitPane 9223372036854775807 (tPane p):=by
 have h1:=h (.sc (.string p.Cmd)) (by simp[leaves])
 have h2:=h (.sc (.string p.Dir)) (by simp[leaves])
 have h3:=h (.nest .int p.Term.P.Args) (by simp[leaves])
 have h4:=h (.nest .u8 p.Term.P.Part) (by simp[leaves])
 have h5:=h (.nest .lCell p.Term.S.Main.Cells) (by simp[leaves])
 have h6:=h (.nest .lCell p.Term.S.Alt.Cells) (by simp[leaves])
 have h7:=h (.nest .int p.Term.S.Tabs) (by simp[leaves])
 have h8:=h (.nest .lRow p.Term.S.Back) (by simp[leaves])
 refine⟨h1,h2,⟨h3.1,h4.1⟩,?_,?_,h7.1,?_,fun y hy=> ?_⟩
 ·show(p.Term.S.Main.Cells.map tCell).length≤_;rw[List.length_map];exact h5.1
 ·show(p.Term.S.Alt.Cells.map tCell).length≤_;rw[List.length_map];exact h6.1
 ·show(p.Term.S.Back.map tRow).length≤_;rw[List.length_map];exact h8.1
 ·obtain⟨z,hz,rfl⟩:=List.mem_map.1 hy
  have h9:=h8.2 z hz (.nest .lCell z.Cells) (by simp[leaves])
  show(z.Cells.map tCell).length≤_;rw[List.length_map];exact h9.1
theorem fit_Win {p:LWin} (h:∀lf∈leaves (k:= .lWin) p,lenN 3 lf):FitWin 9223372036854775807 (tWin p):=by
 have h1:=h (.sc (.string p.Name)) (by simp[leaves])
 have h2:=h (.nest .lNode p.Tree) (by simp[leaves])
 refine⟨h1,?_⟩
 show(p.Tree.map tNode).length≤_;rw[List.length_map];exact h2.1
theorem fit_Sess {p:LSess} (h:∀lf∈leaves (k:= .lSess) p,lenN 3 lf):FitSess 9223372036854775807 (tSess p):=by
 have h1:=h (.sc (.string p.Name)) (by simp[leaves])
 have h2:=h (.nest .int p.Wins) (by simp[leaves])
 exact⟨h1,h2.1⟩
theorem fit_State {p:LState} (h:∀lf∈leaves (k:= .lState) p,lenN 4 lf):FitState 9223372036854775807 (tState p):=by
 have h1:=h (.nest .lPane p.Panes) (by simp[leaves])
 have h2:=h (.nest .lWin p.Wins) (by simp[leaves])
 have h3:=h (.nest .lSess p.Sess) (by simp[leaves])
 refine⟨?_,fun y hy=> ?_,?_,fun y hy=> ?_,?_,fun y hy=> ?_⟩
 ·show(p.Panes.map tPane).length≤_;rw[List.length_map];exact h1.1
 ·obtain⟨z,hz,rfl⟩:=List.mem_map.1 hy
  exact fit_Pane (h1.2 z hz)
 ·show(p.Wins.map tWin).length≤_;rw[List.length_map];exact h2.1
 ·obtain⟨z,hz,rfl⟩:=List.mem_map.1 hy
  exact fit_Win (h2.2 z hz)
 ·show(p.Sess.map tSess).length≤_;rw[List.length_map];exact h3.1
 ·obtain⟨z,hz,rfl⟩:=List.mem_map.1 hy
  exact fit_Sess (h3.2 z hz)
theorem law_ofE {P:Program} {f:FuncId} {fn:Func} {c:Code} {E:World→Prop} (hf:P.funcs[f]?=some fn) (hname:(fn.name== "runtime.NumGoroutine")=false) (hb:fn.body=some c) {args:List PV} {us:List Value} {W:World} (hE:E W) (h:PCalls P W.heap.size E f args [] (.v (.bool true)) []) (ha:All3 (Own1 (fun b=>b<W.heap.size) W (extB []) (extS [])) args us []) :
  Calls P f us.toArray W fun e W'=>e= .returned (.bool true)∧Below W.heap.size W W':=by
 refine Arrive.calls hf hname hb (Arrive.mono (h.2 W (fun b=>b<W.heap.size) us [] [] [] (Nat.le_refl _) hE rfl rfl (by simp) (by simp) (fun b hb=>⟨hb,by simp⟩) ha (fun j p cs L hj=>by simp at hj)) ?_)
 rintro e W' ⟨u,Lr,Le',rfl,_,_,_,h5,_,h7⟩
 obtain⟨_,rfl,_⟩:=h5
 exact⟨rfl,h7.os,h7.tape,h7.output,h7.size,fun b hb=>h7.old b hb (by simp)⟩
theorem tab_stays {w w':World} (h:TabW w) (hs:∀b,b<w.heap.size→w'.heap[b]?=w.heap[b]?):TabW w':=by
 unfold TabW Lib.TabIs World.var? at h⊢
 cases hg:Proofs.Tryz.prog.globalNamed "internal/strconv.uint64pow10" with
 | none=>rw[hg]at h;cases h
 | some g=>
  rw[hg]at h
  simp only[Option.bind_some]at h⊢
  by_cases hlt:g<w.heap.size
  ·rw[hs g hlt];exact h
  ·rw[Array.getElem?_eq_none (by omega)]at h;cases h
end Go.Px
