/- What a call may hold, as plain values and a store: a small machine over them, the functions of this program as its contracts, and the plain laws: texts QM1 to QT5. -/
import Derived.Test.YtaeepiblggcjpaaGreatDoorQF
import Derived.Test.YtaeepiblggcjpaaGreatDoorQE
set_option linter.unusedSimpArgs false
set_option linter.unusedVariables false
set_option linter.constructorNameAsVariable false
namespace Go.Px
variable {F m n:Nat}
theorem eq_IntS {fuel:Nat} {l:List Int} (hl:l.length<=1048581) (hf:1048586<fuel):pL_eqIntS fuel l l=some true:=by
 unfold pL_eqIntS
 simp only[bne_self_eq_false,br_f]
 have:=loopF_walk (B:=pL_eqIntS_b1 fuel) (fun i=>(l,l,(i:Int))) l.length (.inl ()) (fuel:=fuel) (v:=(l,l,0)) rfl (fun i hi=>by
  obtain⟨h1,h2,h3,h4,h5⟩:=idx_facts (qE1 hi) (by omega)
  unfold pL_eqIntS_b1
  simp only[h1,br_t,gd_t h2,h3,bd_s,Bool.not_true,br_f,h5,gd_t h4,bne_self_eq_false]) (by unfold pL_eqIntS_b1;simp) (by omega)
 rw[this]
 rfl
theorem eq_ByteS {fuel:Nat} {l:List UInt8} (hl:l.length<=1048581) (hf:1048586<fuel):pL_eqByteS fuel l l=some true:=by
 unfold pL_eqByteS
 simp only[bne_self_eq_false,br_f]
 have:=loopF_walk (B:=pL_eqByteS_b1 fuel) (fun i=>(l,l,(i:Int))) l.length (.inl ()) (fuel:=fuel) (v:=(l,l,0)) rfl (fun i hi=>by
  obtain⟨h1,h2,h3,h4,h5⟩:=idx_facts (qE1 hi) (by omega)
  unfold pL_eqByteS_b1
  simp only[h1,br_t,gd_t h2,h3,bd_s,Bool.not_true,br_f,h5,gd_t h4,bne_self_eq_false]) (by unfold pL_eqByteS_b1;simp) (by omega)
 rw[this]
 rfl
def FitVp (n:Nat) (x:IVp):Prop:=x.Args.length<=n/\x.Part.length<=n
theorem FitVp.mono {x:IVp} (hm:m<=n) (h:FitVp m x):FitVp n x:=by
 obtain⟨h0,h1⟩:=h
 exact⟨Nat.le_trans h0 hm,Nat.le_trans h1 hm⟩
theorem eq_Vp {fuel:Nat} {x:IVp} (hf:1048586<fuel) (h:FitVp 1048581 x):pL_eqVp fuel x x=some true:=by
 obtain⟨l_Args,l_Part⟩:=h
 have q_Args:=eq_IntS (fuel:=fuel) (l:=x.Args) l_Args hf
 have q_Part:=eq_ByteS (fuel:=fuel) (l:=x.Part) l_Part hf
 unfold pL_eqVp
 simp[q_Args,q_Part]
theorem eq_Attr {fuel:Nat} {x:IAttr}:pL_eqAttr fuel x x=some true:=by
 unfold pL_eqAttr
 simp[]
theorem eq_Cell {fuel:Nat} {x:ICell}:pL_eqCell fuel x x=some true:=by
 have q_A:=eq_Attr (fuel:=fuel) (x:=x.A)
 unfold pL_eqCell
 simp[q_A]
theorem eq_CellS {fuel:Nat} {l:List ICell} (hl:l.length<=1048581) (hf:1048586<fuel):pL_eqCellS fuel l l=some true:=by
 unfold pL_eqCellS
 simp only[bne_self_eq_false,br_f]
 have:=loopF_walk (B:=pL_eqCellS_b1 fuel) (fun i=>(l,l,(i:Int))) l.length (.inl ()) (fuel:=fuel) (v:=(l,l,0)) rfl (fun i hi=>by
  obtain⟨h1,h2,h3,h4,h5⟩:=idx_facts (qE1 hi) (by omega)
  unfold pL_eqCellS_b1
  have ht:=eq_Cell (fuel:=fuel) (x:=l[i])
  simp only[h1,br_t,gd_t h2,h3,bd_s,ht,Bool.not_true,br_f,h5,gd_t h4,bne_self_eq_false]) (by unfold pL_eqCellS_b1;simp) (by omega)
 rw[this]
 rfl
def FitGrid (n:Nat) (x:IGrid):Prop:=x.Cells.length<=n
theorem FitGrid.mono {x:IGrid} (hm:m<=n) (h:FitGrid m x):FitGrid n x:=Nat.le_trans (show _ from h) hm
theorem eq_Grid {fuel:Nat} {x:IGrid} (hf:1048586<fuel) (h:FitGrid 1048581 x):pL_eqGrid fuel x x=some true:=by
 have l_Cells:x.Cells.length<=1048581:=h
 have q_Cells:=eq_CellS (fuel:=fuel) (l:=x.Cells) l_Cells hf
 unfold pL_eqGrid
 simp[q_Cells]
def FitRow (n:Nat) (x:IRow):Prop:=x.Cells.length<=n
theorem FitRow.mono {x:IRow} (hm:m<=n) (h:FitRow m x):FitRow n x:=Nat.le_trans (show _ from h) hm
theorem eq_Row {fuel:Nat} {x:IRow} (hf:1048586<fuel) (h:FitRow 1048581 x):pL_eqRow fuel x x=some true:=by
 have l_Cells:x.Cells.length<=1048581:=h
 have q_Cells:=eq_CellS (fuel:=fuel) (l:=x.Cells) l_Cells hf
 unfold pL_eqRow
 simp[q_Cells]
theorem eq_RowS {fuel:Nat} {l:List IRow} (hl:l.length<=1048581) (hf:1048586<fuel) (hx:∀y∈l,FitRow 1048581 y):pL_eqRowS fuel l l=some true:=by
 unfold pL_eqRowS
 simp only[bne_self_eq_false,br_f]
 have:=loopF_walk (B:=pL_eqRowS_b1 fuel) (fun i=>(l,l,(i:Int))) l.length (.inl ()) (fuel:=fuel) (v:=(l,l,0)) rfl (fun i hi=>by
  obtain⟨h1,h2,h3,h4,h5⟩:=idx_facts (qE1 hi) (by omega)
  unfold pL_eqRowS_b1
  have ht:=eq_Row (fuel:=fuel) (x:=l[i]) hf (hx _ (List.getElem_mem hi))
  simp only[h1,br_t,gd_t h2,h3,bd_s,ht,Bool.not_true,br_f,h5,gd_t h4,bne_self_eq_false]) (by unfold pL_eqRowS_b1;simp) (by omega)
 rw[this]
 rfl
def FitScr (n:Nat) (x:IScr):Prop:=FitGrid n x.Main/\FitGrid n x.Alt/\x.Tabs.length<=n/\x.Back.length<=n/\(∀y∈x.Back,FitRow n y)
theorem FitScr.mono {m n:Nat} {x:IScr} (hm:m<=n) (h:FitScr m x):FitScr n x:=by
 obtain⟨h0,h1,h2,h3,h4⟩:=h
 exact⟨FitGrid.mono hm h0,FitGrid.mono hm h1,Nat.le_trans h2 hm,Nat.le_trans h3 hm,fun y hy=>FitRow.mono hm (h4 y hy)⟩
theorem eq_Scr {fuel:Nat} {x:IScr} (hf:1048586<fuel) (h:FitScr 1048581 x):pL_eqScr fuel x x=some true:=by
 obtain⟨f_Main,f_Alt,l_Tabs,l_Back,e_Back⟩:=h
 have q_Main:=eq_Grid (fuel:=fuel) (x:=x.Main) hf f_Main
 have q_Alt:=eq_Grid (fuel:=fuel) (x:=x.Alt) hf f_Alt
 have q_A:=eq_Attr (fuel:=fuel) (x:=x.A)
 have q_SaveA:=eq_Attr (fuel:=fuel) (x:=x.SaveA)
 have q_Tabs:=eq_IntS (fuel:=fuel) (l:=x.Tabs) l_Tabs hf
 have q_Back:=eq_RowS (fuel:=fuel) (l:=x.Back) l_Back hf e_Back
 unfold pL_eqScr
 simp[q_Main,q_Alt,q_A,q_SaveA,q_Tabs,q_Back]
def FitTerm (n:Nat) (x:ITerm):Prop:=FitVp n x.P/\FitScr n x.S
theorem FitTerm.mono {m n:Nat} {x:ITerm} (hm:m<=n) (h:FitTerm m x):FitTerm n x:=by
 obtain⟨h0,h1⟩:=h
 exact⟨FitVp.mono hm h0,FitScr.mono hm h1⟩
theorem eq_Term {fuel:Nat} {x:ITerm} (hf:1048586<fuel) (h:FitTerm 1048581 x):pL_eqTerm fuel x x=some true:=by
 obtain⟨f_P,f_S⟩:=h
 have q_P:=eq_Vp (fuel:=fuel) (x:=x.P) hf f_P
 have q_S:=eq_Scr (fuel:=fuel) (x:=x.S) hf f_S
 unfold pL_eqTerm
 simp[q_P,q_S]
def FitPane (n:Nat) (x:IPane):Prop:=x.Cmd.size<=n/\x.Dir.size<=n/\FitTerm n x.Term
theorem FitPane.mono {m n:Nat} {x:IPane} (hm:m<=n) (h:FitPane m x):FitPane n x:=by
 obtain⟨h0,h1,h2⟩:=h
 exact⟨Nat.le_trans h0 hm,Nat.le_trans h1 hm,FitTerm.mono hm h2⟩
theorem eq_Pane {fuel:Nat} {x:IPane} (hf:1048586<fuel) (h:FitPane 1048581 x):pL_eqPane fuel x x=some true:=by
 obtain⟨s_Cmd,s_Dir,f_Term⟩:=h
 have q_Term:=eq_Term (fuel:=fuel) (x:=x.Term) hf f_Term
 unfold pL_eqPane
 simp[q_Term]
theorem eq_Node {fuel:Nat} {x:INode}:pL_eqNode fuel x x=some true:=by
 unfold pL_eqNode
 simp[]
theorem eq_NodeS {fuel:Nat} {l:List INode} (hl:l.length<=1048581) (hf:1048586<fuel):pL_eqNodeS fuel l l=some true:=by
 unfold pL_eqNodeS
 simp only[bne_self_eq_false,br_f]
 have:=loopF_walk (B:=pL_eqNodeS_b1 fuel) (fun i=>(l,l,(i:Int))) l.length (.inl ()) (fuel:=fuel) (v:=(l,l,0)) rfl (fun i hi=>by
  obtain⟨h1,h2,h3,h4,h5⟩:=idx_facts (qE1 hi) (by omega)
  unfold pL_eqNodeS_b1
  have ht:=eq_Node (fuel:=fuel) (x:=l[i])
  simp only[h1,br_t,gd_t h2,h3,bd_s,ht,Bool.not_true,br_f,h5,gd_t h4,bne_self_eq_false]) (by unfold pL_eqNodeS_b1;simp) (by omega)
 rw[this]
 rfl
def FitWin (n:Nat) (x:IWin):Prop:=x.Name.size<=n/\x.Tree.length<=n
theorem FitWin.mono {x:IWin} (hm:m<=n) (h:FitWin m x):FitWin n x:=by
 obtain⟨h0,h1⟩:=h
 exact⟨Nat.le_trans h0 hm,Nat.le_trans h1 hm⟩
theorem eq_Win {fuel:Nat} {x:IWin} (hf:1048586<fuel) (h:FitWin 1048581 x):pL_eqWin fuel x x=some true:=by
 obtain⟨s_Name,l_Tree⟩:=h
 have q_Tree:=eq_NodeS (fuel:=fuel) (l:=x.Tree) l_Tree hf
 unfold pL_eqWin
 simp[q_Tree]
def FitSess (n:Nat) (x:ISess):Prop:=x.Name.size<=n/\x.Wins.length<=n
theorem FitSess.mono {x:ISess} (hm:m<=n) (h:FitSess m x):FitSess n x:=by
 obtain⟨h0,h1⟩:=h
 exact⟨Nat.le_trans h0 hm,Nat.le_trans h1 hm⟩
theorem eq_Sess {fuel:Nat} {x:ISess} (hf:1048586<fuel) (h:FitSess 1048581 x):pL_eqSess fuel x x=some true:=by
 obtain⟨s_Name,l_Wins⟩:=h
 have q_Wins:=eq_IntS (fuel:=fuel) (l:=x.Wins) l_Wins hf
 unfold pL_eqSess
 simp[q_Wins]
theorem eq_PaneS {fuel:Nat} {l:List IPane} (hl:l.length<=1048581) (hf:1048586<fuel) (hx:∀y∈l,FitPane 1048581 y):pL_eqPaneS fuel l l=some true:=by
 unfold pL_eqPaneS
 simp only[bne_self_eq_false,br_f]
 have:=loopF_walk (B:=pL_eqPaneS_b1 fuel) (fun i=>(l,l,(i:Int))) l.length (.inl ()) (fuel:=fuel) (v:=(l,l,0)) rfl (fun i hi=>by
  obtain⟨h1,h2,h3,h4,h5⟩:=idx_facts (qE1 hi) (by omega)
  unfold pL_eqPaneS_b1
  have ht:=eq_Pane (fuel:=fuel) (x:=l[i]) hf (hx _ (List.getElem_mem hi))
  simp only[h1,br_t,gd_t h2,h3,bd_s,ht,Bool.not_true,br_f,h5,gd_t h4,bne_self_eq_false]) (by unfold pL_eqPaneS_b1;simp) (by omega)
 rw[this]
 rfl
theorem eq_WinS {fuel:Nat} {l:List IWin} (hl:l.length<=1048581) (hf:1048586<fuel) (hx:∀y∈l,FitWin 1048581 y):pL_eqWinS fuel l l=some true:=by
 unfold pL_eqWinS
 simp only[bne_self_eq_false,br_f]
 have:=loopF_walk (B:=pL_eqWinS_b1 fuel) (fun i=>(l,l,(i:Int))) l.length (.inl ()) (fuel:=fuel) (v:=(l,l,0)) rfl (fun i hi=>by
  obtain⟨h1,h2,h3,h4,h5⟩:=idx_facts (qE1 hi) (by omega)
  unfold pL_eqWinS_b1
  have ht:=eq_Win (fuel:=fuel) (x:=l[i]) hf (hx _ (List.getElem_mem hi))
  simp only[h1,br_t,gd_t h2,h3,bd_s,ht,Bool.not_true,br_f,h5,gd_t h4,bne_self_eq_false]) (by unfold pL_eqWinS_b1;simp) (by omega)
 rw[this]
 rfl
theorem eq_SessS {fuel:Nat} {l:List ISess} (hl:l.length<=1048581) (hf:1048586<fuel) (hx:∀y∈l,FitSess 1048581 y):pL_eqSessS fuel l l=some true:=by
 unfold pL_eqSessS
 simp only[bne_self_eq_false,br_f]
 have:=loopF_walk (B:=pL_eqSessS_b1 fuel) (fun i=>(l,l,(i:Int))) l.length (.inl ()) (fuel:=fuel) (v:=(l,l,0)) rfl (fun i hi=>by
  obtain⟨h1,h2,h3,h4,h5⟩:=idx_facts (qE1 hi) (by omega)
  unfold pL_eqSessS_b1
  have ht:=eq_Sess (fuel:=fuel) (x:=l[i]) hf (hx _ (List.getElem_mem hi))
  simp only[h1,br_t,gd_t h2,h3,bd_s,ht,Bool.not_true,br_f,h5,gd_t h4,bne_self_eq_false]) (by unfold pL_eqSessS_b1;simp) (by omega)
 rw[this]
 rfl
def FitState (n:Nat) (x:IState):Prop:=x.Panes.length<=n/\(∀y∈x.Panes,FitPane n y)/\x.Wins.length<=n/\(∀y∈x.Wins,FitWin n y)/\x.Sess.length<=n/\(∀y∈x.Sess,FitSess n y)
theorem FitState.mono {m n:Nat} {x:IState} (hm:m<=n) (h:FitState m x):FitState n x:=by
 obtain⟨h0,h1,h2,h3,h4,h5⟩:=h
 exact⟨Nat.le_trans h0 hm,fun y hy=>FitPane.mono hm (h1 y hy),Nat.le_trans h2 hm,fun y hy=>FitWin.mono hm (h3 y hy),Nat.le_trans h4 hm,fun y hy=>FitSess.mono hm (h5 y hy)⟩
theorem eq_State {fuel:Nat} {x:IState} (hf:1048586<fuel) (h:FitState 1048581 x):pL_eqState fuel x x=some true:=by
 obtain⟨l_Panes,e_Panes,l_Wins,e_Wins,l_Sess,e_Sess⟩:=h
 have q_Panes:=eq_PaneS (fuel:=fuel) (l:=x.Panes) l_Panes hf e_Panes
 have q_Wins:=eq_WinS (fuel:=fuel) (l:=x.Wins) l_Wins hf e_Wins
 have q_Sess:=eq_SessS (fuel:=fuel) (l:=x.Sess) l_Sess hf e_Sess
 unfold pL_eqState
 simp[q_Panes,q_Wins,q_Sess]
def FitFile (n:Nat) (x:IFile):Prop:=x.Body.length<=n
theorem FitFile.mono {x:IFile} (hm:m<=n) (h:FitFile m x):FitFile n x:=Nat.le_trans (show _ from h) hm
theorem eq_File {fuel:Nat} {x:IFile} (hf:1048586<fuel) (h:FitFile 1048581 x):pL_eqFile fuel x x=some true:=by
 have l_Body:x.Body.length<=1048581:=h
 have q_Body:=eq_ByteS (fuel:=fuel) (l:=x.Body) l_Body hf
 unfold pL_eqFile
 simp[q_Body]
def FitLink (n:Nat) (x:ILink):Prop:=x.Name.size<=n
theorem FitLink.mono {x:ILink} (hm:m<=n) (h:FitLink m x):FitLink n x:=Nat.le_trans (show _ from h) hm
theorem eq_Link {fuel:Nat} {x:ILink} (h:FitLink 1048581 x):pL_eqLink fuel x x=some true:=by
 have s_Name:x.Name.size<=1048581:=h
 unfold pL_eqLink
 simp[]
def FitTurn (n:Nat) (x:ITurn):Prop:=x.Name.size<=n/\x.To.size<=n
theorem FitTurn.mono {x:ITurn} (hm:m<=n) (h:FitTurn m x):FitTurn n x:=by
 obtain⟨h0,h1⟩:=h
 exact⟨Nat.le_trans h0 hm,Nat.le_trans h1 hm⟩
theorem eq_Turn {fuel:Nat} {x:ITurn} (h:FitTurn 1048581 x):pL_eqTurn fuel x x=some true:=by
 obtain⟨s_Name,s_To⟩:=h
 unfold pL_eqTurn
 simp[]
theorem eq_FileS {fuel:Nat} {l:List IFile} (hl:l.length<=1048581) (hf:1048586<fuel) (hx:∀y∈l,FitFile 1048581 y):pL_eqFileS fuel l l=some true:=by
 unfold pL_eqFileS
 simp only[bne_self_eq_false,br_f]
 have:=loopF_walk (B:=pL_eqFileS_b1 fuel) (fun i=>(l,l,(i:Int))) l.length (.inl ()) (fuel:=fuel) (v:=(l,l,0)) rfl (fun i hi=>by
  obtain⟨h1,h2,h3,h4,h5⟩:=idx_facts (qE1 hi) (by omega)
  unfold pL_eqFileS_b1
  have ht:=eq_File (fuel:=fuel) (x:=l[i]) hf (hx _ (List.getElem_mem hi))
  simp only[h1,br_t,gd_t h2,h3,bd_s,ht,Bool.not_true,br_f,h5,gd_t h4,bne_self_eq_false]) (by unfold pL_eqFileS_b1;simp) (by omega)
 rw[this]
 rfl
theorem eq_LinkS {fuel:Nat} {l:List ILink} (hl:l.length<=1048581) (hf:1048586<fuel) (hx:∀y∈l,FitLink 1048581 y):pL_eqLinkS fuel l l=some true:=by
 unfold pL_eqLinkS
 simp only[bne_self_eq_false,br_f]
 have:=loopF_walk (B:=pL_eqLinkS_b1 fuel) (fun i=>(l,l,(i:Int))) l.length (.inl ()) (fuel:=fuel) (v:=(l,l,0)) rfl (fun i hi=>by
  obtain⟨h1,h2,h3,h4,h5⟩:=idx_facts (qE1 hi) (by omega)
  unfold pL_eqLinkS_b1
  have ht:=eq_Link (fuel:=fuel) (x:=l[i]) (hx _ (List.getElem_mem hi))
  simp only[h1,br_t,gd_t h2,h3,bd_s,ht,Bool.not_true,br_f,h5,gd_t h4,bne_self_eq_false]) (by unfold pL_eqLinkS_b1;simp) (by omega)
 rw[this]
 rfl
theorem eq_TurnS {fuel:Nat} {l:List ITurn} (hl:l.length<=1048581) (hf:1048586<fuel) (hx:∀y∈l,FitTurn 1048581 y):pL_eqTurnS fuel l l=some true:=by
 unfold pL_eqTurnS
 simp only[bne_self_eq_false,br_f]
 have:=loopF_walk (B:=pL_eqTurnS_b1 fuel) (fun i=>(l,l,(i:Int))) l.length (.inl ()) (fuel:=fuel) (v:=(l,l,0)) rfl (fun i hi=>by
  obtain⟨h1,h2,h3,h4,h5⟩:=idx_facts (qE1 hi) (by omega)
  unfold pL_eqTurnS_b1
  have ht:=eq_Turn (fuel:=fuel) (x:=l[i]) (hx _ (List.getElem_mem hi))
  simp only[h1,br_t,gd_t h2,h3,bd_s,ht,Bool.not_true,br_f,h5,gd_t h4,bne_self_eq_false]) (by unfold pL_eqTurnS_b1;simp) (by omega)
 rw[this]
 rfl
def FitDisk (n:Nat) (x:IDisk):Prop:=x.Files.length<=n/\(∀y∈x.Files,FitFile n y)/\x.Kept.length<=n/\(∀y∈x.Kept,FitLink n y)/\x.Turns.length<=n/\(∀y∈x.Turns,FitTurn n y)
theorem FitDisk.mono {m n:Nat} {x:IDisk} (hm:m<=n) (h:FitDisk m x):FitDisk n x:=by
 obtain⟨h0,h1,h2,h3,h4,h5⟩:=h
 exact⟨Nat.le_trans h0 hm,fun y hy=>FitFile.mono hm (h1 y hy),Nat.le_trans h2 hm,fun y hy=>FitLink.mono hm (h3 y hy),Nat.le_trans h4 hm,fun y hy=>FitTurn.mono hm (h5 y hy)⟩
theorem eq_Disk {fuel:Nat} {x:IDisk} (hf:1048586<fuel) (h:FitDisk 1048581 x):pL_eqDisk fuel x x=some true:=by
 obtain⟨l_Files,e_Files,l_Kept,e_Kept,l_Turns,e_Turns⟩:=h
 have q_Files:=eq_FileS (fuel:=fuel) (l:=x.Files) l_Files hf e_Files
 have q_Kept:=eq_LinkS (fuel:=fuel) (l:=x.Kept) l_Kept hf e_Kept
 have q_Turns:=eq_TurnS (fuel:=fuel) (l:=x.Turns) l_Turns hf e_Turns
 unfold pL_eqDisk
 simp[q_Files,q_Kept,q_Turns]
def FitDepot (n:Nat) (x:IDepot):Prop:=FitDisk n x.Disk
theorem FitDepot.mono {m n:Nat} {x:IDepot} (hm:m<=n) (h:FitDepot m x):FitDepot n x:=FitDisk.mono hm h
theorem eq_Depot {fuel:Nat} {x:IDepot} (hf:1048586<fuel) (h:FitDepot 1048581 x):pL_eqDepot fuel x x=some true:=by
 have f_Disk:FitDisk 1048581 x.Disk:=h
 have q_Disk:=eq_Disk (fuel:=fuel) (x:=x.Disk) hf f_Disk
 unfold pL_eqDepot
 simp[q_Disk]
theorem eq_Proc {fuel:Nat} {x:IProc}:pL_eqProc fuel x x=some true:=by
 unfold pL_eqProc
 simp[]
def FitAsk (n:Nat) (x:IAsk):Prop:=x.Cmd.size<=n/\x.Dir.size<=n
theorem FitAsk.mono {x:IAsk} (hm:m<=n) (h:FitAsk m x):FitAsk n x:=by
 obtain⟨h0,h1⟩:=h
 exact⟨Nat.le_trans h0 hm,Nat.le_trans h1 hm⟩
theorem eq_Ask {fuel:Nat} {x:IAsk} (h:FitAsk 1048581 x):pL_eqAsk fuel x x=some true:=by
 obtain⟨s_Cmd,s_Dir⟩:=h
 unfold pL_eqAsk
 simp[]
theorem eq_ProcS {fuel:Nat} {l:List IProc} (hl:l.length<=1048581) (hf:1048586<fuel):pL_eqProcS fuel l l=some true:=by
 unfold pL_eqProcS
 simp only[bne_self_eq_false,br_f]
 have:=loopF_walk (B:=pL_eqProcS_b1 fuel) (fun i=>(l,l,(i:Int))) l.length (.inl ()) (fuel:=fuel) (v:=(l,l,0)) rfl (fun i hi=>by
  obtain⟨h1,h2,h3,h4,h5⟩:=idx_facts (qE1 hi) (by omega)
  unfold pL_eqProcS_b1
  have ht:=eq_Proc (fuel:=fuel) (x:=l[i])
  simp only[h1,br_t,gd_t h2,h3,bd_s,ht,Bool.not_true,br_f,h5,gd_t h4,bne_self_eq_false]) (by unfold pL_eqProcS_b1;simp) (by omega)
 rw[this]
 rfl
theorem eq_AskS {fuel:Nat} {l:List IAsk} (hl:l.length<=1048581) (hf:1048586<fuel) (hx:∀y∈l,FitAsk 1048581 y):pL_eqAskS fuel l l=some true:=by
 unfold pL_eqAskS
 simp only[bne_self_eq_false,br_f]
 have:=loopF_walk (B:=pL_eqAskS_b1 fuel) (fun i=>(l,l,(i:Int))) l.length (.inl ()) (fuel:=fuel) (v:=(l,l,0)) rfl (fun i hi=>by
  obtain⟨h1,h2,h3,h4,h5⟩:=idx_facts (qE1 hi) (by omega)
  unfold pL_eqAskS_b1
  have ht:=eq_Ask (fuel:=fuel) (x:=l[i]) (hx _ (List.getElem_mem hi))
  simp only[h1,br_t,gd_t h2,h3,bd_s,ht,Bool.not_true,br_f,h5,gd_t h4,bne_self_eq_false]) (by unfold pL_eqAskS_b1;simp) (by omega)
 rw[this]
 rfl
def FitTable (n:Nat) (x:ITable):Prop:=x.Live.length<=n/\x.Asked.length<=n/\(∀y∈x.Asked,FitAsk n y)
theorem FitTable.mono {m n:Nat} {x:ITable} (hm:m<=n) (h:FitTable m x):FitTable n x:=by
 obtain⟨h0,h1,h2⟩:=h
 exact⟨Nat.le_trans h0 hm,Nat.le_trans h1 hm,fun y hy=>FitAsk.mono hm (h2 y hy)⟩
theorem eq_Table {fuel:Nat} {x:ITable} (hf:1048586<fuel) (h:FitTable 1048581 x):pL_eqTable fuel x x=some true:=by
 obtain⟨l_Live,l_Asked,e_Asked⟩:=h
 have q_Live:=eq_ProcS (fuel:=fuel) (l:=x.Live) l_Live hf
 have q_Asked:=eq_AskS (fuel:=fuel) (l:=x.Asked) l_Asked hf e_Asked
 unfold pL_eqTable
 simp[q_Live,q_Asked]
def FitOp (n:Nat) (x:IOp):Prop:=x.Name.size<=n/\x.Text.size<=n/\x.Dir.size<=n/\x.Data.length<=n
theorem FitOp.mono {x:IOp} (hm:m<=n) (h:FitOp m x):FitOp n x:=by
 obtain⟨h0,h1,h2,h3⟩:=h
 exact⟨Nat.le_trans h0 hm,Nat.le_trans h1 hm,Nat.le_trans h2 hm,Nat.le_trans h3 hm⟩
theorem eq_Op {fuel:Nat} {x:IOp} (hf:1048586<fuel) (h:FitOp 1048581 x):pL_eqOp fuel x x=some true:=by
 obtain⟨s_Name,s_Text,s_Dir,l_Data⟩:=h
 have q_Data:=eq_ByteS (fuel:=fuel) (l:=x.Data) l_Data hf
 unfold pL_eqOp
 simp[q_Data]
def FitHist (n:Nat) (x:IHist):Prop:=FitOp n x.Op
theorem FitHist.mono {m n:Nat} {x:IHist} (hm:m<=n) (h:FitHist m x):FitHist n x:=FitOp.mono hm h
theorem eq_Hist {fuel:Nat} {x:IHist} (hf:1048586<fuel) (h:FitHist 1048581 x):pL_eqHist fuel x x=some true:=by
 have f_Op:FitOp 1048581 x.Op:=h
 have q_Op:=eq_Op (fuel:=fuel) (x:=x.Op) hf f_Op
 unfold pL_eqHist
 simp[q_Op]
theorem eq_HistS {fuel:Nat} {l:List IHist} (hl:l.length<=1048581) (hf:1048586<fuel) (hx:∀y∈l,FitHist 1048581 y):pL_eqHistS fuel l l=some true:=by
 unfold pL_eqHistS
 simp only[bne_self_eq_false,br_f]
 have:=loopF_walk (B:=pL_eqHistS_b1 fuel) (fun i=>(l,l,(i:Int))) l.length (.inl ()) (fuel:=fuel) (v:=(l,l,0)) rfl (fun i hi=>by
  obtain⟨h1,h2,h3,h4,h5⟩:=idx_facts (qE1 hi) (by omega)
  unfold pL_eqHistS_b1
  have ht:=eq_Hist (fuel:=fuel) (x:=l[i]) hf (hx _ (List.getElem_mem hi))
  simp only[h1,br_t,gd_t h2,h3,bd_s,ht,Bool.not_true,br_f,h5,gd_t h4,bne_self_eq_false]) (by unfold pL_eqHistS_b1;simp) (by omega)
 rw[this]
 rfl
def FitSrv (n:Nat) (x:ISrv):Prop:=FitState n x.Base/\FitState n x.St/\FitDepot n x.Dep/\FitDisk n x.Disk/\FitTable n x.Tab/\x.Done.length<=n/\(∀y∈x.Done,FitHist n y)
theorem FitSrv.mono {m n:Nat} {x:ISrv} (hm:m<=n) (h:FitSrv m x):FitSrv n x:=by
 obtain⟨h0,h1,h2,h3,h4,h5,h6⟩:=h
 exact⟨FitState.mono hm h0,FitState.mono hm h1,FitDepot.mono hm h2,FitDisk.mono hm h3,FitTable.mono hm h4,Nat.le_trans h5 hm,fun y hy=>FitHist.mono hm (h6 y hy)⟩
theorem eq_Srv {fuel:Nat} {x:ISrv} (hf:1048586<fuel) (h:FitSrv 1048581 x):pL_eqSrv fuel x x=some true:=by
 obtain⟨f_Base,f_St,f_Dep,f_Disk,f_Tab,l_Done,e_Done⟩:=h
 have q_Base:=eq_State (fuel:=fuel) (x:=x.Base) hf f_Base
 have q_St:=eq_State (fuel:=fuel) (x:=x.St) hf f_St
 have q_Dep:=eq_Depot (fuel:=fuel) (x:=x.Dep) hf f_Dep
 have q_Disk:=eq_Disk (fuel:=fuel) (x:=x.Disk) hf f_Disk
 have q_Tab:=eq_Table (fuel:=fuel) (x:=x.Tab) hf f_Tab
 have q_Done:=eq_HistS (fuel:=fuel) (l:=x.Done) l_Done hf e_Done
 unfold pL_eqSrv
 simp[q_Base,q_St,q_Dep,q_Disk,q_Tab,q_Done]
def stE (w h l n:Int):IState:=IState.mk w h l n [] [] []
def dkE (r f n:Int):IDisk:=IDisk.mk r f n [] [] []
def srvE (w h l n t r f nx tn:Int):ISrv:=ISrv.mk (stE w h l n) t false (stE 0 0 0 0) (IDepot.mk (dkE 0 0 0) 0 0 0 false) (dkE r f nx) (ITable.mk tn [] []) 0 []
theorem sgE (hF:20000000<F+70) (w h l n:Int):SG F (stE w h l n):=by
 refine⟨⟨⟨hF,?_,?_,?_,?_,?_,?_,?_⟩,?_⟩,?_,?_⟩ <;>first|exact Nat.zero_le _|(intro x hx;cases hx)
theorem dkfE (hF:20000000<F) (r f n:Int):DkF F (dkE r f n):=by
 refine⟨hF,?_,?_,?_,?_,?_,?_⟩ <;>first|exact Nat.zero_le _|(intro x hx;cases hx)
theorem svE (hF:20000000<F+70) (w h l n t r f nx tn:Int):SvF F (srvE w h l n t r f nx tn):=
 ⟨sgE hF ..,sgE hF ..,dkfE hF ..,dkfE hF ..,Nat.zero_le _,Nat.zero_le _,fun x hx=>by cases hx⟩
theorem SrvNew_both (hF:20000000<F+70) (a b c d e:Int):∃w h l n t r f nx tn ok,pI_SrvNew (F+70) a b c d e=some (srvE w h l n t r f nx tn,ok)/\pS_SrvNew (F+70) a b c d e=some (srvE w h l n t r f nx tn,ok):=by
 have e1:pI_StateOk (F+70) (IState.mk a b c 1 [] [] [])=some (stateB (stE a b c 1)):=pI_StateOk_eq (sgE hF a b c 1)
 have e2:pS_StateOk (F+70) (IState.mk a b c 1 [] [] [])=some (stateB (stE a b c 1)):=pS_StateOk_eq (sgE hF a b c 1)
 unfold pI_SrvNew pS_SrvNew pI_StateNew pS_StateNew pI_DiskNew pS_DiskNew
 rw[e1,e2]
 simp only[pI_within_eq,bd_s,lt_not 0 d,lt_not d]
 cases stateB (stE a b c 1)with
 | false=>
  simp only[Bool.not_false,br_t,bd_s]
  cases decide (d<0)<;>cases decide (400000<d)<;>exact⟨0,0,0,0,0,0,0,0,0,false,rfl,rfl⟩
 | true=>
  cases decide (d<0)with
  | true=>exact⟨0,0,0,0,0,0,0,0,0,false,rfl,rfl⟩
  | false=>
  cases decide (400000<d)with
  | true=>exact⟨0,0,0,0,0,0,0,0,0,false,rfl,rfl⟩
  | false=>
   have e3:=pI_SrvOk_eq (svE hF a b c 1 e d (-1) 1 1)
   have e4:=pS_SrvOk_eq (svE hF a b c 1 e d (-1) 1 1)
   simp only[Bool.not_true,Bool.not_false,Bool.and_self,br_f,bd_s]
   unfold srvE stE dkE at e3 e4
   rw[e3,e4]
   generalize srvB _=ok
   cases ok with
   | true=>exact⟨a,b,c,1,e,d,-1,1,1,true,rfl,rfl⟩
   | false=>exact⟨0,0,0,0,0,0,0,0,0,false,rfl,rfl⟩
theorem fitE (w h l n t r f nx tn:Int):FitSrv 1048581 (srvE w h l n t r f nx tn):=by
 refine⟨⟨?_,?_,?_,?_,?_,?_⟩,⟨?_,?_,?_,?_,?_,?_⟩,⟨?_,?_,?_,?_,?_,?_⟩,⟨?_,?_,?_,?_,?_,?_⟩,⟨?_,?_,?_⟩,?_,?_⟩ <;>first|exact Nat.zero_le _|(intro x hx;cases hx)
theorem marks0 (F:Nat) (k:Int):pL_markPaneS (F+1) [] k=some (k,[])/\pL_markWinS (F+1) [] k=some (k,[])/\pL_markSessS (F+1) [] k=some (k,[])/\pL_markFileS (F+1) [] k=some (k,[])/\pL_markLinkS (F+1) [] k=some (k,[])/\pL_markTurnS (F+1) [] k=some (k,[])/\pL_markProcS (F+1) [] k=some (k,[])/\pL_markAskS (F+1) [] k=some (k,[])/\pL_markHistS (F+1) [] k=some (k,[]):=
 ⟨rfl,rfl,rfl,rfl,rfl,rfl,rfl,rfl,rfl⟩
theorem helds0 (F:Nat) (k:Int):pL_heldPaneS (F+1) [] k=some k/\pL_heldWinS (F+1) [] k=some k/\pL_heldSessS (F+1) [] k=some k/\pL_heldFileS (F+1) [] k=some k/\pL_heldLinkS (F+1) [] k=some k/\pL_heldTurnS (F+1) [] k=some k/\pL_heldProcS (F+1) [] k=some k/\pL_heldAskS (F+1) [] k=some k/\pL_heldHistS (F+1) [] k=some k:=
 ⟨rfl,rfl,rfl,rfl,rfl,rfl,rfl,rfl,rfl⟩
theorem markE (F:Nat) (w h l n t r f nx tn:Int):pL_markSrv (F+1) (srvE w h l n t r f nx tn) 1=some (1,[],[],[],[],[],[],[],[],[],[],[],[],[],[],[]):=by
 obtain⟨h1,h2,h3,h4,h5,h6,h7,h8,h9⟩:=marks0 F 1
 unfold pL_markSrv pL_markState pL_markDepot pL_markDisk pL_markTable srvE stE dkE
 simp only[h1,h2,h3,h4,h5,h6,h7,h8,h9,bd_s]
theorem heldE (F:Nat) (w h l n t r f nx tn:Int):pL_heldSrv (F+1) (srvE w h l n t r f nx tn) 1=some 1:=by
 obtain⟨h1,h2,h3,h4,h5,h6,h7,h8,h9⟩:=helds0 F 1
 unfold pL_heldSrv pL_heldState pL_heldDepot pL_heldDisk pL_heldTable srvE stE dkE
 simp only[h1,h2,h3,h4,h5,h6,h7,h8,h9,bd_s,qF1 (show¬(1:Int)<0 by omega),br_f]
theorem plain_law (a b c d e:Int):pL_FnExactSrvNew 20000100 a b c d e=some true:=by
 obtain⟨w,h,l,n,t,r,f,nx,tn,ok,e1,e2⟩:=SrvNew_both (F:=20000030) (by omega) a b c d e
 have e1:pI_SrvNew 20000100 a b c d e=some (srvE w h l n t r f nx tn,ok):=e1
 have e2:pS_SrvNew 20000100 a b c d e=some (srvE w h l n t r f nx tn,ok):=e2
 have e3:=eq_Srv (fuel:=20000100) (x:=srvE w h l n t r f nx tn) (by omega) (fitE ..)
 have e4:pL_markSrv 20000100 (srvE w h l n t r f nx tn) 1=_:=markE 20000099 ..
 have e5:pL_heldSrv 20000100 (srvE w h l n t r f nx tn) 1=_:=heldE 20000099 ..
 have e6:(!ok==ok)=false:=by cases ok<;>rfl
 unfold pL_FnExactSrvNew
 simp only[e1,e2,e3,bd_s,Bool.not_true,br_f,e6,e4]
 rw[show ISrv.mk (IState.mk (srvE w h l n t r f nx tn).Base.W (srvE w h l n t r f nx tn).Base.H (srvE w h l n t r f nx tn).Base.Limit (srvE w h l n t r f nx tn).Base.Next [] [] []) (srvE w h l n t r f nx tn).Top (srvE w h l n t r f nx tn).Up (IState.mk (srvE w h l n t r f nx tn).St.W (srvE w h l n t r f nx tn).St.H (srvE w h l n t r f nx tn).St.Limit (srvE w h l n t r f nx tn).St.Next [] [] []) (IDepot.mk (IDisk.mk (srvE w h l n t r f nx tn).Dep.Disk.Room (srvE w h l n t r f nx tn).Dep.Disk.Fuse (srvE w h l n t r f nx tn).Dep.Disk.Next [] [] []) (srvE w h l n t r f nx tn).Dep.Gen (srvE w h l n t r f nx tn).Dep.Seq (srvE w h l n t r f nx tn).Dep.Size (srvE w h l n t r f nx tn).Dep.Stuck) (IDisk.mk (srvE w h l n t r f nx tn).Disk.Room (srvE w h l n t r f nx tn).Disk.Fuse (srvE w h l n t r f nx tn).Disk.Next [] [] []) (ITable.mk (srvE w h l n t r f nx tn).Tab.Next [] []) (srvE w h l n t r f nx tn).Sure []=srvE w h l n t r f nx tn from rfl]
 simp only[e5,bd_s,qF1 (show¬(1:Int)<0 by omega),br_f,bne_self_eq_false]
open Go.RowKit
theorem law_ofE {P:Program} {f:FuncId} {fn:Func} {c:Code} {E:World->Prop} (hf:P.funcs[f]?=some fn) (hname:(fn.name== "runtime.NumGoroutine")=false) (hb:fn.body=some c) {args:List PV} {us:List Value} {W:World} (hE:E W) (h:PCalls P W.heap.size E f args [] (.v (.bool true)) []) (ha:All3 (Own1 (fun b=>b<W.heap.size) W (extB []) (extS [])) args us []) :
  Calls P f us.toArray W fun e W'=>e= .returned (.bool true)/\Below W.heap.size W W':=by
 refine Arrive.calls hf hname hb (Arrive.mono (h.2 W (fun b=>b<W.heap.size) us [] [] [] (Nat.le_refl _) hE rfl rfl (by simp) (by simp) (fun b hb=>⟨hb,by simp⟩) ha (fun j p cs L hj=>by simp at hj)) ?_)
 rintro e W' ⟨u,Lr,Le',rfl,_,_,_,h5,_,h7⟩
 obtain⟨_,rfl,_⟩:=h5
 exact⟨rfl,h7.os,h7.tape,h7.output,h7.size,fun b hb=>h7.old b hb (by simp)⟩
theorem tab_stays {w w':World} (h:TabW w) (hs:∀b,b<w.heap.size->w'.heap[b]?=w.heap[b]?):TabW w':=by
 unfold TabW Lib.TabIs World.var? at h⊢
 cases hg:Proofs.Tryz.prog.globalNamed "internal/strconv.uint64pow10" with
 | none=>rw[hg]at h;cases h
 | some g=>
  rw[hg]at h
  simp only[Option.bind_some]at h⊢
  by_cases hlt:g<w.heap.size
  ·rw[hs g hlt];exact h
  ·rw[Array.getElem?_eq_none (by omega)]at h;cases h
end Go.Px
