/- What a call may hold, as plain values and a store: a small machine over them, the functions of this program as its contracts, and the plain laws: texts GZ to QS1. -/
import Derived.Test.YthjkndcfihodgaaGreatDoorQD
import Derived.ProofKit
import Derived.Deep.Slices
import Derived.OpenShut
import Derived.Below
set_option linter.unusedSimpArgs false
set_option linter.unusedVariables false
set_option linter.constructorNameAsVariable false
namespace Go.Px
open Go.Proofs
noncomputable section
def T178 : Tab := ⟨[], [], []⟩
def pL_szIntS (fuel : Nat) (a1 : List Int) (a2 : Int) : Option Int :=
  gd (inK IntKind.i64 (a2 - (↑a1.length : Int))) <|
  br (decide (a2 - (↑a1.length : Int) < 0)) (
    some (-1)) <|
  some (a2 - (↑a1.length : Int))
def o178 (fuel : Nat) : Orc := ⟨178, [none, none], [.row .int, .I .i64], 0, (.one (.I .i64)), fun v => pL_szIntS fuel v.1 v.2⟩
theorem c178 : CC o178 := fun hcl fuel => mkc hcl csn T178 fuel Tryz.f178
def T289 : Tab := ⟨[], [], []⟩
def pL_szByteS (fuel : Nat) (a1 : List UInt8) (a2 : Int) : Option Int :=
  gd (inK IntKind.i64 (a2 - (↑a1.length : Int))) <|
  br (decide (a2 - (↑a1.length : Int) < 0)) (
    some (-1)) <|
  some (a2 - (↑a1.length : Int))
def o289 (fuel : Nat) : Orc := ⟨289, [none, none], [.row .u8, .I .i64], 0, (.one (.I .i64)), fun v => pL_szByteS fuel v.1 v.2⟩
theorem c289 : CC o289 := fun hcl fuel => mkc hcl csn T289 fuel Tryz.f289
def T260 : Tab := ⟨[], [], []⟩
def pL_szVp (fuel : Nat) (a1 : LVp) (a2 : Int) : Option Int :=
  bd (pL_szIntS fuel a1.Args a2) fun x3 =>
  br (decide (x3 < 0)) (
    some (-1)) <|
  bd (pL_szByteS fuel a1.Part x3) fun x4 =>
  br (decide (x4 < 0)) (
    some (-1)) <|
  some x4
def o260 (fuel : Nat) : Orc := ⟨260, [none, none], [.st .lVp [], .I .i64], 0, (.one (.I .i64)), fun v => pL_szVp fuel v.1 v.2⟩
theorem c260 : CC o260 := fun hcl fuel => mkc hcl (csc (c178 hcl fuel) (csc (c289 hcl fuel) csn)) T260 fuel Tryz.f260
def T336 : Tab := ⟨[], [], []⟩
def pL_szCellS (fuel : Nat) (a1 : List LCell) (a2 : Int) : Option Int :=
  gd (inK IntKind.i64 (a2 - (↑a1.length : Int))) <|
  br (decide (a2 - (↑a1.length : Int) < 0)) (
    some (-1)) <|
  some (a2 - (↑a1.length : Int))
def o336 (fuel : Nat) : Orc := ⟨336, [none, none], [.row .lCell, .I .i64], 0, (.one (.I .i64)), fun v => pL_szCellS fuel v.1 v.2⟩
theorem c336 : CC o336 := fun hcl fuel => mkc hcl csn T336 fuel Tryz.f336
def T301 : Tab := ⟨[], [], []⟩
def pL_szGrid (fuel : Nat) (a1 : LGrid) (a2 : Int) : Option Int :=
  bd (pL_szCellS fuel a1.Cells a2) fun x3 =>
  br (decide (x3 < 0)) (
    some (-1)) <|
  some x3
def o301 (fuel : Nat) : Orc := ⟨301, [none, none], [.st .lGrid [], .I .i64], 0, (.one (.I .i64)), fun v => pL_szGrid fuel v.1 v.2⟩
theorem c301 : CC o301 := fun hcl fuel => mkc hcl (csc (c336 hcl fuel) csn) T301 fuel Tryz.f301
def T337 : Tab := ⟨[], [], []⟩
def pL_szRow (fuel : Nat) (a1 : LRow) (a2 : Int) : Option Int :=
  bd (pL_szCellS fuel a1.Cells a2) fun x3 =>
  br (decide (x3 < 0)) (
    some (-1)) <|
  some x3
def o337 (fuel : Nat) : Orc := ⟨337, [none, none], [.st .lRow [], .I .i64], 0, (.one (.I .i64)), fun v => pL_szRow fuel v.1 v.2⟩
theorem c337 : CC o337 := fun hcl fuel => mkc hcl (csc (c336 hcl fuel) csn) T337 fuel Tryz.f337
def T302 : Tab := ⟨[], [], [(5, true, ⟨[], [.sl 0 (.row .lRow), .sl 1 (.I .i64), .sl 5 (.I .i64)]⟩, 0, ⟨[], [.sl 1 (.I .i64)]⟩)]⟩
def pL_szRowS_b1 (fuel : Nat) : List LRow × Int × Int → Option ((List LRow × Int × Int) ⊕ (Int ⊕ Int)) := fun (v5, v6, v7) =>
  br (decide (v7 < (↑v5.length : Int))) (
    gd (0 ≤ v7 ∧ v7 < (↑v5.length : Int)) <|
    bd v5[v7.toNat]? fun x8 =>
    bd (pL_szRow fuel x8 v6) fun x9 =>
    br (decide (x9 < 0)) (
      some (.inr (.inr (-1)))) <|
    some (.inl (v5, x9, IntKind.i64.wrap (v7 + 1)))) <|
  some (.inr (.inl v6))
def pL_szRowS (fuel : Nat) (a1 : List LRow) (a2 : Int) : Option Int :=
  gd (inK IntKind.i64 (a2 - (↑a1.length : Int))) <|
  br (decide (a2 - (↑a1.length : Int) < 0)) (
    some (-1)) <|
  jn (V := Int) (
    loopF (pL_szRowS_b1 fuel) fuel (a1, a2 - (↑a1.length : Int), 0)) fun v4 =>
  some v4
def o302 (fuel : Nat) : Orc := ⟨302, [none, none], [.row .lRow, .I .i64], 0, (.one (.I .i64)), fun v => pL_szRowS fuel v.1 v.2⟩
theorem c302 : CC o302 := fun hcl fuel => mkc hcl (csc (c337 hcl fuel) csn) T302 fuel Tryz.f302
def T261 : Tab := ⟨[], [], []⟩
def pL_szScr (fuel : Nat) (a1 : LScr) (a2 : Int) : Option Int :=
  bd (pL_szGrid fuel a1.Main a2) fun x3 =>
  br (decide (x3 < 0)) (
    some (-1)) <|
  bd (pL_szGrid fuel a1.Alt x3) fun x4 =>
  br (decide (x4 < 0)) (
    some (-1)) <|
  bd (pL_szIntS fuel a1.Tabs x4) fun x5 =>
  br (decide (x5 < 0)) (
    some (-1)) <|
  bd (pL_szRowS fuel a1.Back x5) fun x6 =>
  br (decide (x6 < 0)) (
    some (-1)) <|
  some x6
def o261 (fuel : Nat) : Orc := ⟨261, [none, none], [.st .lScr [], .I .i64], 0, (.one (.I .i64)), fun v => pL_szScr fuel v.1 v.2⟩
theorem c261 : CC o261 := fun hcl fuel => mkc hcl (csc (c301 hcl fuel) (csc (c178 hcl fuel) (csc (c302 hcl fuel) csn))) T261 fuel Tryz.f261
def T176 : Tab := ⟨[], [], []⟩
def pL_szTerm (fuel : Nat) (a1 : LTerm) (a2 : Int) : Option Int :=
  bd (pL_szVp fuel a1.P a2) fun x3 =>
  br (decide (x3 < 0)) (
    some (-1)) <|
  bd (pL_szScr fuel a1.S x3) fun x4 =>
  br (decide (x4 < 0)) (
    some (-1)) <|
  some x4
def o176 (fuel : Nat) : Orc := ⟨176, [none, none], [.st .lTerm [], .I .i64], 0, (.one (.I .i64)), fun v => pL_szTerm fuel v.1 v.2⟩
theorem c176 : CC o176 := fun hcl fuel => mkc hcl (csc (c260 hcl fuel) (csc (c261 hcl fuel) csn)) T176 fuel Tryz.f176
def T89 : Tab := ⟨[], [], []⟩
def pL_szPane (fuel : Nat) (a1 : LPane) (a2 : Int) : Option Int :=
  gd (inK IntKind.i64 (a2 - (↑a1.Cmd.size : Int))) <|
  br (decide (a2 - (↑a1.Cmd.size : Int) < 0)) (
    some (-1)) <|
  gd (inK IntKind.i64 (a2 - (↑a1.Cmd.size : Int) - (↑a1.Dir.size : Int))) <|
  br (decide (a2 - (↑a1.Cmd.size : Int) - (↑a1.Dir.size : Int) < 0)) (
    some (-1)) <|
  bd (pL_szTerm fuel a1.Term (a2 - (↑a1.Cmd.size : Int) - (↑a1.Dir.size : Int))) fun x3 =>
  br (decide (x3 < 0)) (
    some (-1)) <|
  some x3
def o89 (fuel : Nat) : Orc := ⟨89, [none, none], [.st .lPane [], .I .i64], 0, (.one (.I .i64)), fun v => pL_szPane fuel v.1 v.2⟩
theorem c89 : CC o89 := fun hcl fuel => mkc hcl (csc (c176 hcl fuel) csn) T89 fuel Tryz.f89
def T22 : Tab := ⟨[], [], [(5, true, ⟨[], [.sl 0 (.row .lPane), .sl 1 (.I .i64), .sl 5 (.I .i64)]⟩, 0, ⟨[], [.sl 1 (.I .i64)]⟩)]⟩
def pL_szPaneS_b1 (fuel : Nat) : List LPane × Int × Int → Option ((List LPane × Int × Int) ⊕ (Int ⊕ Int)) := fun (v5, v6, v7) =>
  br (decide (v7 < (↑v5.length : Int))) (
    gd (0 ≤ v7 ∧ v7 < (↑v5.length : Int)) <|
    bd v5[v7.toNat]? fun x8 =>
    bd (pL_szPane fuel x8 v6) fun x9 =>
    br (decide (x9 < 0)) (
      some (.inr (.inr (-1)))) <|
    some (.inl (v5, x9, IntKind.i64.wrap (v7 + 1)))) <|
  some (.inr (.inl v6))
def pL_szPaneS (fuel : Nat) (a1 : List LPane) (a2 : Int) : Option Int :=
  gd (inK IntKind.i64 (a2 - (↑a1.length : Int))) <|
  br (decide (a2 - (↑a1.length : Int) < 0)) (
    some (-1)) <|
  jn (V := Int) (
    loopF (pL_szPaneS_b1 fuel) fuel (a1, a2 - (↑a1.length : Int), 0)) fun v4 =>
  some v4
def o22 (fuel : Nat) : Orc := ⟨22, [none, none], [.row .lPane, .I .i64], 0, (.one (.I .i64)), fun v => pL_szPaneS fuel v.1 v.2⟩
theorem c22 : CC o22 := fun hcl fuel => mkc hcl (csc (c89 hcl fuel) csn) T22 fuel Tryz.f22
def T177 : Tab := ⟨[], [], []⟩
def pL_szNodeS (fuel : Nat) (a1 : List LNode) (a2 : Int) : Option Int :=
  gd (inK IntKind.i64 (a2 - (↑a1.length : Int))) <|
  br (decide (a2 - (↑a1.length : Int) < 0)) (
    some (-1)) <|
  some (a2 - (↑a1.length : Int))
def o177 (fuel : Nat) : Orc := ⟨177, [none, none], [.row .lNode, .I .i64], 0, (.one (.I .i64)), fun v => pL_szNodeS fuel v.1 v.2⟩
theorem c177 : CC o177 := fun hcl fuel => mkc hcl csn T177 fuel Tryz.f177
def T90 : Tab := ⟨[], [], []⟩
def pL_szWin (fuel : Nat) (a1 : LWin) (a2 : Int) : Option Int :=
  gd (inK IntKind.i64 (a2 - (↑a1.Name.size : Int))) <|
  br (decide (a2 - (↑a1.Name.size : Int) < 0)) (
    some (-1)) <|
  bd (pL_szNodeS fuel a1.Tree (a2 - (↑a1.Name.size : Int))) fun x3 =>
  br (decide (x3 < 0)) (
    some (-1)) <|
  some x3
def o90 (fuel : Nat) : Orc := ⟨90, [none, none], [.st .lWin [], .I .i64], 0, (.one (.I .i64)), fun v => pL_szWin fuel v.1 v.2⟩
theorem c90 : CC o90 := fun hcl fuel => mkc hcl (csc (c177 hcl fuel) csn) T90 fuel Tryz.f90
def T23 : Tab := ⟨[], [], [(5, true, ⟨[], [.sl 0 (.row .lWin), .sl 1 (.I .i64), .sl 5 (.I .i64)]⟩, 0, ⟨[], [.sl 1 (.I .i64)]⟩)]⟩
def pL_szWinS_b1 (fuel : Nat) : List LWin × Int × Int → Option ((List LWin × Int × Int) ⊕ (Int ⊕ Int)) := fun (v5, v6, v7) =>
  br (decide (v7 < (↑v5.length : Int))) (
    gd (0 ≤ v7 ∧ v7 < (↑v5.length : Int)) <|
    bd v5[v7.toNat]? fun x8 =>
    bd (pL_szWin fuel x8 v6) fun x9 =>
    br (decide (x9 < 0)) (
      some (.inr (.inr (-1)))) <|
    some (.inl (v5, x9, IntKind.i64.wrap (v7 + 1)))) <|
  some (.inr (.inl v6))
def pL_szWinS (fuel : Nat) (a1 : List LWin) (a2 : Int) : Option Int :=
  gd (inK IntKind.i64 (a2 - (↑a1.length : Int))) <|
  br (decide (a2 - (↑a1.length : Int) < 0)) (
    some (-1)) <|
  jn (V := Int) (
    loopF (pL_szWinS_b1 fuel) fuel (a1, a2 - (↑a1.length : Int), 0)) fun v4 =>
  some v4
def o23 (fuel : Nat) : Orc := ⟨23, [none, none], [.row .lWin, .I .i64], 0, (.one (.I .i64)), fun v => pL_szWinS fuel v.1 v.2⟩
theorem c23 : CC o23 := fun hcl fuel => mkc hcl (csc (c90 hcl fuel) csn) T23 fuel Tryz.f23
def T91 : Tab := ⟨[], [], []⟩
def pL_szSess (fuel : Nat) (a1 : LSess) (a2 : Int) : Option Int :=
  gd (inK IntKind.i64 (a2 - (↑a1.Name.size : Int))) <|
  br (decide (a2 - (↑a1.Name.size : Int) < 0)) (
    some (-1)) <|
  bd (pL_szIntS fuel a1.Wins (a2 - (↑a1.Name.size : Int))) fun x3 =>
  br (decide (x3 < 0)) (
    some (-1)) <|
  some x3
def o91 (fuel : Nat) : Orc := ⟨91, [none, none], [.st .lSess [], .I .i64], 0, (.one (.I .i64)), fun v => pL_szSess fuel v.1 v.2⟩
theorem c91 : CC o91 := fun hcl fuel => mkc hcl (csc (c178 hcl fuel) csn) T91 fuel Tryz.f91
def T24 : Tab := ⟨[], [], [(5, true, ⟨[], [.sl 0 (.row .lSess), .sl 1 (.I .i64), .sl 5 (.I .i64)]⟩, 0, ⟨[], [.sl 1 (.I .i64)]⟩)]⟩
def pL_szSessS_b1 (fuel : Nat) : List LSess × Int × Int → Option ((List LSess × Int × Int) ⊕ (Int ⊕ Int)) := fun (v5, v6, v7) =>
  br (decide (v7 < (↑v5.length : Int))) (
    gd (0 ≤ v7 ∧ v7 < (↑v5.length : Int)) <|
    bd v5[v7.toNat]? fun x8 =>
    bd (pL_szSess fuel x8 v6) fun x9 =>
    br (decide (x9 < 0)) (
      some (.inr (.inr (-1)))) <|
    some (.inl (v5, x9, IntKind.i64.wrap (v7 + 1)))) <|
  some (.inr (.inl v6))
def pL_szSessS (fuel : Nat) (a1 : List LSess) (a2 : Int) : Option Int :=
  gd (inK IntKind.i64 (a2 - (↑a1.length : Int))) <|
  br (decide (a2 - (↑a1.length : Int) < 0)) (
    some (-1)) <|
  jn (V := Int) (
    loopF (pL_szSessS_b1 fuel) fuel (a1, a2 - (↑a1.length : Int), 0)) fun v4 =>
  some v4
def o24 (fuel : Nat) : Orc := ⟨24, [none, none], [.row .lSess, .I .i64], 0, (.one (.I .i64)), fun v => pL_szSessS fuel v.1 v.2⟩
theorem c24 : CC o24 := fun hcl fuel => mkc hcl (csc (c91 hcl fuel) csn) T24 fuel Tryz.f24
def T6 : Tab := ⟨[], [], []⟩
def pL_szState (fuel : Nat) (a1 : LState) (a2 : Int) : Option Int :=
  bd (pL_szPaneS fuel a1.Panes a2) fun x3 =>
  br (decide (x3 < 0)) (
    some (-1)) <|
  bd (pL_szWinS fuel a1.Wins x3) fun x4 =>
  br (decide (x4 < 0)) (
    some (-1)) <|
  bd (pL_szSessS fuel a1.Sess x4) fun x5 =>
  br (decide (x5 < 0)) (
    some (-1)) <|
  some x5
def o6 (fuel : Nat) : Orc := ⟨6, [none, none], [.st .lState [], .I .i64], 0, (.one (.I .i64)), fun v => pL_szState fuel v.1 v.2⟩
theorem c6 : CC o6 := fun hcl fuel => mkc hcl (csc (c22 hcl fuel) (csc (c23 hcl fuel) (csc (c24 hcl fuel) csn))) T6 fuel Tryz.f6
def T25 : Tab := ⟨[], [], [(2, true, ⟨[], [.sl 1 .S, .sl 8 (.row .iSess), .sl 9 (.I .i64), .sl 10 (.I .i64)]⟩, 0, ⟨[], []⟩)]⟩
def pS_SessAt_b1 (fuel : Nat) : ByteArray × List ISess × Int × Int → Option ((ByteArray × List ISess × Int × Int) ⊕ (Unit ⊕ Int)) := fun (v4, v5, v6, v7) =>
  br (decide (v7 < v6)) (
    gd (0 ≤ v7 ∧ v7 < (↑v5.length : Int)) <|
    bd v5[v7.toNat]? fun x8 =>
    br (decide (x8.Name = v4)) (
      some (.inr (.inr v7))) <|
    gd (inK IntKind.i64 (v7 + 1)) <|
    some (.inl (v4, v5, v6, v7 + 1))) <|
  some (.inr (.inl ()))
def pS_SessAt (fuel : Nat) (a1 : IState) (a2 : ByteArray) : Option Int :=
  jn (V := Unit) (
    loopF (pS_SessAt_b1 fuel) fuel (a2, a1.Sess, (↑a1.Sess.length : Int), 0)) fun _ =>
  some (-1)
def o25 (fuel : Nat) : Orc := ⟨25, [none, none], [.st .iState [], .S], 0, (.one (.I .i64)), fun v => pS_SessAt fuel v.1 v.2⟩
theorem c25 : CC o25 := fun hcl fuel => mkc hcl csn T25 fuel Tryz.f25
def T112 : Tab := ⟨[], [], []⟩
def pS_l07Blank (fuel : Nat) : Option ICell :=
  some (ICell.mk 32 (IAttr.mk 0 0 false false false))
def o112 (fuel : Nat) : Orc := ⟨112, [], [], 0, (.one (.st .iCell [])), fun v => pS_l07Blank fuel ⟩
theorem c112 : CC o112 := fun hcl fuel => mkc hcl csn T112 fuel Tryz.f112
def T38 : Tab := ⟨[(1, ⟨[(4, .ptr 500 0)], [.sto 500 .iGrid [(2, 50000001)], .sl 0 (.I .i64), .sl 1 (.I .i64), .sl 27 .B]⟩)], [], [(5, false, ⟨[(4, .ptr 500 0), (6, .ptr 700 0)], [.sto 500 .iGrid [(2, 50000001)], .sto 700 .iGrid [(2, 50000002)], .sl 0 (.I .i64), .sl 1 (.I .i64), .sl 7 (.I .i64)]⟩, 0, ⟨[(4, .ptr 500 0), (6, .ptr 700 0)], [.sto 500 .iGrid [(2, 50000001)], .sto 700 .iGrid [(2, 50000002)]]⟩)]⟩
def pS_GridNew_b1 (fuel : Nat) : IGrid × IGrid × Int × Int × Int → Option ((IGrid × IGrid × Int × Int × Int) ⊕ (IGrid × IGrid)) := fun (v10, v11, v12, v13, v14) =>
  gd (inK IntKind.i64 (v12 * v13)) <|
  br (decide (v14 < v12 * v13)) (
    bd (pS_l07Blank fuel) fun x15 =>
    gd (roomB K.iCell (v11.Cells ++ [x15]).length) <|
    gd (inK IntKind.i64 (v14 + 1)) <|
    some (.inl (v10, IGrid.mk v11.W v11.H (v11.Cells ++ [x15]), v12, v13, v14 + 1))) <|
  some (.inr (v10, v11))
def pS_GridNew (fuel : Nat) (a1 : Int) (a2 : Int) : Option (IGrid × Bool) :=
  bd (α := IGrid × Int × Int × Bool) (
    br (decide (a1 < 1)) (
      some (IGrid.mk 0 0 [], a1, a2, true)) <|
    br (decide (120 < a1)) (
      some (IGrid.mk 0 0 [], a1, a2, true)) <|
    br (decide (a2 < 1)) (
      some (IGrid.mk 0 0 [], a1, a2, true)) <|
    br (decide (120 < a2)) (
      some (IGrid.mk 0 0 [], a1, a2, true)) <|
    gd (inK IntKind.i64 (a1 * a2)) <|
    some (IGrid.mk 0 0 [], a1, a2, decide (4000 < a1 * a2))) fun (x3, x4, x5, x6) =>
  br x6 (
    some (IGrid.mk 0 0 [], false)) <|
  bd (α := IGrid × IGrid) (
    loopF (pS_GridNew_b1 fuel) fuel (x3, IGrid.mk x4 x5 [], x4, x5, 0)) fun (x8, x9) =>
  some (x9, true)
def o38 (fuel : Nat) : Orc := ⟨38, [none, none], [.I .i64, .I .i64], 0, (.tup [.st .iGrid [(2, 99)], .B]), fun v => pS_GridNew fuel v.1 v.2⟩
theorem c38 : CC o38 := fun hcl fuel => mkc hcl (csc (c112 hcl fuel) csn) T38 fuel Tryz.f38
def T41 : Tab := ⟨[], [], [(2, true, ⟨[], [.sl 1 (.I .i64), .sl 8 (.row .iPane), .sl 9 (.I .i64), .sl 10 (.I .i64)]⟩, 0, ⟨[], []⟩)]⟩
def pS_PaneAt_b1 (fuel : Nat) : Int × List IPane × Int × Int → Option ((Int × List IPane × Int × Int) ⊕ (Unit ⊕ Int)) := fun (v4, v5, v6, v7) =>
  br (decide (v7 < v6)) (
    gd (0 ≤ v7 ∧ v7 < (↑v5.length : Int)) <|
    bd v5[v7.toNat]? fun x8 =>
    br (x8.Id == v4) (
      some (.inr (.inr v7))) <|
    gd (inK IntKind.i64 (v7 + 1)) <|
    some (.inl (v4, v5, v6, v7 + 1))) <|
  some (.inr (.inl ()))
def pS_PaneAt (fuel : Nat) (a1 : IState) (a2 : Int) : Option Int :=
  jn (V := Unit) (
    loopF (pS_PaneAt_b1 fuel) fuel (a2, a1.Panes, (↑a1.Panes.length : Int), 0)) fun _ =>
  some (-1)
def o41 (fuel : Nat) : Orc := ⟨41, [none, none], [.st .iState [], .I .i64], 0, (.one (.I .i64)), fun v => pS_PaneAt fuel v.1 v.2⟩
theorem c41 : CC o41 := fun hcl fuel => mkc hcl csn T41 fuel Tryz.f41
def T144 : Tab := ⟨[], [], [(2, true, ⟨[], [.sl 1 (.I .i64), .sl 7 (.row .int), .sl 8 (.I .i64), .sl 9 (.I .i64)]⟩, 0, ⟨[], []⟩)]⟩
def pS_l02HasInt_b1 (fuel : Nat) : Int × List Int × Int × Int → Option ((Int × List Int × Int × Int) ⊕ (Unit ⊕ Bool)) := fun (v4, v5, v6, v7) =>
  br (decide (v7 < v6)) (
    gd (0 ≤ v7 ∧ v7 < (↑v5.length : Int)) <|
    bd v5[v7.toNat]? fun x8 =>
    br (x8 == v4) (
      some (.inr (.inr true))) <|
    gd (inK IntKind.i64 (v7 + 1)) <|
    some (.inl (v4, v5, v6, v7 + 1))) <|
  some (.inr (.inl ()))
def pS_l02HasInt (fuel : Nat) (a1 : List Int) (a2 : Int) : Option Bool :=
  jn (V := Unit) (
    loopF (pS_l02HasInt_b1 fuel) fuel (a2, a1, (↑a1.length : Int), 0)) fun _ =>
  some false
def o144 (fuel : Nat) : Orc := ⟨144, [none, none], [.row .int, .I .i64], 0, (.one .B), fun v => pS_l02HasInt fuel v.1 v.2⟩
theorem c144 : CC o144 := fun hcl fuel => mkc hcl csn T144 fuel Tryz.f144
def T205 : Tab := ⟨[], [(8, false, ⟨[], [.sl 0 (.row .iNode), .sl 5 (.I .i64), .sl 6 (.I .i64)]⟩)], [(3, true, ⟨[], [.sl 0 (.row .iNode), .sl 5 (.I .i64), .sl 6 (.I .i64)]⟩, 0, ⟨[], []⟩)]⟩
def pS_l13End_b1 (fuel : Nat) : List INode × Int × Int → Option ((List INode × Int × Int) ⊕ (Unit ⊕ Int)) := fun (v4, v5, v6) =>
  br (decide (v6 < (↑v4.length : Int))) (
    bd (α := List INode × Int × Int) (
      gd (0 ≤ v6 ∧ v6 < (↑v4.length : Int)) <|
      bd v4[v6.toNat]? fun x7 =>
      br (x7.Pane == 0) (
        gd (inK IntKind.i64 (v5 + 1)) <|
        some (v4, v5 + 1, v6)) <|
      gd (inK IntKind.i64 (v5 - 1)) <|
      some (v4, v5 - 1, v6)) fun (x8, x9, x10) =>
    br (x9 == 0) (
      gd (inK IntKind.i64 (x10 + 1)) <|
      some (.inr (.inr (x10 + 1)))) <|
    gd (inK IntKind.i64 (x10 + 1)) <|
    some (.inl (x8, x9, x10 + 1))) <|
  some (.inr (.inl ()))
def pS_l13End (fuel : Nat) (a1 : List INode) (a2 : Int) : Option Int :=
  jn (V := Unit) (
    loopF (pS_l13End_b1 fuel) fuel (a1, 1, a2)) fun _ =>
  some (-1)
def o205 (fuel : Nat) : Orc := ⟨205, [none, none], [.row .iNode, .I .i64], 0, (.one (.I .i64)), fun v => pS_l13End fuel v.1 v.2⟩
theorem c205 : CC o205 := fun hcl fuel => mkc hcl csn T205 fuel Tryz.f205
def T206 : Tab := ⟨[(1, ⟨[], [.sl 0 (.row .iNode), .sl 17 .B]⟩), (7, ⟨[(5, .ptr 600 0)], [.sto 600 .iNode [], .sl 3 (.own .int 1900), .sl 6 .B, .sl 19 (.row .iNode), .sl 20 (.I .i64), .sl 21 (.I .i64)]⟩), (8, ⟨[(5, .ptr 600 0)], [.sto 600 .iNode [], .sl 3 (.own .int 1900), .sl 6 .B, .sl 7 .B, .sl 19 (.row .iNode), .sl 20 (.I .i64), .sl 21 (.I .i64)]⟩), (9, ⟨[(5, .ptr 600 0)], [.sto 600 .iNode [], .sl 3 (.own .int 1900), .sl 6 .B, .sl 19 (.row .iNode), .sl 20 (.I .i64), .sl 21 (.I .i64), .sl 70 .B]⟩)], [(13, true, ⟨[], [.sl 3 (.own .int 1900), .sl 19 (.row .iNode), .sl 20 (.I .i64), .sl 21 (.I .i64)]⟩)], [(5, true, ⟨[], [.sl 3 (.own .int 1900), .sl 19 (.row .iNode), .sl 20 (.I .i64), .sl 21 (.I .i64)]⟩, 0, ⟨[], []⟩)]⟩
def pS_TreeOk_b1 (fuel : Nat) : List Int × List INode × Int × Int → Option ((List Int × List INode × Int × Int) ⊕ (Unit ⊕ Bool)) := fun (v6, v7, v8, v9) =>
  br (decide (v9 < v8)) (
    jn (V := List Int × List INode × Int × Int) (
      gd (0 ≤ v9 ∧ v9 < (↑v7.length : Int)) <|
      bd v7[v9.toNat]? fun x10 =>
      bd (α := INode × List Int × Bool × List INode × Int × Int) (
        br (decide (1 ≤ x10.Pane)) (
          br (decide (x10.Pane ≤ 1000000)) (
            br (!x10.Down) (
              some (x10, v6, x10.First == 0, v7, v8, v9)) <|
            some (x10, v6, false, v7, v8, v9)) <|
          some (x10, v6, false, v7, v8, v9)) <|
        some (x10, v6, false, v7, v8, v9)) fun (x11, x12, x13, x14, x15, x16) =>
      bd (α := INode × List Int × Bool × Bool × List INode × Int × Int) (
        br (x11.Pane == 0) (
          br (decide (1 ≤ x11.First)) (
            some (x11, x12, x13, decide (x11.First ≤ 120), x14, x15, x16)) <|
          some (x11, x12, x13, false, x14, x15, x16)) <|
        some (x11, x12, x13, false, x14, x15, x16)) fun (x17, x18, x19, x20, x21, x22, x23) =>
      bd (α := INode × List Int × Bool × List INode × Int × Int × Bool) (
        br (!x19) (
          br (!x20) (
            some (x17, x18, x19, x21, x22, x23, true)) <|
          br x19 (
            bd (pS_l02HasInt fuel x18 x17.Pane) fun x24 =>
            some (x17, x18, x19, x21, x22, x23, x24)) <|
          some (x17, x18, x19, x21, x22, x23, false)) <|
        br x19 (
          bd (pS_l02HasInt fuel x18 x17.Pane) fun x25 =>
          some (x17, x18, x19, x21, x22, x23, x25)) <|
        some (x17, x18, x19, x21, x22, x23, false)) fun (x26, x27, x28, x29, x30, x31, x32) =>
      br x32 (
        some (.inr (.inr (.inr false)))) <|
      br x28 (
        gd (roomB K.int (x27 ++ [x26.Pane]).length) <|
        some (.inl (x27 ++ [x26.Pane], x29, x30, x31))) <|
      some (.inl (x27, x29, x30, x31))) fun (v33, v34, v35, v36) =>
    gd (inK IntKind.i64 (v36 + 1)) <|
    some (.inl (v33, v34, v35, v36 + 1))) <|
  some (.inr (.inl ()))
def pS_TreeOk (fuel : Nat) (a1 : List INode) : Option Bool :=
  bd (α := List INode × Bool) (
    br (decide (31 < (↑a1.length : Int))) (
      some (a1, true)) <|
    bd (pS_l13End fuel a1 0) fun x2 =>
    some (a1, x2 != (↑a1.length : Int))) fun (x3, x4) =>
  br x4 (
    some false) <|
  jn (V := Unit) (
    loopF (pS_TreeOk_b1 fuel) fuel ([], x3, (↑x3.length : Int), 0)) fun _ =>
  some true
def o206 (fuel : Nat) : Orc := ⟨206, [none], [.row .iNode], 0, (.one .B), fun v => pS_TreeOk fuel v⟩
theorem c206 : CC o206 := fun hcl fuel => mkc hcl (csc (c205 hcl fuel) (csc (c144 hcl fuel) csn)) T206 fuel Tryz.f206
def T203 : Tab := ⟨[], [], []⟩
def pS_l13First (fuel : Nat) (a1 : Int) (a2 : Int) : Option Int :=
  gd (inK IntKind.i64 (a2 - 2)) <|
  br (decide (a2 - 2 < a1)) (
    gd (inK IntKind.i64 (a2 - 2)) <|
    some (a2 - 2)) <|
  some a1
def o203 (fuel : Nat) : Orc := ⟨203, [none, none], [.I .i64, .I .i64], 0, (.one (.I .i64)), fun v => pS_l13First fuel v.1 v.2⟩
theorem c203 : CC o203 := fun hcl fuel => mkc hcl csn T203 fuel Tryz.f203
def T207 : Tab := ⟨[(20, ⟨[], [.sl 6 (.own .iRect 83000000), .sl 7 .B]⟩)], [(18, true, ⟨[(9, .ptr 1000 0), (10, .ptr 1100 0)], [.sto 1000 .iRect [], .sto 1100 .iRect [], .sl 0 (.row .iNode), .sl 1 (.I .i64)]⟩)], []⟩
def pS_l13Place (fuel : Nat) (slf : List INode × Int × IRect → Option (List IRect × Bool)) : List INode × Int × IRect → Option (List IRect × Bool) := fun (a1, a2, a3) =>
  gd (0 ≤ a2 ∧ a2 < (↑a1.length : Int)) <|
  bd a1[a2.toNat]? fun x4 =>
  br (decide (0 < x4.Pane)) (
    some ([IRect.mk x4.Pane a3.X a3.Y a3.W a3.H], true)) <|
  jn (V := IRect × IRect × List INode × Int) (
    br x4.Down (
      br (decide (a3.H < 3)) (
        some (.inr ([], false))) <|
      bd (pS_l13First fuel x4.First a3.H) fun x5 =>
      gd (inK IntKind.i64 (a3.Y + x5)) <|
      gd (inK IntKind.i64 (a3.Y + x5 + 1)) <|
      gd (inK IntKind.i64 (a3.H - x5)) <|
      gd (inK IntKind.i64 (a3.H - x5 - 1)) <|
      some (.inl (IRect.mk a3.Pane a3.X a3.Y a3.W x5, IRect.mk a3.Pane a3.X (a3.Y + x5 + 1) a3.W (a3.H - x5 - 1), a1, a2))) <|
    br (decide (a3.W < 3)) (
      some (.inr ([], false))) <|
    bd (pS_l13First fuel x4.First a3.W) fun x6 =>
    gd (inK IntKind.i64 (a3.X + x6)) <|
    gd (inK IntKind.i64 (a3.X + x6 + 1)) <|
    gd (inK IntKind.i64 (a3.W - x6)) <|
    gd (inK IntKind.i64 (a3.W - x6 - 1)) <|
    some (.inl (IRect.mk a3.Pane a3.X a3.Y x6 a3.H, IRect.mk a3.Pane (a3.X + x6 + 1) a3.Y (a3.W - x6 - 1) a3.H, a1, a2))) fun (v7, v8, v9, v10) =>
  gd (inK IntKind.i64 (v10 + 1)) <|
  bd (slf (v9, v10 + 1, v7)) fun (x11, x12) =>
  gd (inK IntKind.i64 (v10 + 1)) <|
  bd (pS_l13End fuel v9 (v10 + 1)) fun x13 =>
  bd (slf (v9, x13, v8)) fun (x14, x15) =>
  bd (α := List IRect × Bool) (
    gd (roomB K.iRect (x11 ++ x14).length) <|
    br x12 (
      some (x11 ++ x14, x15)) <|
    some (x11 ++ x14, false)) fun (x16, x17) =>
  some (x16, x17)
def o207 (fuel : Nat) : Orc := ⟨207, [none, none, none], [.row .iNode, .I .i64, .st .iRect []], 0, (.tup [.own .iRect 99, .B]), recF (pS_l13Place fuel) fuel⟩
theorem c207 {G : Nat} {E : World → Prop} (hcl : Cl G E) (fuel : Nat) : Ctr Tryz.prog G E (o207 fuel) := Ctr.rec (fun slf h => Ctr.mk (o := ⟨207, [none, none, none], [.row .iNode, .I .i64, .st .iRect []], 0, (.tup [.own .iRect 99, .B]), pS_l13Place fuel slf⟩) (csc h (csc (c203 hcl fuel) (csc (c205 hcl fuel) csn))) facts mixed hcl.cl T207 fuel (fn := Tryz.f207) (by kernel_rfl) rfl (by kernel_rfl) (fun _ => by kernel_rfl) (fun _ _ => by kernel_rfl) (fun _ => by kernel_rfl)) fuel
def T118 : Tab := ⟨[(1, ⟨[], [.sl 0 (.row .iNode), .sl 1 (.I .i64), .sl 2 (.I .i64), .sl 28 .B]⟩)], [], []⟩
def pS_Places (fuel : Nat) (a1 : List INode) (a2 : Int) (a3 : Int) : Option (List IRect × Bool) :=
  bd (α := List INode × Int × Int × Bool) (
    bd (pS_TreeOk fuel a1) fun x4 =>
    br (!x4) (
      some (a1, a2, a3, true)) <|
    br (decide (a2 < 1)) (
      some (a1, a2, a3, true)) <|
    br (decide (120 < a2)) (
      some (a1, a2, a3, true)) <|
    br (decide (a3 < 1)) (
      some (a1, a2, a3, true)) <|
    some (a1, a2, a3, decide (120 < a3))) fun (x5, x6, x7, x8) =>
  br x8 (
    some ([], false)) <|
  bd (recF (pS_l13Place fuel) fuel (x5, 0, IRect.mk 0 0 0 x6 x7)) fun (x9, x10) =>
  br (!x10) (
    some ([], false)) <|
  some (x9, true)
def o118 (fuel : Nat) : Orc := ⟨118, [none, none, none], [.row .iNode, .I .i64, .I .i64], 0, (.tup [.own .iRect 99, .B]), fun v => pS_Places fuel v.1 v.2.1 v.2.2⟩
theorem c118 : CC o118 := fun hcl fuel => mkc hcl (csc (c206 hcl fuel) (csc (c207 hcl fuel) csn)) T118 fuel Tryz.f118
def T147 : Tab := ⟨[(4, ⟨[], [.sl 0 .S, .sl 3 (.I .i64), .sl 31 .B]⟩), (6, ⟨[], [.sl 2 .B]⟩)], [], [(2, true, ⟨[], [.sl 0 .S, .sl 3 (.I .i64)]⟩, 0, ⟨[], [.sl 0 .S]⟩)]⟩
def pS_WordOk_b1 (fuel : Nat) : ByteArray × Int → Option ((ByteArray × Int) ⊕ (ByteArray ⊕ Bool)) := fun (v5, v6) =>
  br (decide (v6 < (↑v5.size : Int))) (
    bd (α := ByteArray × Int × Bool) (
      gd (0 ≤ v6) <|
      bd v5[v6.toNat]? fun x7 =>
      br (decide ((↑x7.toNat : Int) < 97)) (
        gd (0 ≤ v6) <|
        bd v5[v6.toNat]? fun x8 =>
        br (decide ((↑x8.toNat : Int) < 48)) (
          some (v5, v6, true)) <|
        gd (0 ≤ v6) <|
        bd v5[v6.toNat]? fun x9 =>
        some (v5, v6, decide (57 < (↑x9.toNat : Int)))) <|
      gd (0 ≤ v6) <|
      bd v5[v6.toNat]? fun x10 =>
      br (decide (122 < (↑x10.toNat : Int))) (
        gd (0 ≤ v6) <|
        bd v5[v6.toNat]? fun x11 =>
        br (decide ((↑x11.toNat : Int) < 48)) (
          some (v5, v6, true)) <|
        gd (0 ≤ v6) <|
        bd v5[v6.toNat]? fun x12 =>
        some (v5, v6, decide (57 < (↑x12.toNat : Int)))) <|
      some (v5, v6, false)) fun (x13, x14, x15) =>
    br x15 (
      some (.inr (.inr false))) <|
    gd (inK IntKind.i64 (x14 + 1)) <|
    some (.inl (x13, x14 + 1))) <|
  some (.inr (.inl v5))
def pS_WordOk (fuel : Nat) (a1 : ByteArray) : Option Bool :=
  jn (V := ByteArray) (
    loopF (pS_WordOk_b1 fuel) fuel (a1, 0)) fun v3 =>
  bd (α := Bool) (
    br (decide (1 ≤ (↑v3.size : Int))) (
      some (decide ((↑v3.size : Int) ≤ 12))) <|
    some false) fun x4 =>
  some x4
def o147 (fuel : Nat) : Orc := ⟨147, [none], [.S], 0, (.one .B), fun v => pS_WordOk fuel v⟩
theorem c147 : CC o147 := fun hcl fuel => mkc hcl csn T147 fuel Tryz.f147
def T179 : Tab := ⟨[], [(9, false, ⟨[], [.sl 3 (.own .int 700), .sl 11 (.row .iNode), .sl 12 (.I .i64), .sl 13 (.I .i64)]⟩)], [(5, false, ⟨[], [.sl 3 (.own .int 700), .sl 11 (.row .iNode), .sl 12 (.I .i64), .sl 13 (.I .i64)]⟩, 0, ⟨[], [.sl 3 (.own .int 700)]⟩)]⟩
def pS_Leaves_b1 (fuel : Nat) : List Int × List INode × Int × Int → Option ((List Int × List INode × Int × Int) ⊕ (List Int)) := fun (v5, v6, v7, v8) =>
  br (decide (v8 < v7)) (
    bd (α := List Int × List INode × Int × Int) (
      gd (0 ≤ v8 ∧ v8 < (↑v6.length : Int)) <|
      bd v6[v8.toNat]? fun x9 =>
      br (decide (0 < x9.Pane)) (
        gd (roomB K.int (v5 ++ [x9.Pane]).length) <|
        some (v5 ++ [x9.Pane], v6, v7, v8)) <|
      some (v5, v6, v7, v8)) fun (x10, x11, x12, x13) =>
    gd (inK IntKind.i64 (x13 + 1)) <|
    some (.inl (x10, x11, x12, x13 + 1))) <|
  some (.inr v5)
def pS_Leaves (fuel : Nat) (a1 : List INode) : Option (List Int) :=
  bd (pS_TreeOk fuel a1) fun x2 =>
  br (!x2) (
    some []) <|
  bd (α := List Int) (
    loopF (pS_Leaves_b1 fuel) fuel ([], a1, (↑a1.length : Int), 0)) fun x4 =>
  some x4
def o179 (fuel : Nat) : Orc := ⟨179, [none], [.row .iNode], 0, (.one (.own .int 99)), fun v => pS_Leaves fuel v⟩
theorem c179 : CC o179 := fun hcl fuel => mkc hcl (csc (c206 hcl fuel) csn) T179 fuel Tryz.f179
def T92 : Tab := ⟨[(6, ⟨[(1, .ptr 200 0), (5, .ptr 600 0)], [.sto 200 .iState [], .sto 600 .iWin [], .sl 3 (.own .int 1100), .sl 12 (.row .iWin), .sl 13 (.I .i64), .sl 14 (.I .i64), .sl 80 .B]⟩), (13, ⟨[(1, .ptr 200 0), (87, .ref 1100)], [.sto 200 .iState [], .sl 3 (.own .int 1100), .sl 88 (.I .i64), .sl 89 (.I .i64), .sl 104 .B]⟩)], [], [(3, true, ⟨[(1, .ptr 200 0)], [.sto 200 .iState [], .sl 3 (.own .int 1100), .sl 12 (.row .iWin), .sl 13 (.I .i64), .sl 14 (.I .i64)]⟩, 0, ⟨[(1, .ptr 200 0)], [.sto 200 .iState [], .sl 3 (.own .int 1100)]⟩), (11, true, ⟨[(1, .ptr 200 0), (87, .ref 1100)], [.sto 200 .iState [], .sl 3 (.own .int 1100), .sl 88 (.I .i64), .sl 89 (.I .i64)]⟩, 2, ⟨[(1, .ptr 200 0)], [.sto 200 .iState [], .sl 3 (.own .int 1100)]⟩)]⟩
def pS_l14Wins_b2 (fuel : Nat) : IState × List Int × Int × Int → Option ((IState × List Int × Int × Int) ⊕ (IState × List Int ⊕ Bool)) := fun (v33, v34, v35, v36) =>
  br (decide (v36 < v35)) (
    gd (0 ≤ v36 ∧ v36 < (↑v34.length : Int)) <|
    bd (v34[0 + v36.toNat]?) fun x37 =>
    bd (α := IState × List Int × Int × Int × Bool) (
      gd (0 ≤ v36 ∧ v36 ≤ (↑v34.length : Int)) <|
      bd (pS_l02HasInt fuel (viewL false v34 (0 + 0) (v36.toNat - 0)) x37) fun x38 =>
      br x38 (
        some (v33, v34, v35, v36, true)) <|
      bd (pS_PaneAt fuel v33 x37) fun x39 =>
      some (v33, v34, v35, v36, decide (x39 < 0))) fun (x40, x41, x42, x43, x44) =>
    br x44 (
      some (.inr (.inr false))) <|
    gd (inK IntKind.i64 (x43 + 1)) <|
    some (.inl (x40, x41, x42, x43 + 1))) <|
  some (.inr (.inl (v33, v34)))
def pS_l14Wins_b1 (fuel : Nat) : IState × List Int × List IWin × Int × Int → Option ((IState × List Int × List IWin × Int × Int) ⊕ (IState × List Int ⊕ Bool)) := fun (v8, v9, v10, v11, v12) =>
  br (decide (v12 < v11)) (
    gd (0 ≤ v12 ∧ v12 < (↑v10.length : Int)) <|
    bd v10[v12.toNat]? fun x13 =>
    bd (pS_Places fuel x13.Tree v8.W v8.H) fun (x14, x15) =>
    bd (α := IState × IWin × List Int × List IWin × Int × Int × Bool) (
      br (!x15) (
        some (v8, x13, v9, v10, v11, v12, true)) <|
      br (decide (x13.Id < 1)) (
        some (v8, x13, v9, v10, v11, v12, true)) <|
      br (decide (v8.Next ≤ x13.Id)) (
        some (v8, x13, v9, v10, v11, v12, true)) <|
      br (decide (0 < v12)) (
        gd (inK IntKind.i64 (v12 - 1)) <|
        gd (0 ≤ v12 - 1 ∧ v12 - 1 < (↑v8.Wins.length : Int)) <|
        bd (v8.Wins[(v12 - 1).toNat]?) fun x16 =>
        br (decide (x13.Id ≤ x16.Id)) (
          some (v8, x13, v9, v10, v11, v12, true)) <|
        bd (pS_PaneAt fuel v8 x13.Id) fun x17 =>
        br (decide (0 ≤ x17)) (
          some (v8, x13, v9, v10, v11, v12, true)) <|
        bd (pS_WordOk fuel x13.Name) fun x18 =>
        br (!x18) (
          some (v8, x13, v9, v10, v11, v12, true)) <|
        bd (pS_Leaves fuel x13.Tree) fun x19 =>
        bd (pS_l02HasInt fuel x19 x13.Active) fun x20 =>
        some (v8, x13, v9, v10, v11, v12, !x20)) <|
      bd (pS_PaneAt fuel v8 x13.Id) fun x21 =>
      br (decide (0 ≤ x21)) (
        some (v8, x13, v9, v10, v11, v12, true)) <|
      bd (pS_WordOk fuel x13.Name) fun x22 =>
      br (!x22) (
        some (v8, x13, v9, v10, v11, v12, true)) <|
      bd (pS_Leaves fuel x13.Tree) fun x23 =>
      bd (pS_l02HasInt fuel x23 x13.Active) fun x24 =>
      some (v8, x13, v9, v10, v11, v12, !x24)) fun (x25, x26, x27, x28, x29, x30, x31) =>
    br x31 (
      some (.inr (.inr false))) <|
    bd (pS_Leaves fuel x26.Tree) fun x32 =>
    gd (roomB K.int (x27 ++ x32).length) <|
    gd (inK IntKind.i64 (x30 + 1)) <|
    some (.inl (x25, x27 ++ x32, x28, x29, x30 + 1))) <|
  some (.inr (.inl (v8, v9)))
def pS_l14Wins (fuel : Nat) (a1 : IState) : Option Bool :=
  jn (V := IState × List Int) (
    loopF (pS_l14Wins_b1 fuel) fuel (a1, [], a1.Wins, (↑a1.Wins.length : Int), 0)) fun (v3, v4) =>
  jn (V := IState × List Int) (
    loopF (pS_l14Wins_b2 fuel) fuel (v3, v4, (↑v4.length : Int), 0)) fun (v6, v7) =>
  some ((↑v7.length : Int) == (↑v6.Panes.length : Int))
def o92 (fuel : Nat) : Orc := ⟨92, [none], [.st .iState []], 0, (.one .B), fun v => pS_l14Wins fuel v⟩
theorem c92 : CC o92 := fun hcl fuel => mkc hcl (csc (c118 hcl fuel) (csc (c41 hcl fuel) (csc (c147 hcl fuel) (csc (c179 hcl fuel) (csc (c144 hcl fuel) csn))))) T92 fuel Tryz.f92
def T28 : Tab := ⟨[], [], [(2, true, ⟨[], [.sl 1 (.I .i64), .sl 8 (.row .iWin), .sl 9 (.I .i64), .sl 10 (.I .i64)]⟩, 0, ⟨[], []⟩)]⟩
def pS_WinAt_b1 (fuel : Nat) : Int × List IWin × Int × Int → Option ((Int × List IWin × Int × Int) ⊕ (Unit ⊕ Int)) := fun (v4, v5, v6, v7) =>
  br (decide (v7 < v6)) (
    gd (0 ≤ v7 ∧ v7 < (↑v5.length : Int)) <|
    bd v5[v7.toNat]? fun x8 =>
    br (x8.Id == v4) (
      some (.inr (.inr v7))) <|
    gd (inK IntKind.i64 (v7 + 1)) <|
    some (.inl (v4, v5, v6, v7 + 1))) <|
  some (.inr (.inl ()))
def pS_WinAt (fuel : Nat) (a1 : IState) (a2 : Int) : Option Int :=
  jn (V := Unit) (
    loopF (pS_WinAt_b1 fuel) fuel (a2, a1.Wins, (↑a1.Wins.length : Int), 0)) fun _ =>
  some (-1)
def o28 (fuel : Nat) : Orc := ⟨28, [none, none], [.st .iState [], .I .i64], 0, (.one (.I .i64)), fun v => pS_WinAt fuel v.1 v.2⟩
theorem c28 : CC o28 := fun hcl fuel => mkc hcl csn T28 fuel Tryz.f28
def T93 : Tab := ⟨[(5, ⟨[(1, .ptr 200 0), (5, .ptr 600 0)], [.sto 200 .iState [], .sto 600 .iSess [], .sl 3 (.own .int 900), .sl 10 (.row .iSess), .sl 11 (.I .i64), .sl 12 (.I .i64), .sl 36 .B]⟩), (12, ⟨[(1, .ptr 200 0), (42, .ref 900)], [.sto 200 .iState [], .sl 3 (.own .int 900), .sl 43 (.I .i64), .sl 44 (.I .i64), .sl 59 .B]⟩)], [], [(3, true, ⟨[(1, .ptr 200 0)], [.sto 200 .iState [], .sl 3 (.own .int 900), .sl 10 (.row .iSess), .sl 11 (.I .i64), .sl 12 (.I .i64)]⟩, 0, ⟨[(1, .ptr 200 0)], [.sto 200 .iState [], .sl 3 (.own .int 900)]⟩), (10, true, ⟨[(1, .ptr 200 0), (42, .ref 900)], [.sto 200 .iState [], .sl 3 (.own .int 900), .sl 43 (.I .i64), .sl 44 (.I .i64)]⟩, 2, ⟨[(1, .ptr 200 0)], [.sto 200 .iState [], .sl 3 (.own .int 900)]⟩)]⟩
def pS_l14Sess_b2 (fuel : Nat) : IState × List Int × Int × Int → Option ((IState × List Int × Int × Int) ⊕ (IState × List Int ⊕ Bool)) := fun (v24, v25, v26, v27) =>
  br (decide (v27 < v26)) (
    gd (0 ≤ v27 ∧ v27 < (↑v25.length : Int)) <|
    bd (v25[0 + v27.toNat]?) fun x28 =>
    bd (α := IState × List Int × Int × Int × Bool) (
      gd (0 ≤ v27 ∧ v27 ≤ (↑v25.length : Int)) <|
      bd (pS_l02HasInt fuel (viewL false v25 (0 + 0) (v27.toNat - 0)) x28) fun x29 =>
      br x29 (
        some (v24, v25, v26, v27, true)) <|
      bd (pS_WinAt fuel v24 x28) fun x30 =>
      some (v24, v25, v26, v27, decide (x30 < 0))) fun (x31, x32, x33, x34, x35) =>
    br x35 (
      some (.inr (.inr false))) <|
    gd (inK IntKind.i64 (x34 + 1)) <|
    some (.inl (x31, x32, x33, x34 + 1))) <|
  some (.inr (.inl (v24, v25)))
def pS_l14Sess_b1 (fuel : Nat) : IState × List Int × List ISess × Int × Int → Option ((IState × List Int × List ISess × Int × Int) ⊕ (IState × List Int ⊕ Bool)) := fun (v8, v9, v10, v11, v12) =>
  br (decide (v12 < v11)) (
    gd (0 ≤ v12 ∧ v12 < (↑v10.length : Int)) <|
    bd v10[v12.toNat]? fun x13 =>
    bd (α := IState × ISess × List Int × List ISess × Int × Int × Bool) (
      bd (pS_WordOk fuel x13.Name) fun x14 =>
      br (!x14) (
        some (v8, x13, v9, v10, v11, v12, true)) <|
      bd (pS_SessAt fuel v8 x13.Name) fun x15 =>
      br (x15 != v12) (
        some (v8, x13, v9, v10, v11, v12, true)) <|
      bd (pS_l02HasInt fuel x13.Wins x13.Active) fun x16 =>
      some (v8, x13, v9, v10, v11, v12, !x16)) fun (x17, x18, x19, x20, x21, x22, x23) =>
    br x23 (
      some (.inr (.inr false))) <|
    gd (roomB K.int (x19 ++ x18.Wins).length) <|
    gd (inK IntKind.i64 (x22 + 1)) <|
    some (.inl (x17, x19 ++ x18.Wins, x20, x21, x22 + 1))) <|
  some (.inr (.inl (v8, v9)))
def pS_l14Sess (fuel : Nat) (a1 : IState) : Option Bool :=
  jn (V := IState × List Int) (
    loopF (pS_l14Sess_b1 fuel) fuel (a1, [], a1.Sess, (↑a1.Sess.length : Int), 0)) fun (v3, v4) =>
  jn (V := IState × List Int) (
    loopF (pS_l14Sess_b2 fuel) fuel (v3, v4, (↑v4.length : Int), 0)) fun (v6, v7) =>
  some ((↑v7.length : Int) == (↑v6.Wins.length : Int))
def o93 (fuel : Nat) : Orc := ⟨93, [none], [.st .iState []], 0, (.one .B), fun v => pS_l14Sess fuel v⟩
theorem c93 : CC o93 := fun hcl fuel => mkc hcl (csc (c147 hcl fuel) (csc (c25 hcl fuel) (csc (c144 hcl fuel) (csc (c28 hcl fuel) csn)))) T93 fuel Tryz.f93
def T281 : Tab := ⟨[(1, ⟨[], [.sl 2 .B]⟩)], [], []⟩
def pS_Shows (fuel : Nat) (a1 : Int) : Option Bool :=
  bd (α := Bool) (
    br (decide (32 ≤ a1)) (
      br (decide (a1 ≤ 126)) (
        some true) <|
      br (decide (160 ≤ a1)) (
        br (decide (a1 ≤ 65535)) (
          br (decide (a1 < 55296)) (
            some true) <|
          some (decide (57343 < a1))) <|
        some false) <|
      some false) <|
    br (decide (160 ≤ a1)) (
      br (decide (a1 ≤ 65535)) (
        br (decide (a1 < 55296)) (
          some true) <|
        some (decide (57343 < a1))) <|
      some false) <|
    some false) fun x2 =>
  some x2
def o281 (fuel : Nat) : Orc := ⟨281, [none], [.I .i64], 0, (.one .B), fun v => pS_Shows fuel v⟩
theorem c281 : CC o281 := fun hcl fuel => mkc hcl csn T281 fuel Tryz.f281
def T282 : Tab := ⟨[(1, ⟨[], [.sl 2 .B]⟩)], [], []⟩
def pS_AttrOk (fuel : Nat) (a1 : IAttr) : Option Bool :=
  bd (α := Bool) (
    br (decide (0 ≤ a1.Fg)) (
      br (decide (a1.Fg ≤ 8)) (
        br (decide (0 ≤ a1.Bg)) (
          some (decide (a1.Bg ≤ 8))) <|
        some false) <|
      some false) <|
    some false) fun x2 =>
  some x2
def o282 (fuel : Nat) : Orc := ⟨282, [none], [.st .iAttr []], 0, (.one .B), fun v => pS_AttrOk fuel v⟩
theorem c282 : CC o282 := fun hcl fuel => mkc hcl csn T282 fuel Tryz.f282
def T198 : Tab := ⟨[(1, ⟨[], [.sl 2 .B]⟩)], [], []⟩
def pS_CellOk (fuel : Nat) (a1 : ICell) : Option Bool :=
  bd (α := Bool) (
    bd (pS_Shows fuel a1.R) fun x2 =>
    br x2 (
      bd (pS_AttrOk fuel a1.A) fun x3 =>
      some x3) <|
    some false) fun x4 =>
  some x4
def o198 (fuel : Nat) : Orc := ⟨198, [none], [.st .iCell []], 0, (.one .B), fun v => pS_CellOk fuel v⟩
theorem c198 : CC o198 := fun hcl fuel => mkc hcl (csc (c281 hcl fuel) (csc (c282 hcl fuel) csn)) T198 fuel Tryz.f198
def T113 : Tab := ⟨[(1, ⟨[(1, .ptr 200 0)], [.sto 200 .iGrid [], .sl 41 .B]⟩)], [], [(4, true, ⟨[], [.sl 43 (.row .iCell), .sl 44 (.I .i64), .sl 45 (.I .i64)]⟩, 0, ⟨[], []⟩)]⟩
def pS_GridOk_b1 (fuel : Nat) : List ICell × Int × Int → Option ((List ICell × Int × Int) ⊕ (Unit ⊕ Bool)) := fun (v5, v6, v7) =>
  br (decide (v7 < v6)) (
    gd (0 ≤ v7 ∧ v7 < (↑v5.length : Int)) <|
    bd v5[v7.toNat]? fun x8 =>
    bd (pS_CellOk fuel x8) fun x9 =>
    br (!x9) (
      some (.inr (.inr false))) <|
    gd (inK IntKind.i64 (v7 + 1)) <|
    some (.inl (v5, v6, v7 + 1))) <|
  some (.inr (.inl ()))
def pS_GridOk (fuel : Nat) (a1 : IGrid) : Option Bool :=
  bd (α := IGrid × Bool) (
    br (decide (a1.W < 1)) (
      some (a1, true)) <|
    br (decide (120 < a1.W)) (
      some (a1, true)) <|
    br (decide (a1.H < 1)) (
      some (a1, true)) <|
    br (decide (120 < a1.H)) (
      some (a1, true)) <|
    gd (inK IntKind.i64 (a1.W * a1.H)) <|
    br (decide (4000 < a1.W * a1.H)) (
      some (a1, true)) <|
    gd (inK IntKind.i64 (a1.W * a1.H)) <|
    some (a1, (↑a1.Cells.length : Int) != a1.W * a1.H)) fun (x2, x3) =>
  br x3 (
    some false) <|
  jn (V := Unit) (
    loopF (pS_GridOk_b1 fuel) fuel (x2.Cells, (↑x2.Cells.length : Int), 0)) fun _ =>
  some true
def o113 (fuel : Nat) : Orc := ⟨113, [none], [.st .iGrid []], 0, (.one .B), fun v => pS_GridOk fuel v⟩
theorem c113 : CC o113 := fun hcl fuel => mkc hcl (csc (c198 hcl fuel) csn) T113 fuel Tryz.f113
def T283 : Tab := ⟨[(7, ⟨[], [.sl 2 .B]⟩)], [], [(2, true, ⟨[(1, .ptr 200 0)], [.sto 200 .iRow [], .sl 6 (.row .iCell), .sl 7 (.I .i64), .sl 8 (.I .i64)]⟩, 0, ⟨[(1, .ptr 200 0)], [.sto 200 .iRow []]⟩)]⟩
def pS_l09Row_b1 (fuel : Nat) : IRow × List ICell × Int × Int → Option ((IRow × List ICell × Int × Int) ⊕ (IRow ⊕ Bool)) := fun (v5, v6, v7, v8) =>
  br (decide (v8 < v7)) (
    gd (0 ≤ v8 ∧ v8 < (↑v6.length : Int)) <|
    bd v6[v8.toNat]? fun x9 =>
    bd (pS_CellOk fuel x9) fun x10 =>
    br (!x10) (
      some (.inr (.inr false))) <|
    gd (inK IntKind.i64 (v8 + 1)) <|
    some (.inl (v5, v6, v7, v8 + 1))) <|
  some (.inr (.inl v5))
def pS_l09Row (fuel : Nat) (a1 : IRow) : Option Bool :=
  jn (V := IRow) (
    loopF (pS_l09Row_b1 fuel) fuel (a1, a1.Cells, (↑a1.Cells.length : Int), 0)) fun v3 =>
  bd (α := Bool) (
    br (decide (1 ≤ (↑v3.Cells.length : Int))) (
      some (decide ((↑v3.Cells.length : Int) ≤ 120))) <|
    some false) fun x4 =>
  some x4
def o283 (fuel : Nat) : Orc := ⟨283, [none], [.st .iRow []], 0, (.one .B), fun v => pS_l09Row fuel v⟩
theorem c283 : CC o283 := fun hcl fuel => mkc hcl (csc (c198 hcl fuel) csn) T283 fuel Tryz.f283
def T199 : Tab := ⟨[(1, ⟨[(1, .ptr 200 0)], [.sto 200 .iScr [], .sl 48 .B]⟩), (3, ⟨[(1, .ptr 200 0)], [.sto 200 .iScr [], .sl 118 .B]⟩), (5, ⟨[(1, .ptr 200 0)], [.sto 200 .iScr [], .sl 165 .B]⟩), (10, ⟨[(1, .ptr 200 0)], [.sto 200 .iScr [], .sl 167 (.row .int), .sl 168 (.I .i64), .sl 169 (.I .i64), .sl 195 .B]⟩)], [], [(8, true, ⟨[(1, .ptr 200 0)], [.sto 200 .iScr [], .sl 167 (.row .int), .sl 168 (.I .i64), .sl 169 (.I .i64)]⟩, 0, ⟨[(1, .ptr 200 0)], [.sto 200 .iScr []]⟩), (14, true, ⟨[], [.sl 198 (.row .iRow), .sl 199 (.I .i64), .sl 200 (.I .i64)]⟩, 2, ⟨[], []⟩)]⟩
def pS_ScrOk_b2 (fuel : Nat) : List IRow × Int × Int → Option ((List IRow × Int × Int) ⊕ (Unit ⊕ Bool)) := fun (v28, v29, v30) =>
  br (decide (v30 < v29)) (
    gd (0 ≤ v30 ∧ v30 < (↑v28.length : Int)) <|
    bd v28[v30.toNat]? fun x31 =>
    bd (pS_l09Row fuel x31) fun x32 =>
    br (!x32) (
      some (.inr (.inr false))) <|
    gd (inK IntKind.i64 (v30 + 1)) <|
    some (.inl (v28, v29, v30 + 1))) <|
  some (.inr (.inl ()))
def pS_ScrOk_b1 (fuel : Nat) : IScr × List Int × Int × Int → Option ((IScr × List Int × Int × Int) ⊕ (IScr ⊕ Bool)) := fun (v17, v18, v19, v20) =>
  br (decide (v20 < v19)) (
    gd (0 ≤ v20 ∧ v20 < (↑v18.length : Int)) <|
    bd v18[v20.toNat]? fun x21 =>
    bd (α := IScr × List Int × Int × Int × Bool) (
      br (decide (x21 < 0)) (
        some (v17, v18, v19, v20, true)) <|
      br (decide (v17.W ≤ x21)) (
        some (v17, v18, v19, v20, true)) <|
      br (decide (0 < v20)) (
        gd (inK IntKind.i64 (v20 - 1)) <|
        gd (0 ≤ v20 - 1 ∧ v20 - 1 < (↑v17.Tabs.length : Int)) <|
        bd (v17.Tabs[(v20 - 1).toNat]?) fun x22 =>
        some (v17, v18, v19, v20, decide (x21 ≤ x22))) <|
      some (v17, v18, v19, v20, false)) fun (x23, x24, x25, x26, x27) =>
    br x27 (
      some (.inr (.inr false))) <|
    gd (inK IntKind.i64 (x26 + 1)) <|
    some (.inl (x23, x24, x25, x26 + 1))) <|
  some (.inr (.inl v17))
def pS_ScrOk (fuel : Nat) (a1 : IScr) : Option Bool :=
  bd (α := IScr × Bool) (
    bd (pS_GridOk fuel a1.Main) fun x2 =>
    br (!x2) (
      some (a1, true)) <|
    bd (pS_GridOk fuel a1.Alt) fun x3 =>
    br (!x3) (
      some (a1, true)) <|
    br (a1.Main.W != a1.W) (
      some (a1, true)) <|
    br (a1.Main.H != a1.H) (
      some (a1, true)) <|
    br (a1.Alt.W != a1.W) (
      some (a1, true)) <|
    some (a1, a1.Alt.H != a1.H)) fun (x4, x5) =>
  br x5 (
    some false) <|
  bd (α := IScr × Bool) (
    br (decide (x4.X < 0)) (
      some (x4, true)) <|
    br (decide (x4.W ≤ x4.X)) (
      some (x4, true)) <|
    br (decide (x4.Y < 0)) (
      some (x4, true)) <|
    br (decide (x4.H ≤ x4.Y)) (
      some (x4, true)) <|
    br x4.Wrap (
      gd (inK IntKind.i64 (x4.W - 1)) <|
      br (x4.X != x4.W - 1) (
        some (x4, true)) <|
      br (decide (x4.SaveX < 0)) (
        some (x4, true)) <|
      br (decide (x4.W ≤ x4.SaveX)) (
        some (x4, true)) <|
      br (decide (x4.SaveY < 0)) (
        some (x4, true)) <|
      br (decide (x4.H ≤ x4.SaveY)) (
        some (x4, true)) <|
      bd (pS_AttrOk fuel x4.A) fun x6 =>
      br (!x6) (
        some (x4, true)) <|
      bd (pS_AttrOk fuel x4.SaveA) fun x7 =>
      some (x4, !x7)) <|
    br (decide (x4.SaveX < 0)) (
      some (x4, true)) <|
    br (decide (x4.W ≤ x4.SaveX)) (
      some (x4, true)) <|
    br (decide (x4.SaveY < 0)) (
      some (x4, true)) <|
    br (decide (x4.H ≤ x4.SaveY)) (
      some (x4, true)) <|
    bd (pS_AttrOk fuel x4.A) fun x8 =>
    br (!x8) (
      some (x4, true)) <|
    bd (pS_AttrOk fuel x4.SaveA) fun x9 =>
    some (x4, !x9)) fun (x10, x11) =>
  br x11 (
    some false) <|
  bd (α := IScr × Bool) (
    br (decide (x10.Top < 0)) (
      some (x10, true)) <|
    br (decide (x10.H ≤ x10.Bot)) (
      some (x10, true)) <|
    br (decide (x10.Bot < x10.Top)) (
      some (x10, true)) <|
    br (x10.Top == x10.Bot) (
      br (x10.H != 1) (
        some (x10, true)) <|
      br (decide (x10.Limit < 0)) (
        some (x10, true)) <|
      br (decide (100 < x10.Limit)) (
        some (x10, true)) <|
      some (x10, decide (x10.Limit < (↑x10.Back.length : Int)))) <|
    br (decide (x10.Limit < 0)) (
      some (x10, true)) <|
    br (decide (100 < x10.Limit)) (
      some (x10, true)) <|
    some (x10, decide (x10.Limit < (↑x10.Back.length : Int)))) fun (x12, x13) =>
  br x13 (
    some false) <|
  jn (V := IScr) (
    loopF (pS_ScrOk_b1 fuel) fuel (x12, x12.Tabs, (↑x12.Tabs.length : Int), 0)) fun v15 =>
  jn (V := Unit) (
    loopF (pS_ScrOk_b2 fuel) fuel (v15.Back, (↑v15.Back.length : Int), 0)) fun _ =>
  some true
def o199 (fuel : Nat) : Orc := ⟨199, [none], [.st .iScr []], 0, (.one .B), fun v => pS_ScrOk fuel v⟩
theorem c199 : CC o199 := fun hcl fuel => mkc hcl (csc (c113 hcl fuel) (csc (c282 hcl fuel) (csc (c283 hcl fuel) csn))) T199 fuel Tryz.f199
def T338 : Tab := ⟨[(1, ⟨[], [.sl 2 .B]⟩)], [], []⟩
def pS_l08Keeps (fuel : Nat) (a1 : Int) : Option Bool :=
  bd (α := Bool) (
    br (a1 == 2) (
      some true) <|
    some (a1 == 3)) fun x2 =>
  some x2
def o338 (fuel : Nat) : Orc := ⟨338, [none], [.I .i64], 0, (.one .B), fun v => pS_l08Keeps fuel v⟩
theorem c338 : CC o338 := fun hcl fuel => mkc hcl csn T338 fuel Tryz.f338
def T378 : Tab := ⟨[], [], []⟩
def pS_RuneBytes (fuel : Nat) (a1 : Int) : Option (List UInt8) :=
  bd (pS_Shows fuel a1) fun x2 =>
  br (!x2) (
    some []) <|
  br (decide (a1 < 128)) (
    some ([UInt8.ofNat (IntKind.u8.wrap a1).toNat])) <|
  br (decide (a1 < 2048)) (
    gd ((64 : Int) ≠ (0 : Int)) <|
    gd (inK IntKind.i64 (a1.tdiv 64)) <|
    gd (inK IntKind.i64 (192 + a1.tdiv 64)) <|
    gd ((64 : Int) ≠ (0 : Int)) <|
    gd (inK IntKind.i64 (128 + a1.tmod 64)) <|
    some ([UInt8.ofNat (IntKind.u8.wrap (192 + a1.tdiv 64)).toNat, UInt8.ofNat (IntKind.u8.wrap (128 + a1.tmod 64)).toNat])) <|
  gd ((4096 : Int) ≠ (0 : Int)) <|
  gd (inK IntKind.i64 (a1.tdiv 4096)) <|
  gd (inK IntKind.i64 (224 + a1.tdiv 4096)) <|
  gd ((64 : Int) ≠ (0 : Int)) <|
  gd (inK IntKind.i64 (a1.tdiv 64)) <|
  gd ((64 : Int) ≠ (0 : Int)) <|
  gd (inK IntKind.i64 (128 + (a1.tdiv 64).tmod 64)) <|
  gd ((64 : Int) ≠ (0 : Int)) <|
  gd (inK IntKind.i64 (128 + a1.tmod 64)) <|
  some ([UInt8.ofNat (IntKind.u8.wrap (224 + a1.tdiv 4096)).toNat, UInt8.ofNat (IntKind.u8.wrap (128 + (a1.tdiv 64).tmod 64)).toNat, UInt8.ofNat (IntKind.u8.wrap (128 + a1.tmod 64)).toNat])
def o378 (fuel : Nat) : Orc := ⟨378, [none], [.I .i64], 0, (.one (.own .u8 99)), fun v => pS_RuneBytes fuel v⟩
theorem c378 : CC o378 := fun hcl fuel => mkc hcl (csc (c281 hcl fuel) csn) T378 fuel Tryz.f378
def T363 : Tab := ⟨[(1, ⟨[], [.sl 0 (.row .u8), .sl 1 (.I .i64), .sl 17 .B]⟩), (4, ⟨[], [.sl 0 (.row .u8), .sl 1 (.I .i64), .sl 6 (.I .i64), .sl 27 .B]⟩), (12, ⟨[], [.sl 0 (.row .u8), .sl 1 (.I .i64), .sl 6 (.I .i64), .sl 7 (.I .i64), .sl 73 .B]⟩)], [], [(8, false, ⟨[], [.sl 0 (.row .u8), .sl 1 (.I .i64), .sl 6 (.I .i64), .sl 7 (.I .i64), .sl 8 (.I .i64)]⟩, 2, ⟨[], [.sl 0 (.row .u8), .sl 1 (.I .i64), .sl 6 (.I .i64), .sl 7 (.I .i64)]⟩), (4, true, ⟨[], [.sl 0 (.row .u8), .sl 1 (.I .i64), .sl 6 (.I .i64)]⟩, 0, ⟨[], []⟩)]⟩
def pS_RuneRead_b2 (fuel : Nat) : List UInt8 × Int × Int × Int × Int → Option ((List UInt8 × Int × Int × Int × Int) ⊕ (List UInt8 × Int × Int × Int)) := fun (v27, v28, v29, v30, v31) =>
  br (decide (v31 < v29)) (
    gd (inK IntKind.i64 (v30 * 64)) <|
    gd (inK IntKind.i64 (v28 + v31)) <|
    gd (0 ≤ v28 + v31 ∧ v28 + v31 < (↑v27.length : Int)) <|
    bd (v27[(v28 + v31).toNat]?) fun x32 =>
    gd (inK IntKind.i64 (v30 * 64 + (↑x32.toNat : Int))) <|
    gd (inK IntKind.i64 (v30 * 64 + (↑x32.toNat : Int) - 128)) <|
    gd (inK IntKind.i64 (v31 + 1)) <|
    some (.inl (v27, v28, v29, v30 * 64 + (↑x32.toNat : Int) - 128, v31 + 1))) <|
  some (.inr (v27, v28, v29, v30))
def pS_RuneRead_b1 (fuel : Nat) : List UInt8 × Int × Int → Option ((List UInt8 × Int × Int) ⊕ (Unit ⊕ Int × Int)) := fun (v7, v8, v9) =>
  bd (α := List UInt8 × Int × Int × Bool) (
    br (decide (v9 ≤ 3)) (
      gd (inK IntKind.i64 ((↑v7.length : Int) - v8)) <|
      some (v7, v8, v9, decide (v9 ≤ (↑v7.length : Int) - v8))) <|
    some (v7, v8, v9, false)) fun (x10, x11, x12, x13) =>
  br x13 (
    gd (0 ≤ x11 ∧ x11 < (↑x10.length : Int)) <|
    bd x10[x11.toNat]? fun x14 =>
    gd (0 ≤ x12 ∧ x12 < (↑4 : Int)) <|
    bd ([0, 0, 192, 224][0 + x12.toNat]?) fun x15 =>
    gd (inK IntKind.i64 ((↑x14.toNat : Int) - x15)) <|
    bd (α := List UInt8 × Int × Int × Int) (
      loopF (pS_RuneRead_b2 fuel) fuel (x10, x11, x12, (↑x14.toNat : Int) - x15, 1)) fun (x17, x18, x19, x20) =>
    bd (pS_RuneBytes fuel x20) fun x21 =>
    bd (α := List UInt8 × Int × Int × Int × Bool) (
      br ((↑x21.length : Int) == x19) (
        gd (inK IntKind.i64 (x18 + x19)) <|
        gd (0 ≤ x18 + x19 ∧ x18 + x19 ≤ (↑x17.length : Int)) <|
        gd (0 ≤ x18 ∧ x18 ≤ (↑(x18 + x19).toNat : Int)) <|
        some (x17, x18, x19, x20, decide (ByteArray.mk x21.toArray = ByteArray.mk (List.drop x18.toNat (List.take (x18 + x19).toNat x17)).toArray))) <|
      some (x17, x18, x19, x20, false)) fun (x22, x23, x24, x25, x26) =>
    br x26 (
      some (.inr (.inr (x25, x24)))) <|
    gd (inK IntKind.i64 (x24 + 1)) <|
    some (.inl (x22, x23, x24 + 1))) <|
  some (.inr (.inl ()))
def pS_RuneRead (fuel : Nat) (a1 : List UInt8) (a2 : Int) : Option (Int × Int) :=
  bd (α := List UInt8 × Int × Bool) (
    br (decide (a2 < 0)) (
      some (a1, a2, true)) <|
    some (a1, a2, decide ((↑a1.length : Int) ≤ a2))) fun (x3, x4, x5) =>
  br x5 (
    some (0, 0)) <|
  jn (V := Unit) (
    loopF (pS_RuneRead_b1 fuel) fuel (x3, x4, 1)) fun _ =>
  some (0, 0)
def o363 (fuel : Nat) : Orc := ⟨363, [none, none], [.row .u8, .I .i64], 0, (.tup [.I .i64, .I .i64]), fun v => pS_RuneRead fuel v.1 v.2⟩
theorem c363 : CC o363 := fun hcl fuel => mkc hcl (csc (c378 hcl fuel) csn) T363 fuel Tryz.f363
def T339 : Tab := ⟨[(1, ⟨[], [.sl 0 (.row .u8), .sl 17 .B]⟩)], [(5, true, ⟨[], [.sl 0 (.row .u8), .sl 3 (.I .i64)]⟩)], [(4, true, ⟨[], [.sl 0 (.row .u8), .sl 3 (.I .i64)]⟩, 0, ⟨[], []⟩)]⟩
def pS_RuneBegin_b1 (fuel : Nat) : List UInt8 × Int → Option ((List UInt8 × Int) ⊕ (Unit ⊕ Bool)) := fun (v5, v6) =>
  br (decide (v6 < 192)) (
    jn (V := List UInt8 × Int) (
      gd (roomB K.u8 ([] ++ v5).length) <|
      gd (roomB K.u8 ([] ++ v5 ++ [UInt8.ofNat (IntKind.u8.wrap v6).toNat]).length) <|
      bd (pS_RuneRead fuel ([] ++ v5 ++ [UInt8.ofNat (IntKind.u8.wrap v6).toNat]) 0) fun (x7, x8) =>
      br (x8 == (↑([] ++ v5 ++ [UInt8.ofNat (IntKind.u8.wrap v6).toNat]).length : Int)) (
        some (.inr (.inr (.inr true)))) <|
      br ((↑v5.length : Int) == 1) (
        gd (roomB K.u8 ([] ++ ([] ++ v5 ++ [UInt8.ofNat (IntKind.u8.wrap v6).toNat])).length) <|
        gd (roomB K.u8 ([] ++ ([] ++ v5 ++ [UInt8.ofNat (IntKind.u8.wrap v6).toNat]) ++ [UInt8.ofNat (Int.toNat 129)]).length) <|
        bd (pS_RuneRead fuel ([] ++ ([] ++ v5 ++ [UInt8.ofNat (IntKind.u8.wrap v6).toNat]) ++ [UInt8.ofNat (Int.toNat 129)]) 0) fun (x9, x10) =>
        br (x10 == 3) (
          some (.inr (.inr (.inr true)))) <|
        some (.inl (v5, v6))) <|
      some (.inl (v5, v6))) fun (v11, v12) =>
    gd (inK IntKind.i64 (v12 + 1)) <|
    some (.inl (v11, v12 + 1))) <|
  some (.inr (.inl ()))
def pS_RuneBegin (fuel : Nat) (a1 : List UInt8) : Option Bool :=
  bd (α := List UInt8 × Bool) (
    br (decide ((↑a1.length : Int) < 1)) (
      some (a1, true)) <|
    some (a1, decide (2 < (↑a1.length : Int)))) fun (x2, x3) =>
  br x3 (
    some false) <|
  jn (V := Unit) (
    loopF (pS_RuneBegin_b1 fuel) fuel (x2, 128)) fun _ =>
  some false
def o339 (fuel : Nat) : Orc := ⟨339, [none], [.row .u8], 0, (.one .B), fun v => pS_RuneBegin fuel v⟩
theorem c339 : CC o339 := fun hcl fuel => mkc hcl (csc (c363 hcl fuel) csn) T339 fuel Tryz.f339
def T303 : Tab := ⟨[(1, ⟨[(1, .ptr 200 0)], [.sto 200 .iVp [], .sl 34 .B]⟩), (6, ⟨[(1, .ptr 200 0)], [.sto 200 .iVp [], .sl 36 (.row .int), .sl 37 (.I .i64), .sl 38 (.I .i64), .sl 47 .B]⟩), (9, ⟨[], [.sl 2 .B]⟩)], [], [(4, true, ⟨[(1, .ptr 200 0)], [.sto 200 .iVp [], .sl 36 (.row .int), .sl 37 (.I .i64), .sl 38 (.I .i64)]⟩, 0, ⟨[(1, .ptr 200 0)], [.sto 200 .iVp []]⟩)]⟩
def pS_VpOk_b1 (fuel : Nat) : IVp × List Int × Int × Int → Option ((IVp × List Int × Int × Int) ⊕ (IVp ⊕ Bool)) := fun (v9, v10, v11, v12) =>
  br (decide (v12 < v11)) (
    gd (0 ≤ v12 ∧ v12 < (↑v10.length : Int)) <|
    bd v10[v12.toNat]? fun x13 =>
    bd (α := IVp × List Int × Int × Int × Bool) (
      br (decide (x13 < 0)) (
        some (v9, v10, v11, v12, true)) <|
      some (v9, v10, v11, v12, decide (9999 < x13))) fun (x14, x15, x16, x17, x18) =>
    br x18 (
      some (.inr (.inr false))) <|
    gd (inK IntKind.i64 (x17 + 1)) <|
    some (.inl (x14, x15, x16, x17 + 1))) <|
  some (.inr (.inl v9))
def pS_VpOk (fuel : Nat) (a1 : IVp) : Option Bool :=
  bd (α := IVp × Bool) (
    br (decide (a1.State < 0)) (
      some (a1, true)) <|
    br (decide (3 < a1.State)) (
      some (a1, true)) <|
    br (decide (8 < (↑a1.Args.length : Int))) (
      some (a1, true)) <|
    bd (pS_l08Keeps fuel a1.State) fun x2 =>
    br (!x2) (
      br a1.Mark (
        some (a1, true)) <|
      some (a1, decide (0 < (↑a1.Args.length : Int)))) <|
    some (a1, false)) fun (x3, x4) =>
  br x4 (
    some false) <|
  jn (V := IVp) (
    loopF (pS_VpOk_b1 fuel) fuel (x3, x3.Args, (↑x3.Args.length : Int), 0)) fun v6 =>
  bd (α := Bool) (
    br ((↑v6.Part.length : Int) == 0) (
      some true) <|
    br (v6.State == 0) (
      bd (pS_RuneBegin fuel v6.Part) fun x7 =>
      some x7) <|
    some false) fun x8 =>
  some x8
def o303 (fuel : Nat) : Orc := ⟨303, [none], [.st .iVp []], 0, (.one .B), fun v => pS_VpOk fuel v⟩
theorem c303 : CC o303 := fun hcl fuel => mkc hcl (csc (c338 hcl fuel) (csc (c339 hcl fuel) csn)) T303 fuel Tryz.f303
def T262 : Tab := ⟨[(1, ⟨[], [.sl 2 .B]⟩)], [], []⟩
def pS_TermOk (fuel : Nat) (a1 : ITerm) : Option Bool :=
  bd (α := Bool) (
    bd (pS_VpOk fuel a1.P) fun x2 =>
    br x2 (
      bd (pS_ScrOk fuel a1.S) fun x3 =>
      some x3) <|
    some false) fun x4 =>
  some x4
def o262 (fuel : Nat) : Orc := ⟨262, [none], [.st .iTerm []], 0, (.one .B), fun v => pS_TermOk fuel v⟩
theorem c262 : CC o262 := fun hcl fuel => mkc hcl (csc (c303 hcl fuel) (csc (c199 hcl fuel) csn)) T262 fuel Tryz.f262
def T180 : Tab := ⟨[(1, ⟨[(1, .ptr 200 0)], [.sto 200 .iPane [], .sl 28 .B]⟩), (5, ⟨[], [.sl 2 .B]⟩), (7, ⟨[], [.sl 2 .B]⟩), (9, ⟨[], [.sl 2 .B]⟩)], [], []⟩
def pS_PaneOk (fuel : Nat) (a1 : IPane) : Option Bool :=
  bd (α := IPane × Bool) (
    br (decide (a1.Id < 1)) (
      some (a1, true)) <|
    br (decide (1000000 < a1.Id)) (
      some (a1, true)) <|
    br (decide (60 < (↑a1.Cmd.size : Int))) (
      some (a1, true)) <|
    br (decide (60 < (↑a1.Dir.size : Int))) (
      some (a1, true)) <|
    bd (pS_TermOk fuel a1.Term) fun x2 =>
    some (a1, !x2)) fun (x3, x4) =>
  br x4 (
    some false) <|
  br (x3.Life == 1) (
    bd (α := Bool) (
      br (decide (1 ≤ x3.Pid)) (
        br (decide (x3.Pid ≤ 1000000)) (
          some (x3.Code == 0)) <|
        some false) <|
      some false) fun x5 =>
    some x5) <|
  br (x3.Life == 2) (
    bd (α := Bool) (
      br (x3.Pid == 0) (
        br (decide (0 ≤ x3.Code)) (
          some (decide (x3.Code ≤ 255))) <|
        some false) <|
      some false) fun x6 =>
    some x6) <|
  br (x3.Life == 3) (
    bd (α := Bool) (
      br (x3.Pid == 0) (
        some (x3.Code == 0)) <|
      some false) fun x7 =>
    some x7) <|
  some false
def o180 (fuel : Nat) : Orc := ⟨180, [none], [.st .iPane []], 0, (.one .B), fun v => pS_PaneOk fuel v⟩
theorem c180 : CC o180 := fun hcl fuel => mkc hcl (csc (c262 hcl fuel) csn) T180 fuel Tryz.f180
def T42 : Tab := ⟨[], [], [(3, true, ⟨[(8, .ptr 900 0)], [.sto 900 .iRect [], .sl 3 (.I .i64), .sl 21 (.own .iRect 19000000), .sl 22 (.I .i64), .sl 23 (.I .i64)]⟩, 0, ⟨[(8, .ptr 900 0)], [.sto 900 .iRect []]⟩)]⟩
def pS_PlaceOf_b1 (fuel : Nat) : IRect × Int × List IRect × Int × Int → Option ((IRect × Int × List IRect × Int × Int) ⊕ (IRect ⊕ IRect × Bool)) := fun (v9, v10, v11, v12, v13) =>
  br (decide (v13 < v12)) (
    gd (0 ≤ v13 ∧ v13 < (↑v11.length : Int)) <|
    bd (v11[0 + v13.toNat]?) fun x14 =>
    br (x14.Pane == v10) (
      some (.inr (.inr (x14, true)))) <|
    gd (inK IntKind.i64 (v13 + 1)) <|
    some (.inl (v9, v10, v11, v12, v13 + 1))) <|
  some (.inr (.inl v9))
def pS_PlaceOf (fuel : Nat) (a1 : List INode) (a2 : Int) (a3 : Int) (a4 : Int) : Option (IRect × Bool) :=
  bd (pS_Places fuel a1 a2 a3) fun (x5, x6) =>
  jn (V := IRect) (
    loopF (pS_PlaceOf_b1 fuel) fuel (IRect.mk 0 0 0 0 0, a4, x5, (↑x5.length : Int), 0)) fun v8 =>
  some (IRect.mk 0 0 0 0 0, false)
def o42 (fuel : Nat) : Orc := ⟨42, [none, none, none, none], [.row .iNode, .I .i64, .I .i64, .I .i64], 0, (.tup [.st .iRect [], .B]), fun v => pS_PlaceOf fuel v.1 v.2.1 v.2.2.1 v.2.2.2⟩
theorem c42 : CC o42 := fun hcl fuel => mkc hcl (csc (c118 hcl fuel) csn) T42 fuel Tryz.f42
def T263 : Tab := ⟨[], [], [(2, true, ⟨[], [.sl 1 (.I .i64), .sl 8 (.row .iWin), .sl 9 (.I .i64), .sl 10 (.I .i64)]⟩, 0, ⟨[], []⟩)]⟩
def pS_WinOf_b1 (fuel : Nat) : Int × List IWin × Int × Int → Option ((Int × List IWin × Int × Int) ⊕ (Unit ⊕ Int)) := fun (v4, v5, v6, v7) =>
  br (decide (v7 < v6)) (
    gd (0 ≤ v7 ∧ v7 < (↑v5.length : Int)) <|
    bd v5[v7.toNat]? fun x8 =>
    bd (pS_Leaves fuel x8.Tree) fun x9 =>
    bd (pS_l02HasInt fuel x9 v4) fun x10 =>
    br x10 (
      some (.inr (.inr v7))) <|
    gd (inK IntKind.i64 (v7 + 1)) <|
    some (.inl (v4, v5, v6, v7 + 1))) <|
  some (.inr (.inl ()))
def pS_WinOf (fuel : Nat) (a1 : IState) (a2 : Int) : Option Int :=
  jn (V := Unit) (
    loopF (pS_WinOf_b1 fuel) fuel (a2, a1.Wins, (↑a1.Wins.length : Int), 0)) fun _ =>
  some (-1)
def o263 (fuel : Nat) : Orc := ⟨263, [none, none], [.st .iState [], .I .i64], 0, (.one (.I .i64)), fun v => pS_WinOf fuel v.1 v.2⟩
theorem c263 : CC o263 := fun hcl fuel => mkc hcl (csc (c179 hcl fuel) (csc (c144 hcl fuel) csn)) T263 fuel Tryz.f263
def T181 : Tab := ⟨[(5, ⟨[(2, .ptr 300 0), (7, .ptr 800 0)], [.sto 300 .iState [], .sto 800 .iWin [], .sl 1 (.I .i64), .sl 27 .B]⟩)], [], []⟩
def pS_Area (fuel : Nat) (a1 : IState) (a2 : Int) : Option (Int × Int) :=
  bd (pS_WinOf fuel a1 a2) fun x3 =>
  br (decide (x3 < 0)) (
    some (0, 0)) <|
  gd (0 ≤ x3 ∧ x3 < (↑a1.Wins.length : Int)) <|
  bd a1.Wins[x3.toNat]? fun x4 =>
  bd (α := IState × IWin × Int × Bool) (
    br x4.Zoom (
      some (a1, x4, a2, x4.Active == a2)) <|
    some (a1, x4, a2, false)) fun (x5, x6, x7, x8) =>
  br x8 (
    some (x5.W, x5.H)) <|
  bd (pS_PlaceOf fuel x6.Tree x5.W x5.H x7) fun (x9, x10) =>
  some (x9.W, x9.H)
def o181 (fuel : Nat) : Orc := ⟨181, [none, none], [.st .iState [], .I .i64], 0, (.tup [.I .i64, .I .i64]), fun v => pS_Area fuel v.1 v.2⟩
theorem c181 : CC o181 := fun hcl fuel => mkc hcl (csc (c263 hcl fuel) (csc (c42 hcl fuel) csn)) T181 fuel Tryz.f181
def T94 : Tab := ⟨[(5, ⟨[(1, .ptr 200 0), (5, .ptr 600 0)], [.sto 200 .iState [], .sto 600 .iPane [], .sl 3 (.own .int 900), .sl 10 (.row .iPane), .sl 11 (.I .i64), .sl 12 (.I .i64), .sl 42 .B]⟩), (8, ⟨[(1, .ptr 200 0), (5, .ptr 600 0)], [.sto 200 .iState [], .sto 600 .iPane [], .sl 3 (.own .int 900), .sl 10 (.row .iPane), .sl 11 (.I .i64), .sl 12 (.I .i64), .sl 72 .B]⟩), (10, ⟨[(1, .ptr 200 0), (5, .ptr 600 0)], [.sto 200 .iState [], .sto 600 .iPane [], .sl 3 (.own .int 900), .sl 10 (.row .iPane), .sl 11 (.I .i64), .sl 12 (.I .i64), .sl 81 .B]⟩)], [(14, true, ⟨[(1, .ptr 200 0)], [.sto 200 .iState [], .sl 3 (.own .int 900), .sl 10 (.row .iPane), .sl 11 (.I .i64), .sl 12 (.I .i64)]⟩)], [(3, true, ⟨[(1, .ptr 200 0)], [.sto 200 .iState [], .sl 3 (.own .int 900), .sl 10 (.row .iPane), .sl 11 (.I .i64), .sl 12 (.I .i64)]⟩, 0, ⟨[], []⟩)]⟩
def pS_l14Panes_b1 (fuel : Nat) : IState × List Int × List IPane × Int × Int → Option ((IState × List Int × List IPane × Int × Int) ⊕ (Unit ⊕ Bool)) := fun (v3, v4, v5, v6, v7) =>
  br (decide (v7 < v6)) (
    jn (V := IState × List Int × List IPane × Int × Int) (
      gd (0 ≤ v7 ∧ v7 < (↑v5.length : Int)) <|
      bd v5[v7.toNat]? fun x8 =>
      bd (α := IState × IPane × List Int × List IPane × Int × Int × Bool) (
        bd (pS_PaneOk fuel x8) fun x9 =>
        br (!x9) (
          some (v3, x8, v4, v5, v6, v7, true)) <|
        br (decide (v3.Next ≤ x8.Id)) (
          some (v3, x8, v4, v5, v6, v7, true)) <|
        br (decide (0 < v7)) (
          gd (inK IntKind.i64 (v7 - 1)) <|
          gd (0 ≤ v7 - 1 ∧ v7 - 1 < (↑v3.Panes.length : Int)) <|
          bd (v3.Panes[(v7 - 1).toNat]?) fun x10 =>
          some (v3, x8, v4, v5, v6, v7, decide (x8.Id ≤ x10.Id))) <|
        some (v3, x8, v4, v5, v6, v7, false)) fun (x11, x12, x13, x14, x15, x16, x17) =>
      br x17 (
        some (.inr (.inr (.inr false)))) <|
      bd (pS_Area fuel x11 x12.Id) fun (x18, x19) =>
      bd (α := IState × IPane × List Int × List IPane × Int × Int × Bool) (
        br (x12.Term.S.W != x18) (
          some (x11, x12, x13, x14, x15, x16, true)) <|
        br (x12.Term.S.H != x19) (
          some (x11, x12, x13, x14, x15, x16, true)) <|
        some (x11, x12, x13, x14, x15, x16, x12.Term.S.Limit != x11.Limit)) fun (x20, x21, x22, x23, x24, x25, x26) =>
      br x26 (
        some (.inr (.inr (.inr false)))) <|
      bd (α := IState × IPane × List Int × List IPane × Int × Int × Bool) (
        br (x21.Life == 1) (
          bd (pS_l02HasInt fuel x22 x21.Pid) fun x27 =>
          some (x20, x21, x22, x23, x24, x25, x27)) <|
        some (x20, x21, x22, x23, x24, x25, false)) fun (x28, x29, x30, x31, x32, x33, x34) =>
      br x34 (
        some (.inr (.inr (.inr false)))) <|
      br (x29.Life == 1) (
        gd (roomB K.int (x30 ++ [x29.Pid]).length) <|
        some (.inl (x28, x30 ++ [x29.Pid], x31, x32, x33))) <|
      some (.inl (x28, x30, x31, x32, x33))) fun (v35, v36, v37, v38, v39) =>
    gd (inK IntKind.i64 (v39 + 1)) <|
    some (.inl (v35, v36, v37, v38, v39 + 1))) <|
  some (.inr (.inl ()))
def pS_l14Panes (fuel : Nat) (a1 : IState) : Option Bool :=
  jn (V := Unit) (
    loopF (pS_l14Panes_b1 fuel) fuel (a1, [], a1.Panes, (↑a1.Panes.length : Int), 0)) fun _ =>
  some true
def o94 (fuel : Nat) : Orc := ⟨94, [none], [.st .iState []], 0, (.one .B), fun v => pS_l14Panes fuel v⟩
theorem c94 : CC o94 := fun hcl fuel => mkc hcl (csc (c180 hcl fuel) (csc (c181 hcl fuel) (csc (c144 hcl fuel) csn))) T94 fuel Tryz.f94
def T26 : Tab := ⟨[(2, ⟨[(1, .ptr 200 0)], [.sto 200 .iState [], .sl 52 .B]⟩), (4, ⟨[], [.sl 2 .B]⟩)], [], []⟩
def pS_StateOk (fuel : Nat) (a1 : IState) : Option Bool :=
  bd (pS_GridNew fuel a1.W a1.H) fun (x2, x3) =>
  bd (α := IState × Bool) (
    br (!x3) (
      some (a1, true)) <|
    br (decide (a1.Limit < 0)) (
      some (a1, true)) <|
    br (decide (100 < a1.Limit)) (
      some (a1, true)) <|
    br (decide (a1.Next < 1)) (
      some (a1, true)) <|
    br (decide (1000000 < a1.Next)) (
      some (a1, true)) <|
    br (decide (24 < (↑a1.Panes.length : Int))) (
      some (a1, true)) <|
    br (decide (12 < (↑a1.Wins.length : Int))) (
      some (a1, true)) <|
    some (a1, decide (8 < (↑a1.Sess.length : Int)))) fun (x4, x5) =>
  br x5 (
    some false) <|
  bd (α := Bool) (
    bd (pS_l14Wins fuel x4) fun x6 =>
    br x6 (
      bd (pS_l14Sess fuel x4) fun x7 =>
      br x7 (
        bd (pS_l14Panes fuel x4) fun x8 =>
        some x8) <|
      some false) <|
    some false) fun x9 =>
  some x9
def o26 (fuel : Nat) : Orc := ⟨26, [none], [.st .iState []], 0, (.one .B), fun v => pS_StateOk fuel v⟩
theorem c26 : CC o26 := fun hcl fuel => mkc hcl (csc (c38 hcl fuel) (csc (c92 hcl fuel) (csc (c93 hcl fuel) (csc (c94 hcl fuel) csn)))) T26 fuel Tryz.f26
def T95 : Tab := ⟨[(1, ⟨[], [.sl 2 .B]⟩)], [], []⟩
def pS_l01Num (fuel : Nat) (a1 : Int) : Option Bool :=
  bd (α := Bool) (
    br (decide (0 ≤ a1)) (
      some (decide (a1 ≤ 4294967295))) <|
    some false) fun x2 =>
  some x2
def o95 (fuel : Nat) : Orc := ⟨95, [none], [.I .i64], 0, (.one .B), fun v => pS_l01Num fuel v⟩
theorem c95 : CC o95 := fun hcl fuel => mkc hcl csn T95 fuel Tryz.f95
def T27 : Tab := ⟨[], [], []⟩
def pS_NumText (fuel : Nat) (slf : Int → Option ByteArray) : Int → Option ByteArray := fun a1 =>
  bd (pS_l01Num fuel a1) fun x2 =>
  br (!x2) (
    some (ByteArray.mk #[])) <|
  br (decide (a1 < 10)) (
    gd (inK IntKind.i64 (48 + a1)) <|
    some (ByteArray.mk #[UInt8.ofNat (IntKind.u8.wrap (48 + a1)).toNat])) <|
  gd ((10 : Int) ≠ (0 : Int)) <|
  gd (inK IntKind.i64 (a1.tdiv 10)) <|
  bd (slf (a1.tdiv 10)) fun x3 =>
  gd ((10 : Int) ≠ (0 : Int)) <|
  gd (inK IntKind.i64 (48 + a1.tmod 10)) <|
  gd (x3.size + (ByteArray.mk #[UInt8.ofNat (IntKind.u8.wrap (48 + a1.tmod 10)).toNat]).size ≤ 9223372036854775807) <|
  some (x3 ++ ByteArray.mk #[UInt8.ofNat (IntKind.u8.wrap (48 + a1.tmod 10)).toNat])
def o27 (fuel : Nat) : Orc := ⟨27, [none], [.I .i64], 0, (.one .S), recF (pS_NumText fuel) fuel⟩
theorem c27 {G : Nat} {E : World → Prop} (hcl : Cl G E) (fuel : Nat) : Ctr Tryz.prog G E (o27 fuel) := Ctr.rec (fun slf h => Ctr.mk (o := ⟨27, [none], [.I .i64], 0, (.one .S), pS_NumText fuel slf⟩) (csc h (csc (c95 hcl fuel) csn)) facts mixed hcl.cl T27 fuel (fn := Tryz.f27) (by kernel_rfl) rfl (by kernel_rfl) (fun _ => by kernel_rfl) (fun _ _ => by kernel_rfl) (fun _ => by kernel_rfl)) fuel
def T7 : Tab := ⟨[(2, ⟨[(2, .ptr 300 0)], [.sto 300 .iState [], .sl 1 .S, .sl 5 (.I .i64), .sl 18 .B]⟩)], [(11, false, ⟨[(2, .ptr 300 0)], [.sto 300 .iState [], .sl 5 (.I .i64), .sl 6 .S, .sl 27 (.row .int), .sl 28 (.I .i64), .sl 29 (.I .i64)]⟩)], [(6, false, ⟨[(2, .ptr 300 0)], [.sto 300 .iState [], .sl 5 (.I .i64), .sl 6 .S, .sl 27 (.row .int), .sl 28 (.I .i64), .sl 29 (.I .i64)]⟩, 0, ⟨[], [.sl 6 .S]⟩)]⟩
def pS_Status_b1 (fuel : Nat) : IState × Int × ByteArray × List Int × Int × Int → Option ((IState × Int × ByteArray × List Int × Int × Int) ⊕ ByteArray) := fun (v12, v13, v14, v15, v16, v17) =>
  br (decide (v17 < v16)) (
    bd (α := IState × Int × ByteArray × List Int × Int × Int) (
      gd (0 ≤ v17 ∧ v17 < (↑v15.length : Int)) <|
      bd v15[v17.toNat]? fun x18 =>
      gd (v14.size + (ByteArray.mk #[32]).size ≤ 9223372036854775807) <|
      bd (recF (pS_NumText fuel) fuel x18) fun x19 =>
      gd ((v14 ++ ByteArray.mk #[32]).size + x19.size ≤ 9223372036854775807) <|
      gd ((v14 ++ ByteArray.mk #[32] ++ x19).size + (ByteArray.mk #[58]).size ≤ 9223372036854775807) <|
      bd (pS_WinAt fuel v12 x18) fun x20 =>
      gd (0 ≤ x20 ∧ x20 < (↑v12.Wins.length : Int)) <|
      bd v12.Wins[x20.toNat]? fun x21 =>
      gd ((v14 ++ ByteArray.mk #[32] ++ x19 ++ ByteArray.mk #[58]).size + x21.Name.size ≤ 9223372036854775807) <|
      gd (0 ≤ v13 ∧ v13 < (↑v12.Sess.length : Int)) <|
      bd v12.Sess[v13.toNat]? fun x22 =>
      br (x18 == x22.Active) (
        gd ((v14 ++ ByteArray.mk #[32] ++ x19 ++ ByteArray.mk #[58] ++ x21.Name).size + (ByteArray.mk #[42]).size ≤ 9223372036854775807) <|
        some (v12, v13, v14 ++ ByteArray.mk #[32] ++ x19 ++ ByteArray.mk #[58] ++ x21.Name ++ ByteArray.mk #[42], v15, v16, v17)) <|
      some (v12, v13, v14 ++ ByteArray.mk #[32] ++ x19 ++ ByteArray.mk #[58] ++ x21.Name, v15, v16, v17)) fun (x23, x24, x25, x26, x27, x28) =>
    gd (inK IntKind.i64 (x28 + 1)) <|
    some (.inl (x23, x24, x25, x26, x27, x28 + 1))) <|
  some (.inr v14)
def pS_Status (fuel : Nat) (a1 : IState) (a2 : ByteArray) : Option ByteArray :=
  bd (pS_SessAt fuel a1 a2) fun x3 =>
  bd (α := IState × ByteArray × Int × Bool) (
    bd (pS_StateOk fuel a1) fun x4 =>
    br (!x4) (
      some (a1, a2, x3, true)) <|
    some (a1, a2, x3, decide (x3 < 0))) fun (x5, x6, x7, x8) =>
  br x8 (
    some (ByteArray.mk #[])) <|
  gd ((ByteArray.mk #[91]).size + x6.size ≤ 9223372036854775807) <|
  gd ((ByteArray.mk #[91] ++ x6).size + (ByteArray.mk #[93]).size ≤ 9223372036854775807) <|
  gd (0 ≤ x7 ∧ x7 < (↑x5.Sess.length : Int)) <|
  bd x5.Sess[x7.toNat]? fun x9 =>
  bd (α := ByteArray) (
    loopF (pS_Status_b1 fuel) fuel (x5, x7, ByteArray.mk #[91] ++ x6 ++ ByteArray.mk #[93], x9.Wins, (↑x9.Wins.length : Int), 0)) fun x11 =>
  some x11
def o7 (fuel : Nat) : Orc := ⟨7, [none, none], [.st .iState [], .S], 0, (.one .S), fun v => pS_Status fuel v.1 v.2⟩
theorem c7 : CC o7 := fun hcl fuel => mkc hcl (csc (c25 hcl fuel) (csc (c26 hcl fuel) (csc (c27 hcl fuel) (csc (c28 hcl fuel) csn)))) T7 fuel Tryz.f7
def T184 : Tab := ⟨[], [], [(3, false, ⟨[], [.sl 0 (.row .int), .sl 3 (.own .int 800), .sl 4 (.I .i64)]⟩, 0, ⟨[], [.sl 3 (.own .int 800)]⟩)]⟩
def pL_toIntS_b1 (fuel : Nat) : List Int × List Int × Int → Option ((List Int × List Int × Int) ⊕ (List Int)) := fun (v4, v5, v6) =>
  br (decide (v6 < (↑v4.length : Int))) (
    gd (0 ≤ v6 ∧ v6 < (↑v4.length : Int)) <|
    bd v4[v6.toNat]? fun x7 =>
    gd (0 ≤ v6 ∧ v6 < (↑v5.length : Int)) <|
    bd (v5[0 + v6.toNat]?) fun x8 =>
    gd (inK IntKind.i64 (v6 + 1)) <|
    some (.inl (v4, v5.set (0 + v6.toNat) x7, v6 + 1))) <|
  some (.inr v5)
def pL_toIntS (fuel : Nat) (a1 : List Int) : Option (List Int) :=
  gd (0 ≤ (↑a1.length : Int) ∧ (↑a1.length : Int) ≤ (↑a1.length : Int)) <|
  gd (roomB K.int (↑a1.length : Int).toNat) <|
  bd (α := List Int) (
    loopF (pL_toIntS_b1 fuel) fuel (a1, List.replicate (↑a1.length : Int).toNat (zK K.int), 0)) fun x3 =>
  some x3
def o184 (fuel : Nat) : Orc := ⟨184, [none], [.row .int], 0, (.one (.own .int 99)), fun v => pL_toIntS fuel v⟩
theorem c184 : CC o184 := fun hcl fuel => mkc hcl csn T184 fuel Tryz.f184
def T291 : Tab := ⟨[], [], [(3, false, ⟨[], [.sl 0 (.row .u8), .sl 3 (.own .u8 800), .sl 4 (.I .i64)]⟩, 0, ⟨[], [.sl 3 (.own .u8 800)]⟩)]⟩
def pL_toByteS_b1 (fuel : Nat) : List UInt8 × List UInt8 × Int → Option ((List UInt8 × List UInt8 × Int) ⊕ (List UInt8)) := fun (v4, v5, v6) =>
  br (decide (v6 < (↑v4.length : Int))) (
    gd (0 ≤ v6 ∧ v6 < (↑v4.length : Int)) <|
    bd v4[v6.toNat]? fun x7 =>
    gd (0 ≤ v6 ∧ v6 < (↑v5.length : Int)) <|
    bd (v5[0 + v6.toNat]?) fun x8 =>
    gd (inK IntKind.i64 (v6 + 1)) <|
    some (.inl (v4, v5.set (0 + v6.toNat) (UInt8.ofNat (↑x7.toNat : Int).toNat), v6 + 1))) <|
  some (.inr v5)
def pL_toByteS (fuel : Nat) (a1 : List UInt8) : Option (List UInt8) :=
  gd (0 ≤ (↑a1.length : Int) ∧ (↑a1.length : Int) ≤ (↑a1.length : Int)) <|
  gd (roomB K.u8 (↑a1.length : Int).toNat) <|
  bd (α := List UInt8) (
    loopF (pL_toByteS_b1 fuel) fuel (a1, List.replicate (↑a1.length : Int).toNat (zK K.u8), 0)) fun x3 =>
  some x3
def o291 (fuel : Nat) : Orc := ⟨291, [none], [.row .u8], 0, (.one (.own .u8 99)), fun v => pL_toByteS fuel v⟩
theorem c291 : CC o291 := fun hcl fuel => mkc hcl csn T291 fuel Tryz.f291
def T264 : Tab := ⟨[], [], []⟩
def pL_toVp (fuel : Nat) (a1 : LVp) : Option IVp :=
  bd (pL_toIntS fuel a1.Args) fun x2 =>
  bd (pL_toByteS fuel a1.Part) fun x3 =>
  some (IVp.mk a1.State a1.Mark x2 x3)
def o264 (fuel : Nat) : Orc := ⟨264, [none], [.st .lVp []], 0, (.one (.st .iVp [(2, 99), (3, 99)])), fun v => pL_toVp fuel v⟩
theorem c264 : CC o264 := fun hcl fuel => mkc hcl (csc (c184 hcl fuel) (csc (c291 hcl fuel) csn)) T264 fuel Tryz.f264
def T305 : Tab := ⟨[], [], []⟩
def pL_toAttr (fuel : Nat) (a1 : LAttr) : Option IAttr :=
  some (IAttr.mk a1.Fg a1.Bg a1.Bold a1.Under a1.Turn)
def o305 (fuel : Nat) : Orc := ⟨305, [none], [.st .lAttr []], 0, (.one (.st .iAttr [])), fun v => pL_toAttr fuel v⟩
theorem c305 : CC o305 := fun hcl fuel => mkc hcl csn T305 fuel Tryz.f305
def T364 : Tab := ⟨[], [], []⟩
def pL_toCell (fuel : Nat) (a1 : LCell) : Option ICell :=
  bd (pL_toAttr fuel a1.A) fun x2 =>
  some (ICell.mk a1.R x2)
def o364 (fuel : Nat) : Orc := ⟨364, [none], [.st .lCell []], 0, (.one (.st .iCell [])), fun v => pL_toCell fuel v⟩
theorem c364 : CC o364 := fun hcl fuel => mkc hcl (csc (c305 hcl fuel) csn) T364 fuel Tryz.f364
def T340 : Tab := ⟨[], [], [(3, false, ⟨[], [.sl 0 (.row .lCell), .sl 3 (.own .iCell 800), .sl 4 (.I .i64)]⟩, 0, ⟨[], [.sl 3 (.own .iCell 800)]⟩)]⟩
def pL_toCellS_b1 (fuel : Nat) : List LCell × List ICell × Int → Option ((List LCell × List ICell × Int) ⊕ (List ICell)) := fun (v4, v5, v6) =>
  br (decide (v6 < (↑v4.length : Int))) (
    gd (0 ≤ v6 ∧ v6 < (↑v4.length : Int)) <|
    bd v4[v6.toNat]? fun x7 =>
    bd (pL_toCell fuel x7) fun x8 =>
    gd (0 ≤ v6 ∧ v6 < (↑v5.length : Int)) <|
    bd (v5[0 + v6.toNat]?) fun x9 =>
    gd (inK IntKind.i64 (v6 + 1)) <|
    some (.inl (v4, v5.set (0 + v6.toNat) x8, v6 + 1))) <|
  some (.inr v5)
def pL_toCellS (fuel : Nat) (a1 : List LCell) : Option (List ICell) :=
  gd (0 ≤ (↑a1.length : Int) ∧ (↑a1.length : Int) ≤ (↑a1.length : Int)) <|
  gd (roomB K.iCell (↑a1.length : Int).toNat) <|
  bd (α := List ICell) (
    loopF (pL_toCellS_b1 fuel) fuel (a1, List.replicate (↑a1.length : Int).toNat (zK K.iCell), 0)) fun x3 =>
  some x3
def o340 (fuel : Nat) : Orc := ⟨340, [none], [.row .lCell], 0, (.one (.own .iCell 99)), fun v => pL_toCellS fuel v⟩
theorem c340 : CC o340 := fun hcl fuel => mkc hcl (csc (c364 hcl fuel) csn) T340 fuel Tryz.f340
def T304 : Tab := ⟨[], [], []⟩
def pL_toGrid (fuel : Nat) (a1 : LGrid) : Option IGrid :=
  bd (pL_toCellS fuel a1.Cells) fun x2 =>
  some (IGrid.mk a1.W a1.H x2)
def o304 (fuel : Nat) : Orc := ⟨304, [none], [.st .lGrid []], 0, (.one (.st .iGrid [(2, 99)])), fun v => pL_toGrid fuel v⟩
theorem c304 : CC o304 := fun hcl fuel => mkc hcl (csc (c340 hcl fuel) csn) T304 fuel Tryz.f304
def T341 : Tab := ⟨[], [], []⟩
def pL_toRow (fuel : Nat) (a1 : LRow) : Option IRow :=
  bd (pL_toCellS fuel a1.Cells) fun x2 =>
  some (IRow.mk x2)
def o341 (fuel : Nat) : Orc := ⟨341, [none], [.st .lRow []], 0, (.one (.st .iRow [(0, 99)])), fun v => pL_toRow fuel v⟩
theorem c341 : CC o341 := fun hcl fuel => mkc hcl (csc (c340 hcl fuel) csn) T341 fuel Tryz.f341
def T306 : Tab := ⟨[], [], [(3, false, ⟨[], [.sl 0 (.row .lRow), .sl 3 (.own .iRow 1000000800), .sl 4 (.I .i64)]⟩, 0, ⟨[], [.sl 3 (.own .iRow 1000000800)]⟩)]⟩
def pL_toRowS_b1 (fuel : Nat) : List LRow × List IRow × Int → Option ((List LRow × List IRow × Int) ⊕ (List IRow)) := fun (v4, v5, v6) =>
  br (decide (v6 < (↑v4.length : Int))) (
    gd (0 ≤ v6 ∧ v6 < (↑v4.length : Int)) <|
    bd v4[v6.toNat]? fun x7 =>
    bd (pL_toRow fuel x7) fun x8 =>
    gd (0 ≤ v6 ∧ v6 < (↑v5.length : Int)) <|
    bd (v5[0 + v6.toNat]?) fun x9 =>
    gd (inK IntKind.i64 (v6 + 1)) <|
    some (.inl (v4, v5.set (0 + v6.toNat) x8, v6 + 1))) <|
  some (.inr v5)
def pL_toRowS (fuel : Nat) (a1 : List LRow) : Option (List IRow) :=
  gd (0 ≤ (↑a1.length : Int) ∧ (↑a1.length : Int) ≤ (↑a1.length : Int)) <|
  gd (roomB K.iRow (↑a1.length : Int).toNat) <|
  bd (α := List IRow) (
    loopF (pL_toRowS_b1 fuel) fuel (a1, List.replicate (↑a1.length : Int).toNat (zK K.iRow), 0)) fun x3 =>
  some x3
def o306 (fuel : Nat) : Orc := ⟨306, [none], [.row .lRow], 0, (.one (.own .iRow 1000000000)), fun v => pL_toRowS fuel v⟩
theorem c306 : CC o306 := fun hcl fuel => mkc hcl (csc (c341 hcl fuel) csn) T306 fuel Tryz.f306
def T265 : Tab := ⟨[], [], []⟩
def pL_toScr (fuel : Nat) (a1 : LScr) : Option IScr :=
  bd (pL_toGrid fuel a1.Main) fun x2 =>
  bd (pL_toGrid fuel a1.Alt) fun x3 =>
  bd (pL_toAttr fuel a1.A) fun x4 =>
  bd (pL_toAttr fuel a1.SaveA) fun x5 =>
  bd (pL_toIntS fuel a1.Tabs) fun x6 =>
  bd (pL_toRowS fuel a1.Back) fun x7 =>
  some (IScr.mk a1.W a1.H x2 x3 a1.OnAlt a1.X a1.Y a1.Wrap x4 a1.Top a1.Bot a1.NoWrap a1.Hide a1.SaveX a1.SaveY x5 x6 a1.Limit x7)
def o265 (fuel : Nat) : Orc := ⟨265, [none], [.st .lScr []], 0, (.one (.st .iScr [(4, 99), (7, 99), (28, 99), (30, 1000000000)])), fun v => pL_toScr fuel v⟩
theorem c265 : CC o265 := fun hcl fuel => mkc hcl (csc (c304 hcl fuel) (csc (c305 hcl fuel) (csc (c184 hcl fuel) (csc (c306 hcl fuel) csn)))) T265 fuel Tryz.f265
def T182 : Tab := ⟨[], [], []⟩
def pL_toTerm (fuel : Nat) (a1 : LTerm) : Option ITerm :=
  bd (pL_toVp fuel a1.P) fun x2 =>
  bd (pL_toScr fuel a1.S) fun x3 =>
  some (ITerm.mk x2 x3)
def o182 (fuel : Nat) : Orc := ⟨182, [none], [.st .lTerm []], 0, (.one (.st .iTerm [(2, 99), (3, 99), (8, 99), (11, 99), (32, 99), (34, 1000000000)])), fun v => pL_toTerm fuel v⟩
theorem c182 : CC o182 := fun hcl fuel => mkc hcl (csc (c264 hcl fuel) (csc (c265 hcl fuel) csn)) T182 fuel Tryz.f182
def T96 : Tab := ⟨[], [], []⟩
def pL_toPane (fuel : Nat) (a1 : LPane) : Option IPane :=
  bd (pL_toTerm fuel a1.Term) fun x2 =>
  some (IPane.mk a1.Id a1.Cmd a1.Dir a1.Life a1.Code a1.Pid x2)
def o96 (fuel : Nat) : Orc := ⟨96, [none], [.st .lPane []], 0, (.one (.st .iPane [(8, 99), (9, 99), (14, 99), (17, 99), (38, 99), (40, 1000000000)])), fun v => pL_toPane fuel v⟩
theorem c96 : CC o96 := fun hcl fuel => mkc hcl (csc (c182 hcl fuel) csn) T96 fuel Tryz.f96
def T29 : Tab := ⟨[], [], [(3, false, ⟨[], [.sl 0 (.row .lPane), .sl 3 (.own .iPane 1000000800), .sl 4 (.I .i64)]⟩, 0, ⟨[], [.sl 3 (.own .iPane 1000000800)]⟩)]⟩
def pL_toPaneS_b1 (fuel : Nat) : List LPane × List IPane × Int → Option ((List LPane × List IPane × Int) ⊕ (List IPane)) := fun (v4, v5, v6) =>
  br (decide (v6 < (↑v4.length : Int))) (
    gd (0 ≤ v6 ∧ v6 < (↑v4.length : Int)) <|
    bd v4[v6.toNat]? fun x7 =>
    bd (pL_toPane fuel x7) fun x8 =>
    gd (0 ≤ v6 ∧ v6 < (↑v5.length : Int)) <|
    bd (v5[0 + v6.toNat]?) fun x9 =>
    gd (inK IntKind.i64 (v6 + 1)) <|
    some (.inl (v4, v5.set (0 + v6.toNat) x8, v6 + 1))) <|
  some (.inr v5)
def pL_toPaneS (fuel : Nat) (a1 : List LPane) : Option (List IPane) :=
  gd (0 ≤ (↑a1.length : Int) ∧ (↑a1.length : Int) ≤ (↑a1.length : Int)) <|
  gd (roomB K.iPane (↑a1.length : Int).toNat) <|
  bd (α := List IPane) (
    loopF (pL_toPaneS_b1 fuel) fuel (a1, List.replicate (↑a1.length : Int).toNat (zK K.iPane), 0)) fun x3 =>
  some x3
def o29 (fuel : Nat) : Orc := ⟨29, [none], [.row .lPane], 0, (.one (.own .iPane 1000000000)), fun v => pL_toPaneS fuel v⟩
theorem c29 : CC o29 := fun hcl fuel => mkc hcl (csc (c96 hcl fuel) csn) T29 fuel Tryz.f29
def T266 : Tab := ⟨[], [], []⟩
def pL_toNode (fuel : Nat) (a1 : LNode) : Option INode :=
  some (INode.mk a1.Pane a1.Down a1.First)
def o266 (fuel : Nat) : Orc := ⟨266, [none], [.st .lNode []], 0, (.one (.st .iNode [])), fun v => pL_toNode fuel v⟩
theorem c266 : CC o266 := fun hcl fuel => mkc hcl csn T266 fuel Tryz.f266
def T183 : Tab := ⟨[], [], [(3, false, ⟨[], [.sl 0 (.row .lNode), .sl 3 (.own .iNode 800), .sl 4 (.I .i64)]⟩, 0, ⟨[], [.sl 3 (.own .iNode 800)]⟩)]⟩
def pL_toNodeS_b1 (fuel : Nat) : List LNode × List INode × Int → Option ((List LNode × List INode × Int) ⊕ (List INode)) := fun (v4, v5, v6) =>
  br (decide (v6 < (↑v4.length : Int))) (
    gd (0 ≤ v6 ∧ v6 < (↑v4.length : Int)) <|
    bd v4[v6.toNat]? fun x7 =>
    bd (pL_toNode fuel x7) fun x8 =>
    gd (0 ≤ v6 ∧ v6 < (↑v5.length : Int)) <|
    bd (v5[0 + v6.toNat]?) fun x9 =>
    gd (inK IntKind.i64 (v6 + 1)) <|
    some (.inl (v4, v5.set (0 + v6.toNat) x8, v6 + 1))) <|
  some (.inr v5)
def pL_toNodeS (fuel : Nat) (a1 : List LNode) : Option (List INode) :=
  gd (0 ≤ (↑a1.length : Int) ∧ (↑a1.length : Int) ≤ (↑a1.length : Int)) <|
  gd (roomB K.iNode (↑a1.length : Int).toNat) <|
  bd (α := List INode) (
    loopF (pL_toNodeS_b1 fuel) fuel (a1, List.replicate (↑a1.length : Int).toNat (zK K.iNode), 0)) fun x3 =>
  some x3
def o183 (fuel : Nat) : Orc := ⟨183, [none], [.row .lNode], 0, (.one (.own .iNode 99)), fun v => pL_toNodeS fuel v⟩
theorem c183 : CC o183 := fun hcl fuel => mkc hcl (csc (c266 hcl fuel) csn) T183 fuel Tryz.f183
def T97 : Tab := ⟨[], [], []⟩
def pL_toWin (fuel : Nat) (a1 : LWin) : Option IWin :=
  bd (pL_toNodeS fuel a1.Tree) fun x2 =>
  some (IWin.mk a1.Id a1.Name x2 a1.Active a1.Zoom)
def o97 (fuel : Nat) : Orc := ⟨97, [none], [.st .lWin []], 0, (.one (.st .iWin [(2, 99)])), fun v => pL_toWin fuel v⟩
theorem c97 : CC o97 := fun hcl fuel => mkc hcl (csc (c183 hcl fuel) csn) T97 fuel Tryz.f97
def T30 : Tab := ⟨[], [], [(3, false, ⟨[], [.sl 0 (.row .lWin), .sl 3 (.own .iWin 1000000800), .sl 4 (.I .i64)]⟩, 0, ⟨[], [.sl 3 (.own .iWin 1000000800)]⟩)]⟩
def pL_toWinS_b1 (fuel : Nat) : List LWin × List IWin × Int → Option ((List LWin × List IWin × Int) ⊕ (List IWin)) := fun (v4, v5, v6) =>
  br (decide (v6 < (↑v4.length : Int))) (
    gd (0 ≤ v6 ∧ v6 < (↑v4.length : Int)) <|
    bd v4[v6.toNat]? fun x7 =>
    bd (pL_toWin fuel x7) fun x8 =>
    gd (0 ≤ v6 ∧ v6 < (↑v5.length : Int)) <|
    bd (v5[0 + v6.toNat]?) fun x9 =>
    gd (inK IntKind.i64 (v6 + 1)) <|
    some (.inl (v4, v5.set (0 + v6.toNat) x8, v6 + 1))) <|
  some (.inr v5)
def pL_toWinS (fuel : Nat) (a1 : List LWin) : Option (List IWin) :=
  gd (0 ≤ (↑a1.length : Int) ∧ (↑a1.length : Int) ≤ (↑a1.length : Int)) <|
  gd (roomB K.iWin (↑a1.length : Int).toNat) <|
  bd (α := List IWin) (
    loopF (pL_toWinS_b1 fuel) fuel (a1, List.replicate (↑a1.length : Int).toNat (zK K.iWin), 0)) fun x3 =>
  some x3
def o30 (fuel : Nat) : Orc := ⟨30, [none], [.row .lWin], 0, (.one (.own .iWin 1000000000)), fun v => pL_toWinS fuel v⟩
theorem c30 : CC o30 := fun hcl fuel => mkc hcl (csc (c97 hcl fuel) csn) T30 fuel Tryz.f30
def T98 : Tab := ⟨[], [], []⟩
def pL_toSess (fuel : Nat) (a1 : LSess) : Option ISess :=
  bd (pL_toIntS fuel a1.Wins) fun x2 =>
  some (ISess.mk a1.Name x2 a1.Active)
def o98 (fuel : Nat) : Orc := ⟨98, [none], [.st .lSess []], 0, (.one (.st .iSess [(1, 99)])), fun v => pL_toSess fuel v⟩
theorem c98 : CC o98 := fun hcl fuel => mkc hcl (csc (c184 hcl fuel) csn) T98 fuel Tryz.f98
def T31 : Tab := ⟨[], [], [(3, false, ⟨[], [.sl 0 (.row .lSess), .sl 3 (.own .iSess 1000000800), .sl 4 (.I .i64)]⟩, 0, ⟨[], [.sl 3 (.own .iSess 1000000800)]⟩)]⟩
def pL_toSessS_b1 (fuel : Nat) : List LSess × List ISess × Int → Option ((List LSess × List ISess × Int) ⊕ (List ISess)) := fun (v4, v5, v6) =>
  br (decide (v6 < (↑v4.length : Int))) (
    gd (0 ≤ v6 ∧ v6 < (↑v4.length : Int)) <|
    bd v4[v6.toNat]? fun x7 =>
    bd (pL_toSess fuel x7) fun x8 =>
    gd (0 ≤ v6 ∧ v6 < (↑v5.length : Int)) <|
    bd (v5[0 + v6.toNat]?) fun x9 =>
    gd (inK IntKind.i64 (v6 + 1)) <|
    some (.inl (v4, v5.set (0 + v6.toNat) x8, v6 + 1))) <|
  some (.inr v5)
def pL_toSessS (fuel : Nat) (a1 : List LSess) : Option (List ISess) :=
  gd (0 ≤ (↑a1.length : Int) ∧ (↑a1.length : Int) ≤ (↑a1.length : Int)) <|
  gd (roomB K.iSess (↑a1.length : Int).toNat) <|
  bd (α := List ISess) (
    loopF (pL_toSessS_b1 fuel) fuel (a1, List.replicate (↑a1.length : Int).toNat (zK K.iSess), 0)) fun x3 =>
  some x3
def o31 (fuel : Nat) : Orc := ⟨31, [none], [.row .lSess], 0, (.one (.own .iSess 1000000000)), fun v => pL_toSessS fuel v⟩
theorem c31 : CC o31 := fun hcl fuel => mkc hcl (csc (c98 hcl fuel) csn) T31 fuel Tryz.f31
def T8 : Tab := ⟨[], [], []⟩
def pL_toState (fuel : Nat) (a1 : LState) : Option IState :=
  bd (pL_toPaneS fuel a1.Panes) fun x2 =>
  bd (pL_toWinS fuel a1.Wins) fun x3 =>
  bd (pL_toSessS fuel a1.Sess) fun x4 =>
  some (IState.mk a1.W a1.H a1.Limit a1.Next x2 x3 x4)
def o8 (fuel : Nat) : Orc := ⟨8, [none], [.st .lState []], 0, (.one (.st .iState [(4, 1000000000), (5, 1000000000), (6, 1000000000)])), fun v => pL_toState fuel v⟩
theorem c8 : CC o8 := fun hcl fuel => mkc hcl (csc (c29 hcl fuel) (csc (c30 hcl fuel) (csc (c31 hcl fuel) csn))) T8 fuel Tryz.f8
def T1010000 : Tab := ⟨[], [], []⟩
def pI_SessAt_1 (fuel : Nat) (a1 : ISess) (a2 : ByteArray) : Option (Bool × ByteArray) :=
  some (decide (a1.Name = a2), a2)
def o1010000 (fuel : Nat) : Orc := ⟨100, [none, some (.ptr 0 0 0 0)], [.st .iSess [], .S], 1, (.tup [.B, .S]), fun v => pI_SessAt_1 fuel v.1 v.2⟩
theorem c1010000 : CC o1010000 := fun hcl fuel => mkc hcl csn T1010000 fuel Tryz.f100
def T1009900 : Tab := ⟨[], [], [(2, true, ⟨[(1, .fn 100 [(0, 0)])], [.bxl 0 [.S], .sl 0 (.row .iSess), .sl 7 (.I .i64), .sl 8 (.I .i64)]⟩, 0, ⟨[], [.bxl 0 [.S]]⟩)]⟩
def pG_slices_IndexFunc_ISess_I_SessAt_1_b1 (fuel : Nat) : ByteArray × List ISess × Int × Int → Option ((ByteArray × List ISess × Int × Int) ⊕ (ByteArray ⊕ Int × ByteArray)) := fun (v5, v6, v7, v8) =>
  br (decide (v8 < v7)) (
    gd (0 ≤ v8 ∧ v8 < (↑v6.length : Int)) <|
    bd v6[v8.toNat]? fun x9 =>
    bd (pI_SessAt_1 fuel x9 v5) fun (x10, x11) =>
    br x10 (
      some (.inr (.inr (v8, x11)))) <|
    gd (inK IntKind.i64 (v8 + 1)) <|
    some (.inl (x11, v6, v7, v8 + 1))) <|
  some (.inr (.inl v5))
def pG_slices_IndexFunc_ISess_I_SessAt_1 (fuel : Nat) (a1 : List ISess) (a2 : ByteArray) : Option (Int × ByteArray) :=
  jn (V := ByteArray) (
    loopF (pG_slices_IndexFunc_ISess_I_SessAt_1_b1 fuel) fuel (a2, a1, (↑a1.length : Int), 0)) fun v4 =>
  some (-1, v4)
def o1009900 (fuel : Nat) : Orc := ⟨99, [none, some (.fn 100 [.ptr 0 0 0 0])], [.row .iSess, .S], 1, (.tup [.I .i64, .S]), fun v => pG_slices_IndexFunc_ISess_I_SessAt_1 fuel v.1 v.2⟩
theorem c1009900 : CC o1009900 := fun hcl fuel => mkc hcl (csc (c1010000 hcl fuel) csn) T1009900 fuel Tryz.f99
def T32 : Tab := ⟨[], [], []⟩
def pI_SessAt (fuel : Nat) (a1 : IState) (a2 : ByteArray) : Option Int :=
  bd (pG_slices_IndexFunc_ISess_I_SessAt_1 fuel a1.Sess a2) fun (x3, x4) =>
  some x3
def o32 (fuel : Nat) : Orc := ⟨32, [none, none], [.st .iState [], .S], 0, (.one (.I .i64)), fun v => pI_SessAt fuel v.1 v.2⟩
theorem c32 : CC o32 := fun hcl fuel => mkc hcl (csc (c1009900 hcl fuel) csn) T32 fuel Tryz.f32
def T74 : Tab := ⟨[(1, ⟨[], [.sl 6 .B]⟩)], [], []⟩
def pI_within (fuel : Nat) (a1 : Int) (a2 : Int) (a3 : Int) : Option Bool :=
  bd (α := Bool) (
    br (decide (a2 ≤ a1)) (
      some (decide (a1 ≤ a3))) <|
    some false) fun x4 =>
  some x4
def o74 (fuel : Nat) : Orc := ⟨74, [none, none, none], [.I .i64, .I .i64, .I .i64], 0, (.one .B), fun v => pI_within fuel v.1 v.2.1 v.2.2⟩
theorem c74 : CC o74 := fun hcl fuel => mkc hcl csn T74 fuel Tryz.f74
def T43 : Tab := ⟨[(1, ⟨[], [.sl 4 .B]⟩)], [], []⟩
def pI_isSize (fuel : Nat) (a1 : Int) (a2 : Int) : Option Bool :=
  bd (α := Bool) (
    bd (pI_within fuel a1 1 120) fun x3 =>
    br x3 (
      bd (pI_within fuel a2 1 120) fun x4 =>
      br x4 (
        gd (inK IntKind.i64 (a1 * a2)) <|
        some (decide (a1 * a2 ≤ 4000))) <|
      some false) <|
    some false) fun x5 =>
  some x5
def o43 (fuel : Nat) : Orc := ⟨43, [none, none], [.I .i64, .I .i64], 0, (.one .B), fun v => pI_isSize fuel v.1 v.2⟩
theorem c43 : CC o43 := fun hcl fuel => mkc hcl (csc (c74 hcl fuel) csn) T43 fuel Tryz.f43
def T101 : Tab := ⟨[], [], []⟩
def pI_isId (fuel : Nat) (a1 : Int) : Option Bool :=
  bd (pI_within fuel a1 1 1000000) fun x2 =>
  some x2
def o101 (fuel : Nat) : Orc := ⟨101, [none], [.I .i64], 0, (.one .B), fun v => pI_isId fuel v⟩
theorem c101 : CC o101 := fun hcl fuel => mkc hcl (csc (c74 hcl fuel) csn) T101 fuel Tryz.f101
def T1012000 : Tab := ⟨[], [], []⟩
def pI_WinAt_1 (fuel : Nat) (a1 : IWin) (a2 : Int) : Option (Bool × Int) :=
  some (a1.Id == a2, a2)
def o1012000 (fuel : Nat) : Orc := ⟨120, [none, some (.ptr 0 0 0 0)], [.st .iWin [], .I .i64], 1, (.tup [.B, .I .i64]), fun v => pI_WinAt_1 fuel v.1 v.2⟩
theorem c1012000 : CC o1012000 := fun hcl fuel => mkc hcl csn T1012000 fuel Tryz.f120
def T1011900 : Tab := ⟨[], [], [(2, true, ⟨[(1, .fn 120 [(0, 0)])], [.bxl 0 [.I .i64], .sl 0 (.row .iWin), .sl 7 (.I .i64), .sl 8 (.I .i64)]⟩, 0, ⟨[], [.bxl 0 [.I .i64]]⟩)]⟩
def pG_slices_IndexFunc_IWin_I_WinAt_1_b1 (fuel : Nat) : Int × List IWin × Int × Int → Option ((Int × List IWin × Int × Int) ⊕ (Int ⊕ Int × Int)) := fun (v5, v6, v7, v8) =>
  br (decide (v8 < v7)) (
    gd (0 ≤ v8 ∧ v8 < (↑v6.length : Int)) <|
    bd v6[v8.toNat]? fun x9 =>
    bd (pI_WinAt_1 fuel x9 v5) fun (x10, x11) =>
    br x10 (
      some (.inr (.inr (v8, x11)))) <|
    gd (inK IntKind.i64 (v8 + 1)) <|
    some (.inl (x11, v6, v7, v8 + 1))) <|
  some (.inr (.inl v5))
def pG_slices_IndexFunc_IWin_I_WinAt_1 (fuel : Nat) (a1 : List IWin) (a2 : Int) : Option (Int × Int) :=
  jn (V := Int) (
    loopF (pG_slices_IndexFunc_IWin_I_WinAt_1_b1 fuel) fuel (a2, a1, (↑a1.length : Int), 0)) fun v4 =>
  some (-1, v4)
def o1011900 (fuel : Nat) : Orc := ⟨119, [none, some (.fn 120 [.ptr 0 0 0 0])], [.row .iWin, .I .i64], 1, (.tup [.I .i64, .I .i64]), fun v => pG_slices_IndexFunc_IWin_I_WinAt_1 fuel v.1 v.2⟩
theorem c1011900 : CC o1011900 := fun hcl fuel => mkc hcl (csc (c1012000 hcl fuel) csn) T1011900 fuel Tryz.f119
def T44 : Tab := ⟨[], [], []⟩
def pI_WinAt (fuel : Nat) (a1 : IState) (a2 : Int) : Option Int :=
  bd (pG_slices_IndexFunc_IWin_I_WinAt_1 fuel a1.Wins a2) fun (x3, x4) =>
  some x3
def o44 (fuel : Nat) : Orc := ⟨44, [none, none], [.st .iState [], .I .i64], 0, (.one (.I .i64)), fun v => pI_WinAt fuel v.1 v.2⟩
theorem c44 : CC o44 := fun hcl fuel => mkc hcl (csc (c1011900 hcl fuel) csn) T44 fuel Tryz.f44
def T242 : Tab := ⟨[], [], []⟩
def pI_isCmd (fuel : Nat) (a1 : ByteArray) : Option Bool :=
  some (decide ((↑a1.size : Int) ≤ 60))
def o242 (fuel : Nat) : Orc := ⟨242, [none], [.S], 0, (.one .B), fun v => pI_isCmd fuel v⟩
theorem c242 : CC o242 := fun hcl fuel => mkc hcl csn T242 fuel Tryz.f242
def T286 : Tab := ⟨[(1, ⟨[], [.sl 2 .B]⟩)], [], []⟩
def pI_Shows (fuel : Nat) (a1 : Int) : Option Bool :=
  bd (α := Bool) (
    bd (pI_within fuel a1 32 126) fun x2 =>
    br x2 (
      some true) <|
    bd (pI_within fuel a1 160 65535) fun x3 =>
    br x3 (
      bd (pI_within fuel a1 55296 57343) fun x4 =>
      some (!x4)) <|
    some false) fun x5 =>
  some x5
def o286 (fuel : Nat) : Orc := ⟨286, [none], [.I .i64], 0, (.one .B), fun v => pI_Shows fuel v⟩
theorem c286 : CC o286 := fun hcl fuel => mkc hcl (csc (c74 hcl fuel) csn) T286 fuel Tryz.f286
def T365 : Tab := ⟨[], [], [(3, true, ⟨[], [.sl 4 (.I .i64), .sl 7 (.row .u8), .sl 8 (.I .i64), .sl 9 (.I .i64)]⟩, 0, ⟨[], [.sl 4 (.I .i64)]⟩)]⟩
def pI_tails_b1 (fuel : Nat) : Int × List UInt8 × Int × Int → Option ((Int × List UInt8 × Int × Int) ⊕ (Int ⊕ Int × Bool)) := fun (v4, v5, v6, v7) =>
  br (decide (v7 < v6)) (
    gd (0 ≤ v7 ∧ v7 < (↑v5.length : Int)) <|
    bd v5[v7.toNat]? fun x8 =>
    gd ((64 : Int) ≠ (0 : Int)) <|
    br (IntKind.u8.wrap ((↑x8.toNat : Int).tdiv (64 : Int)) != (2 : Int)) (
      some (.inr (.inr (0, false)))) <|
    gd (inK IntKind.i64 (64 * v4)) <|
    gd ((64 : Int) ≠ (0 : Int)) <|
    gd (inK IntKind.i64 (64 * v4 + (↑x8.toNat : Int).tmod 64)) <|
    gd (inK IntKind.i64 (v7 + 1)) <|
    some (.inl (64 * v4 + (↑x8.toNat : Int).tmod 64, v5, v6, v7 + 1))) <|
  some (.inr (.inl v4))
def pI_tails (fuel : Nat) (a1 : List UInt8) : Option (Int × Bool) :=
  jn (V := Int) (
    loopF (pI_tails_b1 fuel) fuel (0, a1, (↑a1.length : Int), 0)) fun v3 =>
  some (v3, true)
def o365 (fuel : Nat) : Orc := ⟨365, [none], [.row .u8], 0, (.tup [.I .i64, .B]), fun v => pI_tails fuel v⟩
theorem c365 : CC o365 := fun hcl fuel => mkc hcl csn T365 fuel Tryz.f365
def T342 : Tab := ⟨[(7, ⟨[], [.sl 2 .B]⟩)], [], []⟩
def pI_RuneBegin (fuel : Nat) (a1 : List UInt8) : Option Bool :=
  br ((↑a1.length : Int) == 1) (
    gd ((0 : Int) ≤ (0 : Int) ∧ (0 : Int) < (↑a1.length : Int)) <|
    bd (a1[Int.toNat 0]?) fun x2 =>
    bd (pI_within fuel (↑x2.toNat : Int) 194 239) fun x3 =>
    some x3) <|
  br ((↑a1.length : Int) == 2) (
    gd ((0 : Int) ≤ (1 : Int) ∧ (1 : Int) ≤ (↑a1.length : Int)) <|
    bd (pI_tails fuel (List.drop (Int.toNat 1) a1)) fun (x4, x5) =>
    gd ((0 : Int) ≤ (0 : Int) ∧ (0 : Int) < (↑a1.length : Int)) <|
    bd (a1[Int.toNat 0]?) fun x6 =>
    gd (inK IntKind.i64 ((↑x6.toNat : Int) - 224)) <|
    gd (inK IntKind.i64 (((↑x6.toNat : Int) - 224) * 4096)) <|
    gd (inK IntKind.i64 (x4 * 64)) <|
    gd (inK IntKind.i64 (((↑x6.toNat : Int) - 224) * 4096 + x4 * 64)) <|
    bd (α := Bool) (
      br x5 (
        gd ((0 : Int) ≤ (0 : Int) ∧ (0 : Int) < (↑a1.length : Int)) <|
        bd (a1[Int.toNat 0]?) fun x7 =>
        br (decide (224 ≤ (↑x7.toNat : Int))) (
          br (decide (2048 ≤ ((↑x6.toNat : Int) - 224) * 4096 + x4 * 64)) (
            bd (pI_Shows fuel (((↑x6.toNat : Int) - 224) * 4096 + x4 * 64)) fun x8 =>
            some x8) <|
          some false) <|
        some false) <|
      some false) fun x9 =>
    some x9) <|
  some false
def o342 (fuel : Nat) : Orc := ⟨342, [none], [.row .u8], 0, (.one .B), fun v => pI_RuneBegin fuel v⟩
theorem c342 : CC o342 := fun hcl fuel => mkc hcl (csc (c74 hcl fuel) (csc (c365 hcl fuel) (csc (c286 hcl fuel) csn))) T342 fuel Tryz.f342
def T367 : Tab := ⟨[], [], []⟩
def pI_areArgs_1 (fuel : Nat) (a1 : Int) : Option Bool :=
  bd (pI_within fuel a1 0 9999) fun x2 =>
  some (!x2)
def o367 (fuel : Nat) : Orc := ⟨367, [none], [.I .i64], 0, (.one .B), fun v => pI_areArgs_1 fuel v⟩
theorem c367 : CC o367 := fun hcl fuel => mkc hcl (csc (c74 hcl fuel) csn) T367 fuel Tryz.f367
def T1037900 : Tab := ⟨[], [], [(2, true, ⟨[(1, .fn 367 [])], [.sl 0 (.row .int), .sl 7 (.I .i64), .sl 8 (.I .i64)]⟩, 0, ⟨[], []⟩)]⟩
def pG_slices_IndexFunc_int_I_areArgs_1_b1 (fuel : Nat) : List Int × Int × Int → Option ((List Int × Int × Int) ⊕ (Unit ⊕ Int)) := fun (v3, v4, v5) =>
  br (decide (v5 < v4)) (
    gd (0 ≤ v5 ∧ v5 < (↑v3.length : Int)) <|
    bd v3[v5.toNat]? fun x6 =>
    bd (pI_areArgs_1 fuel x6) fun x7 =>
    br x7 (
      some (.inr (.inr v5))) <|
    gd (inK IntKind.i64 (v5 + 1)) <|
    some (.inl (v3, v4, v5 + 1))) <|
  some (.inr (.inl ()))
def pG_slices_IndexFunc_int_I_areArgs_1 (fuel : Nat) (a1 : List Int) : Option Int :=
  jn (V := Unit) (
    loopF (pG_slices_IndexFunc_int_I_areArgs_1_b1 fuel) fuel (a1, (↑a1.length : Int), 0)) fun _ =>
  some (-1)
def o1037900 (fuel : Nat) : Orc := ⟨379, [none, some (.fn 367 [])], [.row .int], 0, (.one (.I .i64)), fun v => pG_slices_IndexFunc_int_I_areArgs_1 fuel v⟩
theorem c1037900 : CC o1037900 := fun hcl fuel => mkc hcl (csc (c367 hcl fuel) csn) T1037900 fuel Tryz.f379
def T1036600 : Tab := ⟨[], [], []⟩
def pG_slices_ContainsFunc_int_I_areArgs_1 (fuel : Nat) (a1 : List Int) : Option Bool :=
  bd (pG_slices_IndexFunc_int_I_areArgs_1 fuel a1) fun x2 =>
  some (decide (0 ≤ x2))
def o1036600 (fuel : Nat) : Orc := ⟨366, [none, some (.fn 367 [])], [.row .int], 0, (.one .B), fun v => pG_slices_ContainsFunc_int_I_areArgs_1 fuel v⟩
theorem c1036600 : CC o1036600 := fun hcl fuel => mkc hcl (csc (c1037900 hcl fuel) csn) T1036600 fuel Tryz.f366
def T343 : Tab := ⟨[(1, ⟨[], [.sl 2 .B]⟩)], [], []⟩
def pI_areArgs (fuel : Nat) (a1 : List Int) : Option Bool :=
  bd (α := Bool) (
    br (decide ((↑a1.length : Int) ≤ 8)) (
      bd (pG_slices_ContainsFunc_int_I_areArgs_1 fuel a1) fun x2 =>
      some (!x2)) <|
    some false) fun x3 =>
  some x3
def o343 (fuel : Nat) : Orc := ⟨343, [none], [.row .int], 0, (.one .B), fun v => pI_areArgs fuel v⟩
theorem c343 : CC o343 := fun hcl fuel => mkc hcl (csc (c1036600 hcl fuel) csn) T343 fuel Tryz.f343
def T307 : Tab := ⟨[(3, ⟨[], [.sl 2 .B]⟩), (5, ⟨[], [.sl 2 .B]⟩), (8, ⟨[], [.sl 2 .B]⟩)], [(8, false, ⟨[(1, .ptr 200 0)], [.sto 200 .iVp [], .sl 44 .B]⟩)], []⟩
def pI_VpOk (fuel : Nat) (a1 : IVp) : Option Bool :=
  br (a1.State == 0) (
    bd (α := Bool) (
      br (!a1.Mark) (
        br ((↑a1.Args.length : Int) == 0) (
          br ((↑a1.Part.length : Int) == 0) (
            some true) <|
          bd (pI_RuneBegin fuel a1.Part) fun x2 =>
          some x2) <|
        some false) <|
      some false) fun x3 =>
    some x3) <|
  br (a1.State == 1) (
    bd (α := Bool) (
      br (!a1.Mark) (
        br ((↑a1.Args.length : Int) == 0) (
          some ((↑a1.Part.length : Int) == 0)) <|
        some false) <|
      some false) fun x4 =>
    some x4) <|
  bd (α := IVp × Bool) (
    br (a1.State == 2) (
      some (a1, a1.State == 2)) <|
    some (a1, a1.State == 3)) fun (x5, x6) =>
  br x6 (
    bd (α := Bool) (
      bd (pI_areArgs fuel x5.Args) fun x7 =>
      br x7 (
        some ((↑x5.Part.length : Int) == 0)) <|
      some false) fun x8 =>
    some x8) <|
  some false
def o307 (fuel : Nat) : Orc := ⟨307, [none], [.st .iVp []], 0, (.one .B), fun v => pI_VpOk fuel v⟩
theorem c307 : CC o307 := fun hcl fuel => mkc hcl (csc (c342 hcl fuel) (csc (c343 hcl fuel) csn)) T307 fuel Tryz.f307
def T123 : Tab := ⟨[(1, ⟨[], [.sl 6 .B]⟩)], [], []⟩
def pI_Grid_has (fuel : Nat) (a1 : IGrid) (a2 : Int) (a3 : Int) : Option Bool :=
  bd (α := Bool) (
    gd (inK IntKind.i64 (a1.W - 1)) <|
    bd (pI_within fuel a2 0 (a1.W - 1)) fun x4 =>
    br x4 (
      gd (inK IntKind.i64 (a1.H - 1)) <|
      bd (pI_within fuel a3 0 (a1.H - 1)) fun x5 =>
      some x5) <|
    some false) fun x6 =>
  some x6
def o123 (fuel : Nat) : Orc := ⟨123, [none, none, none], [.st .iGrid [], .I .i64, .I .i64], 0, (.one .B), fun v => pI_Grid_has fuel v.1 v.2.1 v.2.2⟩
theorem c123 : CC o123 := fun hcl fuel => mkc hcl (csc (c74 hcl fuel) csn) T123 fuel Tryz.f123
def T287 : Tab := ⟨[(1, ⟨[], [.sl 2 .B]⟩)], [], []⟩
def pI_AttrOk (fuel : Nat) (a1 : IAttr) : Option Bool :=
  bd (α := Bool) (
    bd (pI_within fuel a1.Fg 0 8) fun x2 =>
    br x2 (
      bd (pI_within fuel a1.Bg 0 8) fun x3 =>
      some x3) <|
    some false) fun x4 =>
  some x4
def o287 (fuel : Nat) : Orc := ⟨287, [none], [.st .iAttr []], 0, (.one .B), fun v => pI_AttrOk fuel v⟩
theorem c287 : CC o287 := fun hcl fuel => mkc hcl (csc (c74 hcl fuel) csn) T287 fuel Tryz.f287
def T215 : Tab := ⟨[(1, ⟨[], [.sl 2 .B]⟩)], [], []⟩
def pI_CellOk (fuel : Nat) (a1 : ICell) : Option Bool :=
  bd (α := Bool) (
    bd (pI_Shows fuel a1.R) fun x2 =>
    br x2 (
      bd (pI_AttrOk fuel a1.A) fun x3 =>
      some x3) <|
    some false) fun x4 =>
  some x4
def o215 (fuel : Nat) : Orc := ⟨215, [none], [.st .iCell []], 0, (.one .B), fun v => pI_CellOk fuel v⟩
theorem c215 : CC o215 := fun hcl fuel => mkc hcl (csc (c286 hcl fuel) (csc (c287 hcl fuel) csn)) T215 fuel Tryz.f215
def T314 : Tab := ⟨[], [], []⟩
def pI_areCells_1 (fuel : Nat) (a1 : ICell) : Option Bool :=
  bd (pI_CellOk fuel a1) fun x2 =>
  some (!x2)
def o314 (fuel : Nat) : Orc := ⟨314, [none], [.st .iCell []], 0, (.one .B), fun v => pI_areCells_1 fuel v⟩
theorem c314 : CC o314 := fun hcl fuel => mkc hcl (csc (c215 hcl fuel) csn) T314 fuel Tryz.f314
def T1035300 : Tab := ⟨[], [], [(2, true, ⟨[(1, .fn 314 [])], [.sl 0 (.row .iCell), .sl 7 (.I .i64), .sl 8 (.I .i64)]⟩, 0, ⟨[], []⟩)]⟩
def pG_slices_IndexFunc_ICell_I_areCells_1_b1 (fuel : Nat) : List ICell × Int × Int → Option ((List ICell × Int × Int) ⊕ (Unit ⊕ Int)) := fun (v3, v4, v5) =>
  br (decide (v5 < v4)) (
    gd (0 ≤ v5 ∧ v5 < (↑v3.length : Int)) <|
    bd v3[v5.toNat]? fun x6 =>
    bd (pI_areCells_1 fuel x6) fun x7 =>
    br x7 (
      some (.inr (.inr v5))) <|
    gd (inK IntKind.i64 (v5 + 1)) <|
    some (.inl (v3, v4, v5 + 1))) <|
  some (.inr (.inl ()))
def pG_slices_IndexFunc_ICell_I_areCells_1 (fuel : Nat) (a1 : List ICell) : Option Int :=
  jn (V := Unit) (
    loopF (pG_slices_IndexFunc_ICell_I_areCells_1_b1 fuel) fuel (a1, (↑a1.length : Int), 0)) fun _ =>
  some (-1)
def o1035300 (fuel : Nat) : Orc := ⟨353, [none, some (.fn 314 [])], [.row .iCell], 0, (.one (.I .i64)), fun v => pG_slices_IndexFunc_ICell_I_areCells_1 fuel v⟩
theorem c1035300 : CC o1035300 := fun hcl fuel => mkc hcl (csc (c314 hcl fuel) csn) T1035300 fuel Tryz.f353
def T1031300 : Tab := ⟨[], [], []⟩
def pG_slices_ContainsFunc_ICell_I_areCells_1 (fuel : Nat) (a1 : List ICell) : Option Bool :=
  bd (pG_slices_IndexFunc_ICell_I_areCells_1 fuel a1) fun x2 =>
  some (decide (0 ≤ x2))
def o1031300 (fuel : Nat) : Orc := ⟨313, [none, some (.fn 314 [])], [.row .iCell], 0, (.one .B), fun v => pG_slices_ContainsFunc_ICell_I_areCells_1 fuel v⟩
theorem c1031300 : CC o1031300 := fun hcl fuel => mkc hcl (csc (c1035300 hcl fuel) csn) T1031300 fuel Tryz.f313
def T285 : Tab := ⟨[], [], []⟩
def pI_areCells (fuel : Nat) (a1 : List ICell) : Option Bool :=
  bd (pG_slices_ContainsFunc_ICell_I_areCells_1 fuel a1) fun x2 =>
  some (!x2)
def o285 (fuel : Nat) : Orc := ⟨285, [none], [.row .iCell], 0, (.one .B), fun v => pI_areCells fuel v⟩
theorem c285 : CC o285 := fun hcl fuel => mkc hcl (csc (c1031300 hcl fuel) csn) T285 fuel Tryz.f285
def T214 : Tab := ⟨[(1, ⟨[], [.sl 2 .B]⟩)], [], []⟩
def pI_GridOk (fuel : Nat) (a1 : IGrid) : Option Bool :=
  bd (α := Bool) (
    bd (pI_isSize fuel a1.W a1.H) fun x2 =>
    br x2 (
      gd (inK IntKind.i64 (a1.W * a1.H)) <|
      br ((↑a1.Cells.length : Int) == a1.W * a1.H) (
        bd (pI_areCells fuel a1.Cells) fun x3 =>
        some x3) <|
      some false) <|
    some false) fun x4 =>
  some x4
def o214 (fuel : Nat) : Orc := ⟨214, [none], [.st .iGrid []], 0, (.one .B), fun v => pI_GridOk fuel v⟩
theorem c214 : CC o214 := fun hcl fuel => mkc hcl (csc (c43 hcl fuel) (csc (c285 hcl fuel) csn)) T214 fuel Tryz.f214
def T344 : Tab := ⟨[(4, ⟨[], [.sl 0 (.row .int), .sl 1 (.I .i64), .sl 2 (.I .i64), .sl 9 (.row .int), .sl 10 (.I .i64), .sl 11 (.I .i64), .sl 33 .B]⟩)], [], [(2, true, ⟨[], [.sl 0 (.row .int), .sl 1 (.I .i64), .sl 2 (.I .i64), .sl 9 (.row .int), .sl 10 (.I .i64), .sl 11 (.I .i64)]⟩, 0, ⟨[], []⟩)]⟩
def pI_isAscending_b1 (fuel : Nat) : List Int × Int × Int × List Int × Int × Int → Option ((List Int × Int × Int × List Int × Int × Int) ⊕ (Unit ⊕ Bool)) := fun (v5, v6, v7, v8, v9, v10) =>
  br (decide (v10 < v9)) (
    gd (0 ≤ v10 ∧ v10 < (↑v8.length : Int)) <|
    bd v8[v10.toNat]? fun x11 =>
    bd (α := List Int × Int × Int × List Int × Int × Int × Bool) (
      bd (pI_within fuel x11 v6 v7) fun x12 =>
      br (!x12) (
        some (v5, v6, v7, v8, v9, v10, true)) <|
      br (decide (0 < v10)) (
        gd (inK IntKind.i64 (v10 - 1)) <|
        gd (0 ≤ v10 - 1 ∧ v10 - 1 < (↑v5.length : Int)) <|
        bd (v5[(v10 - 1).toNat]?) fun x13 =>
        some (v5, v6, v7, v8, v9, v10, decide (x11 ≤ x13))) <|
      some (v5, v6, v7, v8, v9, v10, false)) fun (x14, x15, x16, x17, x18, x19, x20) =>
    br x20 (
      some (.inr (.inr false))) <|
    gd (inK IntKind.i64 (x19 + 1)) <|
    some (.inl (x14, x15, x16, x17, x18, x19 + 1))) <|
  some (.inr (.inl ()))
def pI_isAscending (fuel : Nat) (a1 : List Int) (a2 : Int) (a3 : Int) : Option Bool :=
  jn (V := Unit) (
    loopF (pI_isAscending_b1 fuel) fuel (a1, a2, a3, a1, (↑a1.length : Int), 0)) fun _ =>
  some true
def o344 (fuel : Nat) : Orc := ⟨344, [none, none, none], [.row .int, .I .i64, .I .i64], 0, (.one .B), fun v => pI_isAscending fuel v.1 v.2.1 v.2.2⟩
theorem c344 : CC o344 := fun hcl fuel => mkc hcl (csc (c74 hcl fuel) csn) T344 fuel Tryz.f344
def T369 : Tab := ⟨[(1, ⟨[], [.sl 2 .B]⟩)], [], []⟩
def pI_backOk_1 (fuel : Nat) (a1 : IRow) : Option Bool :=
  bd (α := Bool) (
    bd (pI_within fuel (↑a1.Cells.length : Int) 1 120) fun x2 =>
    br (!x2) (
      some true) <|
    bd (pI_areCells fuel a1.Cells) fun x3 =>
    some (!x3)) fun x4 =>
  some x4
def o369 (fuel : Nat) : Orc := ⟨369, [none], [.st .iRow []], 0, (.one .B), fun v => pI_backOk_1 fuel v⟩
theorem c369 : CC o369 := fun hcl fuel => mkc hcl (csc (c74 hcl fuel) (csc (c285 hcl fuel) csn)) T369 fuel Tryz.f369
def T1038000 : Tab := ⟨[], [], [(2, true, ⟨[(1, .fn 369 [])], [.sl 0 (.row .iRow), .sl 7 (.I .i64), .sl 8 (.I .i64)]⟩, 0, ⟨[], []⟩)]⟩
def pG_slices_IndexFunc_IRow_I_backOk_1_b1 (fuel : Nat) : List IRow × Int × Int → Option ((List IRow × Int × Int) ⊕ (Unit ⊕ Int)) := fun (v3, v4, v5) =>
  br (decide (v5 < v4)) (
    gd (0 ≤ v5 ∧ v5 < (↑v3.length : Int)) <|
    bd v3[v5.toNat]? fun x6 =>
    bd (pI_backOk_1 fuel x6) fun x7 =>
    br x7 (
      some (.inr (.inr v5))) <|
    gd (inK IntKind.i64 (v5 + 1)) <|
    some (.inl (v3, v4, v5 + 1))) <|
  some (.inr (.inl ()))
def pG_slices_IndexFunc_IRow_I_backOk_1 (fuel : Nat) (a1 : List IRow) : Option Int :=
  jn (V := Unit) (
    loopF (pG_slices_IndexFunc_IRow_I_backOk_1_b1 fuel) fuel (a1, (↑a1.length : Int), 0)) fun _ =>
  some (-1)
def o1038000 (fuel : Nat) : Orc := ⟨380, [none, some (.fn 369 [])], [.row .iRow], 0, (.one (.I .i64)), fun v => pG_slices_IndexFunc_IRow_I_backOk_1 fuel v⟩
theorem c1038000 : CC o1038000 := fun hcl fuel => mkc hcl (csc (c369 hcl fuel) csn) T1038000 fuel Tryz.f380
def T1036800 : Tab := ⟨[], [], []⟩
def pG_slices_ContainsFunc_IRow_I_backOk_1 (fuel : Nat) (a1 : List IRow) : Option Bool :=
  bd (pG_slices_IndexFunc_IRow_I_backOk_1 fuel a1) fun x2 =>
  some (decide (0 ≤ x2))
def o1036800 (fuel : Nat) : Orc := ⟨368, [none, some (.fn 369 [])], [.row .iRow], 0, (.one .B), fun v => pG_slices_ContainsFunc_IRow_I_backOk_1 fuel v⟩
theorem c1036800 : CC o1036800 := fun hcl fuel => mkc hcl (csc (c1038000 hcl fuel) csn) T1036800 fuel Tryz.f368
def T345 : Tab := ⟨[(1, ⟨[], [.sl 4 .B]⟩)], [], []⟩
def pI_backOk (fuel : Nat) (a1 : List IRow) (a2 : Int) : Option Bool :=
  bd (α := Bool) (
    br (decide ((↑a1.length : Int) ≤ a2)) (
      bd (pG_slices_ContainsFunc_IRow_I_backOk_1 fuel a1) fun x3 =>
      some (!x3)) <|
    some false) fun x4 =>
  some x4
def o345 (fuel : Nat) : Orc := ⟨345, [none, none], [.row .iRow, .I .i64], 0, (.one .B), fun v => pI_backOk fuel v.1 v.2⟩
theorem c345 : CC o345 := fun hcl fuel => mkc hcl (csc (c1036800 hcl fuel) csn) T345 fuel Tryz.f345
def T308 : Tab := ⟨[(4, ⟨[(1, .ptr 200 0)], [.sto 200 .iScr [], .sl 9 (.own .iGrid 1000), .sl 10 (.I .i64), .sl 11 (.I .i64), .sl 31 .B]⟩), (7, ⟨[(1, .ptr 200 0)], [.sto 200 .iScr [], .sl 74 .B]⟩), (9, ⟨[(1, .ptr 200 0)], [.sto 200 .iScr [], .sl 103 .B]⟩), (11, ⟨[], [.sl 2 .B]⟩)], [], [(2, true, ⟨[(1, .ptr 200 0)], [.sto 200 .iScr [], .sl 9 (.own .iGrid 1000), .sl 10 (.I .i64), .sl 11 (.I .i64)]⟩, 0, ⟨[(1, .ptr 200 0)], [.sto 200 .iScr []]⟩)]⟩
def pI_ScrOk_b1 (fuel : Nat) : IScr × List IGrid × Int × Int → Option ((IScr × List IGrid × Int × Int) ⊕ (IScr ⊕ Bool)) := fun (v18, v19, v20, v21) =>
  br (decide (v21 < v20)) (
    gd (0 ≤ v21 ∧ v21 < (↑v19.length : Int)) <|
    bd (v19[0 + v21.toNat]?) fun x22 =>
    bd (α := IScr × List IGrid × Int × Int × Bool) (
      bd (pI_GridOk fuel x22) fun x23 =>
      br (!x23) (
        some (v18, v19, v20, v21, true)) <|
      br (x22.W != v18.W) (
        some (v18, v19, v20, v21, true)) <|
      some (v18, v19, v20, v21, x22.H != v18.H)) fun (x24, x25, x26, x27, x28) =>
    br x28 (
      some (.inr (.inr false))) <|
    gd (inK IntKind.i64 (x27 + 1)) <|
    some (.inl (x24, x25, x26, x27 + 1))) <|
  some (.inr (.inl v18))
def pI_ScrOk (fuel : Nat) (a1 : IScr) : Option Bool :=
  jn (V := IScr) (
    loopF (pI_ScrOk_b1 fuel) fuel (a1, [a1.Main, a1.Alt], (↑2 : Int), 0)) fun v3 =>
  bd (α := IScr × Bool) (
    bd (pI_Grid_has fuel v3.Main v3.X v3.Y) fun x4 =>
    br (!x4) (
      some (v3, true)) <|
    bd (pI_Grid_has fuel v3.Main v3.SaveX v3.SaveY) fun x5 =>
    br (!x5) (
      some (v3, true)) <|
    br v3.Wrap (
      gd (inK IntKind.i64 (v3.W - 1)) <|
      br (v3.X != v3.W - 1) (
        some (v3, true)) <|
      bd (pI_AttrOk fuel v3.A) fun x6 =>
      br (!x6) (
        some (v3, true)) <|
      bd (pI_AttrOk fuel v3.SaveA) fun x7 =>
      some (v3, !x7)) <|
    bd (pI_AttrOk fuel v3.A) fun x8 =>
    br (!x8) (
      some (v3, true)) <|
    bd (pI_AttrOk fuel v3.SaveA) fun x9 =>
    some (v3, !x9)) fun (x10, x11) =>
  br x11 (
    some false) <|
  bd (α := IScr × Bool) (
    br (decide (x10.Top < 0)) (
      some (x10, true)) <|
    br (decide (x10.Bot < x10.Top)) (
      some (x10, true)) <|
    br (decide (x10.H ≤ x10.Bot)) (
      some (x10, true)) <|
    br (x10.Top == x10.Bot) (
      some (x10, x10.H != 1)) <|
    some (x10, false)) fun (x12, x13) =>
  br x13 (
    some false) <|
  bd (α := Bool) (
    gd (inK IntKind.i64 (x12.W - 1)) <|
    bd (pI_isAscending fuel x12.Tabs 0 (x12.W - 1)) fun x14 =>
    br x14 (
      bd (pI_within fuel x12.Limit 0 100) fun x15 =>
      br x15 (
        bd (pI_backOk fuel x12.Back x12.Limit) fun x16 =>
        some x16) <|
      some false) <|
    some false) fun x17 =>
  some x17
def o308 (fuel : Nat) : Orc := ⟨308, [none], [.st .iScr []], 0, (.one .B), fun v => pI_ScrOk fuel v⟩
theorem c308 : CC o308 := fun hcl fuel => mkc hcl (csc (c214 hcl fuel) (csc (c123 hcl fuel) (csc (c287 hcl fuel) (csc (c344 hcl fuel) (csc (c74 hcl fuel) (csc (c345 hcl fuel) csn)))))) T308 fuel Tryz.f308
def T267 : Tab := ⟨[(1, ⟨[], [.sl 2 .B]⟩)], [], []⟩
def pI_TermOk (fuel : Nat) (a1 : ITerm) : Option Bool :=
  bd (α := Bool) (
    bd (pI_VpOk fuel a1.P) fun x2 =>
    br x2 (
      bd (pI_ScrOk fuel a1.S) fun x3 =>
      some x3) <|
    some false) fun x4 =>
  some x4
def o267 (fuel : Nat) : Orc := ⟨267, [none], [.st .iTerm []], 0, (.one .B), fun v => pI_TermOk fuel v⟩
theorem c267 : CC o267 := fun hcl fuel => mkc hcl (csc (c307 hcl fuel) (csc (c308 hcl fuel) csn)) T267 fuel Tryz.f267
def T185 : Tab := ⟨[(1, ⟨[(1, .ptr 200 0)], [.sto 200 .iPane [], .sl 24 .B]⟩), (5, ⟨[], [.sl 2 .B]⟩), (7, ⟨[], [.sl 2 .B]⟩), (9, ⟨[], [.sl 2 .B]⟩)], [], []⟩
def pI_PaneOk (fuel : Nat) (a1 : IPane) : Option Bool :=
  bd (α := IPane × Bool) (
    bd (pI_isId fuel a1.Id) fun x2 =>
    br (!x2) (
      some (a1, true)) <|
    bd (pI_isCmd fuel a1.Cmd) fun x3 =>
    br (!x3) (
      some (a1, true)) <|
    bd (pI_isCmd fuel a1.Dir) fun x4 =>
    br (!x4) (
      some (a1, true)) <|
    bd (pI_TermOk fuel a1.Term) fun x5 =>
    some (a1, !x5)) fun (x6, x7) =>
  br x7 (
    some false) <|
  br (x6.Life == 1) (
    bd (α := Bool) (
      bd (pI_isId fuel x6.Pid) fun x8 =>
      br x8 (
        some (x6.Code == 0)) <|
      some false) fun x9 =>
    some x9) <|
  br (x6.Life == 2) (
    bd (α := Bool) (
      bd (pI_within fuel x6.Code 0 255) fun x10 =>
      br x10 (
        some (x6.Pid == 0)) <|
      some false) fun x11 =>
    some x11) <|
  br (x6.Life == 3) (
    bd (α := Bool) (
      br (x6.Code == 0) (
        some (x6.Pid == 0)) <|
      some false) fun x12 =>
    some x12) <|
  some false
def o185 (fuel : Nat) : Orc := ⟨185, [none], [.st .iPane []], 0, (.one .B), fun v => pI_PaneOk fuel v⟩
theorem c185 : CC o185 := fun hcl fuel => mkc hcl (csc (c101 hcl fuel) (csc (c242 hcl fuel) (csc (c267 hcl fuel) (csc (c74 hcl fuel) csn)))) T185 fuel Tryz.f185
def T102 : Tab := ⟨[(5, ⟨[(1, .ptr 200 0), (3, .ptr 700 0), (5, .ptr 600 0)], [.sto 200 .iState [], .sto 600 .iPane [], .ob 700, .sl 8 (.row .iPane), .sl 9 (.I .i64), .sl 10 (.I .i64), .sl 56 .B]⟩), (7, ⟨[(1, .ptr 200 0), (3, .ptr 700 0), (5, .ptr 600 0)], [.sto 200 .iState [], .sto 600 .iPane [], .ob 700, .sl 8 (.row .iPane), .sl 9 (.I .i64), .sl 10 (.I .i64), .sl 65 .B]⟩), (9, ⟨[(1, .ptr 200 0), (3, .ptr 700 0)], [.sto 200 .iState [], .ob 700, .sl 8 (.row .iPane), .sl 9 (.I .i64), .sl 10 (.I .i64)]⟩)], [], [(3, true, ⟨[(1, .ptr 200 0), (3, .ptr 700 0)], [.sto 200 .iState [], .ob 700, .sl 8 (.row .iPane), .sl 9 (.I .i64), .sl 10 (.I .i64)]⟩, 0, ⟨[(1, .ptr 200 0)], [.sto 200 .iState []]⟩)]⟩
def pI_State_panesOk_b1 (fuel : Nat) : IState × Obj × List IPane × Int × Int → Option ((IState × Obj × List IPane × Int × Int) ⊕ (IState ⊕ Bool)) := fun (v4, v5, v6, v7, v8) =>
  br (decide (v8 < v7)) (
    gd (0 ≤ v8 ∧ v8 < (↑v6.length : Int)) <|
    bd v6[v8.toNat]? fun x9 =>
    bd (α := IState × IPane × Obj × List IPane × Int × Int × Bool) (
      bd (pI_PaneOk fuel x9) fun x10 =>
      br (!x10) (
        some (v4, x9, v5, v6, v7, v8, true)) <|
      br (decide (v4.Next ≤ x9.Id)) (
        some (v4, x9, v5, v6, v7, v8, true)) <|
      br (decide (0 < v8)) (
        gd (inK IntKind.i64 (v8 - 1)) <|
        gd (0 ≤ v8 - 1 ∧ v8 - 1 < (↑v4.Panes.length : Int)) <|
        bd (v4.Panes[(v8 - 1).toNat]?) fun x11 =>
        br (decide (x9.Id ≤ x11.Id)) (
          some (v4, x9, v5, v6, v7, v8, true)) <|
        bd (pI_WinAt fuel v4 x9.Id) fun x12 =>
        br (decide (0 ≤ x12)) (
          some (v4, x9, v5, v6, v7, v8, true)) <|
        some (v4, x9, v5, v6, v7, v8, x9.Term.S.Limit != v4.Limit)) <|
      bd (pI_WinAt fuel v4 x9.Id) fun x13 =>
      br (decide (0 ≤ x13)) (
        some (v4, x9, v5, v6, v7, v8, true)) <|
      some (v4, x9, v5, v6, v7, v8, x9.Term.S.Limit != v4.Limit)) fun (x14, x15, x16, x17, x18, x19, x20) =>
    br x20 (
      some (.inr (.inr false))) <|
    bd (α := IState × IPane × Obj × List IPane × Int × Int × Bool) (
      br (x15.Life == 1) (
        bd (mpB MK.i x16 (Value.int IntKind.i64 x15.Pid)) fun x21 =>
        some (x14, x15, x16, x17, x18, x19, x21)) <|
      some (x14, x15, x16, x17, x18, x19, false)) fun (x22, x23, x24, x25, x26, x27, x28) =>
    br x28 (
      some (.inr (.inr false))) <|
    bd (α := IState × Obj × List IPane × Int × Int) (
      bd (mpB MK.i x24 (Value.int IntKind.i64 x23.Pid)) fun x29 =>
      br x29 (
        bd (mpPut MK.i x24 (Value.int IntKind.i64 x23.Pid) (Value.bool true)) fun x30 =>
        some (x22, x30, x25, x26, x27)) <|
      bd (mpPut MK.i x24 (Value.int IntKind.i64 x23.Pid) (Value.bool (x23.Life == 1))) fun x31 =>
      some (x22, x31, x25, x26, x27)) fun (x32, x33, x34, x35, x36) =>
    gd (inK IntKind.i64 (x36 + 1)) <|
    some (.inl (x32, x33, x34, x35, x36 + 1))) <|
  some (.inr (.inl v4))
def pI_State_panesOk (fuel : Nat) (a1 : IState) : Option Bool :=
  jn (V := IState) (
    loopF (pI_State_panesOk_b1 fuel) fuel (a1, emptyM, a1.Panes, (↑a1.Panes.length : Int), 0)) fun v3 =>
  some (decide ((↑v3.Panes.length : Int) ≤ 24))
def o102 (fuel : Nat) : Orc := ⟨102, [none], [.st .iState []], 0, (.one .B), fun v => pI_State_panesOk fuel v⟩
theorem c102 : CC o102 := fun hcl fuel => mkc hcl (csc (c185 hcl fuel) (csc (c44 hcl fuel) csn)) T102 fuel Tryz.f102
def T211 : Tab := ⟨[], [], []⟩
def pI_Node_isLeaf (fuel : Nat) (a1 : INode) : Option Bool :=
  some (a1.Pane != 0)
def o211 (fuel : Nat) : Orc := ⟨211, [none], [.st .iNode []], 0, (.one .B), fun v => pI_Node_isLeaf fuel v⟩
theorem c211 : CC o211 := fun hcl fuel => mkc hcl csn T211 fuel Tryz.f211
def T212 : Tab := ⟨[], [(5, false, ⟨[(2, .ptr 300 0), (3, .ptr 400 0), (4, .ptr 500 0), (5, .ptr 600 0), (7, .ptr 800 0), (8, .ptr 900 0)], [.sto 300 .iNode [], .sto 400 .iRect [], .sto 500 .iRect [], .sto 600 .iRect [], .sto 800 .iRect [], .sto 900 .iRect [], .sl 9 (.I .i64)]⟩), (9, false, ⟨[(4, .ptr 500 0), (5, .ptr 600 0), (7, .ptr 800 0), (8, .ptr 900 0)], [.sto 500 .iRect [], .sto 600 .iRect [], .sto 800 .iRect [], .sto 900 .iRect [], .sl 9 (.I .i64)]⟩)], []⟩
def pI_partsOf (fuel : Nat) (a1 : INode) (a2 : IRect) : Option (IRect × IRect × Bool) :=
  bd (α := INode × IRect × IRect × IRect × IRect × IRect × Int) (
    br a1.Down (
      some (a1, a2, IRect.mk 0 0 0 0 0, IRect.mk 0 0 0 0 0, a2, a2, a2.H)) <|
    some (a1, a2, IRect.mk 0 0 0 0 0, IRect.mk 0 0 0 0 0, a2, a2, a2.W)) fun (x3, x4, x5, x6, x7, x8, x9) =>
  gd (inK IntKind.i64 (x9 - 2)) <|
  bd (α := IRect × IRect × IRect × IRect × Int) (
    br x3.Down (
      gd (inK IntKind.i64 (x4.Y + if x9 - 2 < x3.First then x9 - 2 else x3.First)) <|
      gd (inK IntKind.i64 ((x4.Y + if x9 - 2 < x3.First then x9 - 2 else x3.First) + 1)) <|
      gd (inK IntKind.i64 (x9 - if x9 - 2 < x3.First then x9 - 2 else x3.First)) <|
      gd (inK IntKind.i64 ((x9 - if x9 - 2 < x3.First then x9 - 2 else x3.First) - 1)) <|
      some (x5, x6, IRect.mk x7.Pane x7.X x7.Y x7.W (if x9 - 2 < x3.First then x9 - 2 else x3.First), IRect.mk x8.Pane x8.X ((x4.Y + if x9 - 2 < x3.First then x9 - 2 else x3.First) + 1) x8.W ((x9 - if x9 - 2 < x3.First then x9 - 2 else x3.First) - 1), x9)) <|
    gd (inK IntKind.i64 (x4.X + if x9 - 2 < x3.First then x9 - 2 else x3.First)) <|
    gd (inK IntKind.i64 ((x4.X + if x9 - 2 < x3.First then x9 - 2 else x3.First) + 1)) <|
    gd (inK IntKind.i64 (x9 - if x9 - 2 < x3.First then x9 - 2 else x3.First)) <|
    gd (inK IntKind.i64 ((x9 - if x9 - 2 < x3.First then x9 - 2 else x3.First) - 1)) <|
    some (x5, x6, IRect.mk x7.Pane x7.X x7.Y (if x9 - 2 < x3.First then x9 - 2 else x3.First) x7.H, IRect.mk x8.Pane ((x4.X + if x9 - 2 < x3.First then x9 - 2 else x3.First) + 1) x8.Y ((x9 - if x9 - 2 < x3.First then x9 - 2 else x3.First) - 1) x8.H, x9)) fun (x10, x11, x12, x13, x14) =>
  some (x12, x13, decide (3 ≤ x14))
def o212 (fuel : Nat) : Orc := ⟨212, [none, none], [.st .iNode [], .st .iRect []], 0, (.tup [.st .iRect [], .st .iRect [], .B]), fun v => pI_partsOf fuel v.1 v.2⟩
theorem c212 : CC o212 := fun hcl fuel => mkc hcl csn T212 fuel Tryz.f212
def T213 : Tab := ⟨[(1, ⟨[], [.sl 0 (.row .iNode), .sl 1 (.I .i64), .sl 13 .B]⟩), (5, ⟨[], [.sl 1 (.I .i64), .sl 33 .B]⟩)], [], []⟩
def pI_endOf (fuel : Nat) (slf : List INode × Int → Option Int) : List INode × Int → Option Int := fun (a1, a2) =>
  bd (α := List INode × Int × Bool) (
    br (decide (a2 < 0)) (
      some (a1, a2, true)) <|
    some (a1, a2, decide ((↑a1.length : Int) ≤ a2))) fun (x3, x4, x5) =>
  br x5 (
    some (-1)) <|
  gd (0 ≤ x4 ∧ x4 < (↑x3.length : Int)) <|
  bd x3[x4.toNat]? fun x6 =>
  bd (pI_Node_isLeaf fuel x6) fun x7 =>
  br x7 (
    bd (α := Int × Bool) (
      bd (pI_isId fuel x6.Pane) fun x8 =>
      br (!x8) (
        some (x4, true)) <|
      br x6.Down (
        some (x4, true)) <|
      some (x4, x6.First != 0)) fun (x9, x10) =>
    br x10 (
      some (-1)) <|
    gd (inK IntKind.i64 (x9 + 1)) <|
    some (x9 + 1)) <|
  bd (pI_within fuel x6.First 1 120) fun x11 =>
  br (!x11) (
    some (-1)) <|
  gd (inK IntKind.i64 (x4 + 1)) <|
  bd (slf (x3, x4 + 1)) fun x12 =>
  bd (slf (x3, x12)) fun x13 =>
  some x13
def o213 (fuel : Nat) : Orc := ⟨213, [none, none], [.row .iNode, .I .i64], 0, (.one (.I .i64)), recF (pI_endOf fuel) fuel⟩
theorem c213 {G : Nat} {E : World → Prop} (hcl : Cl G E) (fuel : Nat) : Ctr Tryz.prog G E (o213 fuel) := Ctr.rec (fun slf h => Ctr.mk (o := ⟨213, [none, none], [.row .iNode, .I .i64], 0, (.one (.I .i64)), pI_endOf fuel slf⟩) (csc h (csc (c211 hcl fuel) (csc (c101 hcl fuel) (csc (c74 hcl fuel) csn)))) facts mixed hcl.cl T213 fuel (fn := Tryz.f213) (by kernel_rfl) rfl (by kernel_rfl) (fun _ => by kernel_rfl) (fun _ _ => by kernel_rfl) (fun _ => by kernel_rfl)) fuel
def T1021000 : Tab := ⟨[(3, ⟨[(2, .ptr 0 0), (4, .ptr 2 0), (5, .ptr 3 0), (7, .ptr 800 0)], [.bxl 0 [.row .iNode], .bxl 2 [.B], .bxl 3 [.cfn 210 [(0, 0), (1, 0), (2, 0), (3, 0)]], .sto 800 .iRect [], .bxl 1 [.own .iRect 80001000], .sl 0 (.I .i64), .sl 29 .B]⟩)], [], []⟩
def pI_areasOf_1 (fuel : Nat) (slf : Int × IRect × List INode × List IRect × Bool × Unit → Option (List INode × List IRect × Bool × Unit)) : Int × IRect × List INode × List IRect × Bool × Unit → Option (List INode × List IRect × Bool × Unit) := fun (a1, a2, a3, a4, a5, a6) =>
  gd (0 ≤ a1 ∧ a1 < (↑a3.length : Int)) <|
  bd a3[a1.toNat]? fun x7 =>
  gd (roomB K.iRect (a4 ++ [IRect.mk x7.Pane a2.X a2.Y a2.W a2.H]).length) <|
  bd (α := List INode × Bool × Unit × IRect × List IRect × Int × Bool) (
    gd (0 ≤ a1 ∧ a1 < (↑a3.length : Int)) <|
    bd a3[a1.toNat]? fun x8 =>
    bd (pI_Node_isLeaf fuel x8) fun x9 =>
    br x9 (
      some (a3, a5, (), IRect.mk x7.Pane a2.X a2.Y a2.W a2.H, a4 ++ [IRect.mk x7.Pane a2.X a2.Y a2.W a2.H], a1, true)) <|
    some (a3, a5, (), IRect.mk x7.Pane a2.X a2.Y a2.W a2.H, a4 ++ [IRect.mk x7.Pane a2.X a2.Y a2.W a2.H], a1, !a5)) fun (x10, x11, x12, x13, x14, x15, x16) =>
  br x16 (
    some (x10, x14, x11, ())) <|
  gd (0 ≤ x15 ∧ x15 < (↑x10.length : Int)) <|
  bd x10[x15.toNat]? fun x17 =>
  bd (pI_partsOf fuel x17 x13) fun (x18, x19, x20) =>
  br (!x20) (
    some (x10, x14, x20, ())) <|
  gd (inK IntKind.i64 (x15 + 1)) <|
  bd (slf (x15 + 1, x18, x10, x14, x20, ())) fun (x21, x22, x23, x24) =>
  br x23 (
    gd (inK IntKind.i64 (x15 + 1)) <|
    bd (recF (pI_endOf fuel) fuel (x21, x15 + 1)) fun x25 =>
    bd (slf (x25, x19, x21, x22, x23, ())) fun (x26, x27, x28, x29) =>
    some (x26, x27, x28, ())) <|
  some (x21, x22, x23, ())
def o1021000 (fuel : Nat) : Orc := ⟨210, [none, none, some (.ptr 0 0 0 0), some (.ptr 1 0 0 0), some (.ptr 2 0 0 0), some (.ptr 3 0 0 0)], [.I .i64, .st .iRect [], .row .iNode, .own .iRect 99, .B, .cfn 210 [(0, 0), (1, 0), (2, 0), (3, 0)]], 4, (.tup [.row .iNode, .own .iRect 99, .B, .cfn 210 [(0, 0), (1, 0), (2, 0), (3, 0)]]), recF (pI_areasOf_1 fuel) fuel⟩
theorem c1021000 {G : Nat} {E : World → Prop} (hcl : Cl G E) (fuel : Nat) : Ctr Tryz.prog G E (o1021000 fuel) := Ctr.rec (fun slf h => Ctr.mk (o := ⟨210, [none, none, some (.ptr 0 0 0 0), some (.ptr 1 0 0 0), some (.ptr 2 0 0 0), some (.ptr 3 0 0 0)], [.I .i64, .st .iRect [], .row .iNode, .own .iRect 99, .B, .cfn 210 [(0, 0), (1, 0), (2, 0), (3, 0)]], 4, (.tup [.row .iNode, .own .iRect 99, .B, .cfn 210 [(0, 0), (1, 0), (2, 0), (3, 0)]]), pI_areasOf_1 fuel slf⟩) (csc h (csc (c211 hcl fuel) (csc (c212 hcl fuel) (csc (c213 hcl fuel) csn)))) facts mixed hcl.cl T1021000 fuel (fn := Tryz.f210) (by kernel_rfl) rfl (by kernel_rfl) (fun _ => by kernel_rfl) (fun _ _ => by kernel_rfl) (fun _ => by kernel_rfl)) fuel
def T125 : Tab := ⟨[], [], []⟩
def pI_areasOf (fuel : Nat) (a1 : List INode) (a2 : Int) (a3 : Int) : Option (List IRect × Bool) :=
  bd (recF (pI_areasOf_1 fuel) fuel (0, IRect.mk 0 0 0 a2 a3, a1, [], true, ())) fun (x4, x5, x6, x7) =>
  some (x5, x6)
def o125 (fuel : Nat) : Orc := ⟨125, [none, none, none], [.row .iNode, .I .i64, .I .i64], 0, (.tup [.own .iRect 99, .B]), fun v => pI_areasOf fuel v.1 v.2.1 v.2.2⟩
theorem c125 : CC o125 := fun hcl fuel => mkc hcl (csc (c1021000 hcl fuel) csn) T125 fuel Tryz.f125
def T189 : Tab := ⟨[], [(7, false, ⟨[], [.sl 3 (.own .int 700), .sl 7 (.row .iNode), .sl 8 (.I .i64), .sl 9 (.I .i64)]⟩)], [(3, false, ⟨[], [.sl 3 (.own .int 700), .sl 7 (.row .iNode), .sl 8 (.I .i64), .sl 9 (.I .i64)]⟩, 0, ⟨[], [.sl 3 (.own .int 700)]⟩)]⟩
def pI_leaves_b1 (fuel : Nat) : List Int × List INode × Int × Int → Option ((List Int × List INode × Int × Int) ⊕ (List Int)) := fun (v4, v5, v6, v7) =>
  br (decide (v7 < v6)) (
    bd (α := List Int × List INode × Int × Int) (
      gd (0 ≤ v7 ∧ v7 < (↑v5.length : Int)) <|
      bd v5[v7.toNat]? fun x8 =>
      bd (pI_Node_isLeaf fuel x8) fun x9 =>
      br x9 (
        gd (roomB K.int (v4 ++ [x8.Pane]).length) <|
        some (v4 ++ [x8.Pane], v5, v6, v7)) <|
      some (v4, v5, v6, v7)) fun (x10, x11, x12, x13) =>
    gd (inK IntKind.i64 (x13 + 1)) <|
    some (.inl (x10, x11, x12, x13 + 1))) <|
  some (.inr v4)
def pI_leaves (fuel : Nat) (a1 : List INode) : Option (List Int) :=
  bd (α := List Int) (
    loopF (pI_leaves_b1 fuel) fuel ([], a1, (↑a1.length : Int), 0)) fun x3 =>
  some x3
def o189 (fuel : Nat) : Orc := ⟨189, [none], [.row .iNode], 0, (.one (.own .int 99)), fun v => pI_leaves fuel v⟩
theorem c189 : CC o189 := fun hcl fuel => mkc hcl (csc (c211 hcl fuel) csn) T189 fuel Tryz.f189
def T273 : Tab := ⟨[], [], []⟩
def pG_slices_Clone_int (fuel : Nat) (a1 : List Int) : Option (List Int) :=
  cmpN a1 (
    some []) <|
  gd (roomB K.int ([] ++ a1).length) <|
  some ([] ++ a1)
def o273 (fuel : Nat) : Orc := ⟨273, [none], [.row .int], 0, (.one (.own .int 99)), fun v => pG_slices_Clone_int fuel v⟩
theorem c273 : CC o273 := fun hcl fuel => mkc hcl csn T273 fuel Tryz.f273
def T346 : Tab := ⟨[], [(10, false, ⟨[], [.sl 0 (.own .int 90000000), .sl 3 (.I .i64), .sl 4 (.view 90000000), .sl 5 (.I .i64)]⟩)], [(9, false, ⟨[], [.sl 0 (.own .int 90000000), .sl 3 (.I .i64), .sl 4 (.view 90000000), .sl 5 (.I .i64)]⟩, 2, ⟨[], [.sl 0 (.own .int 90000000), .sl 3 (.I .i64)]⟩), (4, true, ⟨[], [.sl 0 (.own .int 90000000), .sl 3 (.I .i64)]⟩, 0, ⟨[], [.sl 0 (.own .int 90000000)]⟩)]⟩
def pG_slices_Compact_int_b2 (fuel : Nat) : List Int × Int × (Nat × Nat) × Int → Option ((List Int × Int × (Nat × Nat) × Int) ⊕ (List Int × Int)) := fun (v11, v12, v13, v14) =>
  br (decide (v14 < (↑v13.snd : Int))) (
    bd (α := List Int × Int × (Nat × Nat) × Int) (
      gd (0 ≤ v14 ∧ v14 < (↑v13.snd : Int)) <|
      bd (v11[v13.fst + v14.toNat]?) fun x15 =>
      gd (inK IntKind.i64 (v14 - 1)) <|
      gd (0 ≤ v14 - 1 ∧ v14 - 1 < (↑v13.snd : Int)) <|
      bd (v11[v13.fst + (v14 - 1).toNat]?) fun x16 =>
      br (x15 != x16) (
        gd (0 ≤ v14 ∧ v14 < (↑v13.snd : Int)) <|
        bd (v11[v13.fst + v14.toNat]?) fun x17 =>
        gd (0 ≤ v12 ∧ v12 < (↑v11.length : Int)) <|
        bd (v11[0 + v12.toNat]?) fun x18 =>
        gd (inK IntKind.i64 (v12 + 1)) <|
        some (v11.set (0 + v12.toNat) x17, v12 + 1, v13, v14)) <|
      some (v11, v12, v13, v14)) fun (x19, x20, x21, x22) =>
    gd (inK IntKind.i64 (x22 + 1)) <|
    some (.inl (x19, x20, x21, x22 + 1))) <|
  some (.inr (v11, v12))
def pG_slices_Compact_int_b1 (fuel : Nat) : List Int × Int → Option ((List Int × Int) ⊕ (List Int ⊕ List Int)) := fun (v4, v5) =>
  br (decide (v5 < (↑v4.length : Int))) (
    gd (0 ≤ v5 ∧ v5 < (↑v4.length : Int)) <|
    bd (v4[0 + v5.toNat]?) fun x6 =>
    gd (inK IntKind.i64 (v5 - 1)) <|
    gd (0 ≤ v5 - 1 ∧ v5 - 1 < (↑v4.length : Int)) <|
    bd (v4[0 + (v5 - 1).toNat]?) fun x7 =>
    br (x6 == x7) (
      gd (0 ≤ v5 ∧ v5 ≤ (↑v4.length : Int)) <|
      bd (α := List Int × Int) (
        loopF (pG_slices_Compact_int_b2 fuel) fuel (v4, v5, (0 + v5.toNat, v4.length - v5.toNat), 1)) fun (x9, x10) =>
      gd (0 ≤ x10 ∧ x10 ≤ (↑x9.length : Int)) <|
      gd (0 ≤ x10 ∧ x10 ≤ (↑x9.length : Int)) <|
      some (.inr (.inr (List.take (x10.toNat - 0) (List.drop (0 + 0) (putL x9 (0 + x10.toNat) (List.replicate (x9.length - x10.toNat) (zK K.int)))))))) <|
    gd (inK IntKind.i64 (v5 + 1)) <|
    some (.inl (v4, v5 + 1))) <|
  some (.inr (.inl v4))
def pG_slices_Compact_int (fuel : Nat) (a1 : List Int) : Option (List Int) :=
  br (decide ((↑a1.length : Int) < 2)) (
    some a1) <|
  jn (V := List Int) (
    loopF (pG_slices_Compact_int_b1 fuel) fuel (a1, 1)) fun v3 =>
  some v3
def o346 (fuel : Nat) : Orc := ⟨346, [none], [.own .int 99], 0, (.one (.row .int)), fun v => pG_slices_Compact_int fuel v⟩
theorem c346 : CC o346 := fun hcl fuel => mkc hcl csn T346 fuel Tryz.f346
def T309 : Tab := ⟨[(1, ⟨[], [.sl 0 (.row .iNode), .sl 13 .B]⟩)], [], []⟩
def pI_TreeOk (fuel : Nat) (a1 : List INode) : Option Bool :=
  bd (α := List INode × Bool) (
    br (decide (31 < (↑a1.length : Int))) (
      some (a1, true)) <|
    bd (recF (pI_endOf fuel) fuel (a1, 0)) fun x2 =>
    some (a1, x2 != (↑a1.length : Int))) fun (x3, x4) =>
  br x4 (
    some false) <|
  bd (pI_leaves fuel x3) fun x5 =>
  bd (pG_slices_Sort_int x5) fun x6 =>
  bd (pG_slices_Clone_int fuel x6) fun x7 =>
  bd (pG_slices_Compact_int fuel x7) fun x8 =>
  some ((↑x8.length : Int) == (↑x5.length : Int))
def o309 (fuel : Nat) : Orc := ⟨309, [none], [.row .iNode], 0, (.one .B), fun v => pI_TreeOk fuel v⟩
theorem c309 : CC o309 := fun hcl fuel => mkc hcl (csc (c213 hcl fuel) (csc (c189 hcl fuel) (csc (c251 hcl fuel) (csc (c273 hcl fuel) (csc (c346 hcl fuel) csn))))) T309 fuel Tryz.f309
def T268 : Tab := ⟨[(1, ⟨[], [.sl 0 (.row .iNode), .sl 1 (.I .i64), .sl 2 (.I .i64), .sl 20 .B]⟩)], [], []⟩
def pI_places (fuel : Nat) (a1 : List INode) (a2 : Int) (a3 : Int) : Option (List IRect × Bool) :=
  bd (α := List INode × Int × Int × Bool) (
    bd (pI_TreeOk fuel a1) fun x4 =>
    br (!x4) (
      some (a1, a2, a3, true)) <|
    bd (pI_within fuel a2 1 120) fun x5 =>
    br (!x5) (
      some (a1, a2, a3, true)) <|
    bd (pI_within fuel a3 1 120) fun x6 =>
    some (a1, a2, a3, !x6)) fun (x7, x8, x9, x10) =>
  br x10 (
    some ([], false)) <|
  bd (pI_areasOf fuel x7 x8 x9) fun (x11, x12) =>
  some (x11, x12)
def o268 (fuel : Nat) : Orc := ⟨268, [none, none, none], [.row .iNode, .I .i64, .I .i64], 0, (.tup [.own .iRect 99, .B]), fun v => pI_places fuel v.1 v.2.1 v.2.2⟩
theorem c268 : CC o268 := fun hcl fuel => mkc hcl (csc (c309 hcl fuel) (csc (c74 hcl fuel) (csc (c125 hcl fuel) csn))) T268 fuel Tryz.f268
def T270 : Tab := ⟨[], [], []⟩
def pI_Places_1 (fuel : Nat) (a1 : IRect) : Option Bool :=
  some (a1.Pane == 0)
def o270 (fuel : Nat) : Orc := ⟨270, [none], [.st .iRect []], 0, (.one .B), fun v => pI_Places_1 fuel v⟩
theorem c270 : CC o270 := fun hcl fuel => mkc hcl csn T270 fuel Tryz.f270
def T1021900 : Tab := ⟨[], [], [(2, true, ⟨[(1, .fn 270 [])], [.sl 0 (.row .iRect), .sl 7 (.I .i64), .sl 8 (.I .i64)]⟩, 0, ⟨[], []⟩)]⟩
def pG_slices_IndexFunc_IRect_I_Places_1_b1 (fuel : Nat) : List IRect × Int × Int → Option ((List IRect × Int × Int) ⊕ (Unit ⊕ Int)) := fun (v3, v4, v5) =>
  br (decide (v5 < v4)) (
    gd (0 ≤ v5 ∧ v5 < (↑v3.length : Int)) <|
    bd v3[v5.toNat]? fun x6 =>
    bd (pI_Places_1 fuel x6) fun x7 =>
    br x7 (
      some (.inr (.inr v5))) <|
    gd (inK IntKind.i64 (v5 + 1)) <|
    some (.inl (v3, v4, v5 + 1))) <|
  some (.inr (.inl ()))
def pG_slices_IndexFunc_IRect_I_Places_1 (fuel : Nat) (a1 : List IRect) : Option Int :=
  jn (V := Unit) (
    loopF (pG_slices_IndexFunc_IRect_I_Places_1_b1 fuel) fuel (a1, (↑a1.length : Int), 0)) fun _ =>
  some (-1)
def o1021900 (fuel : Nat) : Orc := ⟨219, [none, some (.fn 270 [])], [.row .iRect], 0, (.one (.I .i64)), fun v => pG_slices_IndexFunc_IRect_I_Places_1 fuel v⟩
theorem c1021900 : CC o1021900 := fun hcl fuel => mkc hcl (csc (c270 hcl fuel) csn) T1021900 fuel Tryz.f219
def T1026900 : Tab := ⟨[], [(6, false, ⟨[(1, .fn 270 [])], [.sl 0 (.own .iRect 90000000), .sl 5 (.I .i64), .sl 6 (.I .i64)]⟩)], [(5, false, ⟨[(1, .fn 270 [])], [.sl 0 (.own .iRect 90000000), .sl 5 (.I .i64), .sl 6 (.I .i64)]⟩, 0, ⟨[], [.sl 0 (.own .iRect 90000000), .sl 5 (.I .i64)]⟩)]⟩
def pG_slices_DeleteFunc_IRect_I_Places_1_b1 (fuel : Nat) : List IRect × Int × Int → Option ((List IRect × Int × Int) ⊕ (List IRect × Int)) := fun (v6, v7, v8) =>
  br (decide (v8 < (↑v6.length : Int))) (
    bd (α := List IRect × Int × Int) (
      gd (0 ≤ v8 ∧ v8 < (↑v6.length : Int)) <|
      bd (v6[0 + v8.toNat]?) fun x9 =>
      bd (pI_Places_1 fuel x9) fun x10 =>
      br (!x10) (
        gd (0 ≤ v7 ∧ v7 < (↑v6.length : Int)) <|
        bd (v6[0 + v7.toNat]?) fun x11 =>
        gd (inK IntKind.i64 (v7 + 1)) <|
        some (v6.set (0 + v7.toNat) x9, v7 + 1, v8)) <|
      some (v6, v7, v8)) fun (x12, x13, x14) =>
    gd (inK IntKind.i64 (x14 + 1)) <|
    some (.inl (x12, x13, x14 + 1))) <|
  some (.inr (v6, v7))
def pG_slices_DeleteFunc_IRect_I_Places_1 (fuel : Nat) (a1 : List IRect) : Option (List IRect) :=
  bd (pG_slices_IndexFunc_IRect_I_Places_1 fuel a1) fun x2 =>
  br (x2 == -1) (
    some a1) <|
  gd (inK IntKind.i64 (x2 + 1)) <|
  bd (α := List IRect × Int) (
    loopF (pG_slices_DeleteFunc_IRect_I_Places_1_b1 fuel) fuel (a1, x2, x2 + 1)) fun (x4, x5) =>
  gd (0 ≤ x5 ∧ x5 ≤ (↑x4.length : Int)) <|
  gd (0 ≤ x5 ∧ x5 ≤ (↑x4.length : Int)) <|
  some (List.take (x5.toNat - 0) (List.drop (0 + 0) (putL x4 (0 + x5.toNat) (List.replicate (x4.length - x5.toNat) (zK K.iRect)))))
def o1026900 (fuel : Nat) : Orc := ⟨269, [none, some (.fn 270 [])], [.own .iRect 99], 0, (.one (.row .iRect)), fun v => pG_slices_DeleteFunc_IRect_I_Places_1 fuel v⟩
theorem c1026900 : CC o1026900 := fun hcl fuel => mkc hcl (csc (c1021900 hcl fuel) (csc (c270 hcl fuel) csn)) T1026900 fuel Tryz.f269
def T186 : Tab := ⟨[], [], []⟩
def pI_Places (fuel : Nat) (a1 : List INode) (a2 : Int) (a3 : Int) : Option (List IRect × Bool) :=
  bd (pI_places fuel a1 a2 a3) fun (x4, x5) =>
  br (!x5) (
    some ([], false)) <|
  bd (pG_slices_DeleteFunc_IRect_I_Places_1 fuel x4) fun x6 =>
  some (x6, true)
def o186 (fuel : Nat) : Orc := ⟨186, [none, none, none], [.row .iNode, .I .i64, .I .i64], 0, (.tup [.row .iRect, .B]), fun v => pI_Places fuel v.1 v.2.1 v.2.2⟩
theorem c186 : CC o186 := fun hcl fuel => mkc hcl (csc (c268 hcl fuel) (csc (c1026900 hcl fuel) csn)) T186 fuel Tryz.f186
def T271 : Tab := ⟨[(5, ⟨[], [.sl 0 .S, .sl 1 (.I .i64), .sl 2 .S, .sl 10 (.I .i64), .sl 11 (.I .i64), .sl 37 .B]⟩)], [], [(2, true, ⟨[], [.sl 0 .S, .sl 1 (.I .i64), .sl 2 .S, .sl 10 (.I .i64), .sl 11 (.I .i64)]⟩, 0, ⟨[], [.sl 0 .S, .sl 1 (.I .i64)]⟩)]⟩
def pI_isPlain_b1 (fuel : Nat) : ByteArray × Int × ByteArray × Int × Int → Option ((ByteArray × Int × ByteArray × Int × Int) ⊕ (ByteArray × Int ⊕ Bool)) := fun (v8, v9, v10, v11, v12) =>
  br (decide (v12 < v11)) (
    gd (0 ≤ v12) <|
    bd v8[v12.toNat]? fun x13 =>
    bd (α := ByteArray × Int × ByteArray × Int × Int × Bool) (
      br (decide (97 ≤ (↑x13.toNat : Int))) (
        br (decide ((↑x13.toNat : Int) ≤ 122)) (
          some (v8, v9, v10, v11, v12, !true)) <|
        br (decide (48 ≤ (↑x13.toNat : Int))) (
          br (decide ((↑x13.toNat : Int) ≤ 57)) (
            some (v8, v9, v10, v11, v12, !true)) <|
          bd (pG_strings_IndexByte v10 (↑x13.toNat : Int)) fun x14 =>
          some (v8, v9, v10, v11, v12, !decide (0 ≤ x14))) <|
        bd (pG_strings_IndexByte v10 (↑x13.toNat : Int)) fun x15 =>
        some (v8, v9, v10, v11, v12, !decide (0 ≤ x15))) <|
      br (decide (48 ≤ (↑x13.toNat : Int))) (
        br (decide ((↑x13.toNat : Int) ≤ 57)) (
          some (v8, v9, v10, v11, v12, !true)) <|
        bd (pG_strings_IndexByte v10 (↑x13.toNat : Int)) fun x16 =>
        some (v8, v9, v10, v11, v12, !decide (0 ≤ x16))) <|
      bd (pG_strings_IndexByte v10 (↑x13.toNat : Int)) fun x17 =>
      some (v8, v9, v10, v11, v12, !decide (0 ≤ x17))) fun (x18, x19, x20, x21, x22, x23) =>
    br x23 (
      some (.inr (.inr false))) <|
    gd (inK IntKind.i64 (x22 + 1)) <|
    some (.inl (x18, x19, x20, x21, x22 + 1))) <|
  some (.inr (.inl (v8, v9)))
def pI_isPlain (fuel : Nat) (a1 : ByteArray) (a2 : Int) (a3 : ByteArray) : Option Bool :=
  jn (V := ByteArray × Int) (
    loopF (pI_isPlain_b1 fuel) fuel (a1, a2, a3, (↑a1.size : Int), 0)) fun (v5, v6) =>
  bd (pI_within fuel (↑v5.size : Int) 1 v6) fun x7 =>
  some x7
def o271 (fuel : Nat) : Orc := ⟨271, [none, none, none], [.S, .I .i64, .S], 0, (.one .B), fun v => pI_isPlain fuel v.1 v.2.1 v.2.2⟩
theorem c271 : CC o271 := fun hcl fuel => mkc hcl (csc (c310 hcl fuel) (csc (c74 hcl fuel) csn)) T271 fuel Tryz.f271
def T187 : Tab := ⟨[], [], []⟩
def pI_WordOk (fuel : Nat) (a1 : ByteArray) : Option Bool :=
  bd (pI_isPlain fuel a1 12 (ByteArray.mk #[])) fun x2 =>
  some x2
def o187 (fuel : Nat) : Orc := ⟨187, [none], [.S], 0, (.one .B), fun v => pI_WordOk fuel v⟩
theorem c187 : CC o187 := fun hcl fuel => mkc hcl (csc (c271 hcl fuel) csn) T187 fuel Tryz.f187
def T272 : Tab := ⟨[], [], [(2, true, ⟨[], [.sl 0 (.row .int), .sl 1 (.I .i64), .sl 7 (.I .i64), .sl 8 (.I .i64)]⟩, 0, ⟨[], []⟩)]⟩
def pG_slices_Index_int_b1 (fuel : Nat) : List Int × Int × Int × Int → Option ((List Int × Int × Int × Int) ⊕ (Unit ⊕ Int)) := fun (v4, v5, v6, v7) =>
  br (decide (v7 < v6)) (
    gd (0 ≤ v7 ∧ v7 < (↑v4.length : Int)) <|
    bd v4[v7.toNat]? fun x8 =>
    br (v5 == x8) (
      some (.inr (.inr v7))) <|
    gd (inK IntKind.i64 (v7 + 1)) <|
    some (.inl (v4, v5, v6, v7 + 1))) <|
  some (.inr (.inl ()))
def pG_slices_Index_int (fuel : Nat) (a1 : List Int) (a2 : Int) : Option Int :=
  jn (V := Unit) (
    loopF (pG_slices_Index_int_b1 fuel) fuel (a1, a2, (↑a1.length : Int), 0)) fun _ =>
  some (-1)
def o272 (fuel : Nat) : Orc := ⟨272, [none, none], [.row .int, .I .i64], 0, (.one (.I .i64)), fun v => pG_slices_Index_int fuel v.1 v.2⟩
theorem c272 : CC o272 := fun hcl fuel => mkc hcl csn T272 fuel Tryz.f272
def T188 : Tab := ⟨[], [], []⟩
def pG_slices_Contains_int (fuel : Nat) (a1 : List Int) (a2 : Int) : Option Bool :=
  bd (pG_slices_Index_int fuel a1 a2) fun x3 =>
  some (decide (0 ≤ x3))
def o188 (fuel : Nat) : Orc := ⟨188, [none, none], [.row .int, .I .i64], 0, (.one .B), fun v => pG_slices_Contains_int fuel v.1 v.2⟩
theorem c188 : CC o188 := fun hcl fuel => mkc hcl (csc (c272 hcl fuel) csn) T188 fuel Tryz.f188
def T274 : Tab := ⟨[], [], [(4, true, ⟨[], [.sl 0 (.row .int), .sl 1 (.row .int), .sl 12 (.I .i64), .sl 13 (.I .i64)]⟩, 0, ⟨[], []⟩)]⟩
def pG_slices_Equal_int_b1 (fuel : Nat) : List Int × List Int × Int × Int → Option ((List Int × List Int × Int × Int) ⊕ (Unit ⊕ Bool)) := fun (v4, v5, v6, v7) =>
  br (decide (v7 < v6)) (
    gd (0 ≤ v7 ∧ v7 < (↑v4.length : Int)) <|
    bd v4[v7.toNat]? fun x8 =>
    gd (0 ≤ v7 ∧ v7 < (↑v5.length : Int)) <|
    bd v5[v7.toNat]? fun x9 =>
    br (x8 != x9) (
      some (.inr (.inr false))) <|
    gd (inK IntKind.i64 (v7 + 1)) <|
    some (.inl (v4, v5, v6, v7 + 1))) <|
  some (.inr (.inl ()))
def pG_slices_Equal_int (fuel : Nat) (a1 : List Int) (a2 : List Int) : Option Bool :=
  br ((↑a1.length : Int) != (↑a2.length : Int)) (
    some false) <|
  jn (V := Unit) (
    loopF (pG_slices_Equal_int_b1 fuel) fuel (a1, a2, (↑a1.length : Int), 0)) fun _ =>
  some true
def o274 (fuel : Nat) : Orc := ⟨274, [none, none], [.row .int, .row .int], 0, (.one .B), fun v => pG_slices_Equal_int fuel v.1 v.2⟩
theorem c274 : CC o274 := fun hcl fuel => mkc hcl csn T274 fuel Tryz.f274
def T190 : Tab := ⟨[], [], []⟩
def pI_once (fuel : Nat) (a1 : List Int) (a2 : List Int) : Option Bool :=
  bd (pG_slices_Clone_int fuel a1) fun x3 =>
  bd (pG_slices_Clone_int fuel a2) fun x4 =>
  bd (pG_slices_Sort_int x3) fun x5 =>
  bd (pG_slices_Sort_int x4) fun x6 =>
  bd (pG_slices_Equal_int fuel x5 x6) fun x7 =>
  some x7
def o190 (fuel : Nat) : Orc := ⟨190, [none, none], [.row .int, .row .int], 0, (.one .B), fun v => pI_once fuel v.1 v.2⟩
theorem c190 : CC o190 := fun hcl fuel => mkc hcl (csc (c273 hcl fuel) (csc (c251 hcl fuel) (csc (c274 hcl fuel) csn))) T190 fuel Tryz.f190
def T103 : Tab := ⟨[(6, ⟨[(1, .ptr 200 0), (6, .ptr 700 0)], [.sto 200 .iState [], .sto 700 .iWin [], .sl 3 (.own .int 1200), .sl 4 (.own .int 1300), .sl 14 (.row .iWin), .sl 15 (.I .i64), .sl 16 (.I .i64), .sl 75 .B]⟩), (15, ⟨[], [.sl 2 .B]⟩)], [], [(3, true, ⟨[(1, .ptr 200 0)], [.sto 200 .iState [], .sl 3 (.own .int 1200), .sl 4 (.own .int 1300), .sl 14 (.row .iWin), .sl 15 (.I .i64), .sl 16 (.I .i64)]⟩, 0, ⟨[(1, .ptr 200 0)], [.sto 200 .iState [], .sl 3 (.own .int 1200), .sl 4 (.own .int 1300)]⟩), (11, false, ⟨[(1, .ptr 200 0)], [.sto 200 .iState [], .sl 3 (.own .int 1200), .sl 4 (.own .int 1300), .sl 83 (.row .iPane), .sl 84 (.I .i64), .sl 85 (.I .i64)]⟩, 2, ⟨[(1, .ptr 200 0)], [.sto 200 .iState [], .sl 3 (.own .int 1200), .sl 4 (.own .int 1300)]⟩)]⟩
def pI_State_winsOk_b2 (fuel : Nat) : IState × List Int × List Int × List IPane × Int × Int → Option ((IState × List Int × List Int × List IPane × Int × Int) ⊕ (IState × List Int × List Int)) := fun (v37, v38, v39, v40, v41, v42) =>
  br (decide (v42 < v41)) (
    gd (0 ≤ v42 ∧ v42 < (↑v40.length : Int)) <|
    bd v40[v42.toNat]? fun x43 =>
    gd (roomB K.int (v39 ++ [x43.Id]).length) <|
    gd (inK IntKind.i64 (v42 + 1)) <|
    some (.inl (v37, v38, v39 ++ [x43.Id], v40, v41, v42 + 1))) <|
  some (.inr (v37, v38, v39))
def pI_State_winsOk_b1 (fuel : Nat) : IState × List Int × List Int × List IWin × Int × Int → Option ((IState × List Int × List Int × List IWin × Int × Int) ⊕ (IState × List Int × List Int ⊕ Bool)) := fun (v12, v13, v14, v15, v16, v17) =>
  br (decide (v17 < v16)) (
    gd (0 ≤ v17 ∧ v17 < (↑v15.length : Int)) <|
    bd v15[v17.toNat]? fun x18 =>
    bd (pI_Places fuel x18.Tree v12.W v12.H) fun (x19, x20) =>
    bd (α := IState × IWin × List Int × List Int × List IWin × Int × Int × Bool) (
      br (decide (x18.Id < 1)) (
        some (v12, x18, v13, v14, v15, v16, v17, true)) <|
      br (decide (v12.Next ≤ x18.Id)) (
        some (v12, x18, v13, v14, v15, v16, v17, true)) <|
      br (decide (0 < v17)) (
        gd (inK IntKind.i64 (v17 - 1)) <|
        gd (0 ≤ v17 - 1 ∧ v17 - 1 < (↑v12.Wins.length : Int)) <|
        bd (v12.Wins[(v17 - 1).toNat]?) fun x21 =>
        br (decide (x18.Id ≤ x21.Id)) (
          some (v12, x18, v13, v14, v15, v16, v17, true)) <|
        bd (pI_WordOk fuel x18.Name) fun x22 =>
        br (!x22) (
          some (v12, x18, v13, v14, v15, v16, v17, true)) <|
        br (!x20) (
          some (v12, x18, v13, v14, v15, v16, v17, true)) <|
        bd (pI_leaves fuel x18.Tree) fun x23 =>
        bd (pG_slices_Contains_int fuel x23 x18.Active) fun x24 =>
        some (v12, x18, v13, v14, v15, v16, v17, !x24)) <|
      bd (pI_WordOk fuel x18.Name) fun x25 =>
      br (!x25) (
        some (v12, x18, v13, v14, v15, v16, v17, true)) <|
      br (!x20) (
        some (v12, x18, v13, v14, v15, v16, v17, true)) <|
      bd (pI_leaves fuel x18.Tree) fun x26 =>
      bd (pG_slices_Contains_int fuel x26 x18.Active) fun x27 =>
      some (v12, x18, v13, v14, v15, v16, v17, !x27)) fun (x28, x29, x30, x31, x32, x33, x34, x35) =>
    br x35 (
      some (.inr (.inr false))) <|
    bd (pI_leaves fuel x29.Tree) fun x36 =>
    gd (roomB K.int (x30 ++ x36).length) <|
    gd (inK IntKind.i64 (x34 + 1)) <|
    some (.inl (x28, x30 ++ x36, x31, x32, x33, x34 + 1))) <|
  some (.inr (.inl (v12, v13, v14)))
def pI_State_winsOk (fuel : Nat) (a1 : IState) : Option Bool :=
  jn (V := IState × List Int × List Int) (
    loopF (pI_State_winsOk_b1 fuel) fuel (a1, [], [], a1.Wins, (↑a1.Wins.length : Int), 0)) fun (v3, v4, v5) =>
  bd (α := IState × List Int × List Int) (
    loopF (pI_State_winsOk_b2 fuel) fuel (v3, v4, v5, v3.Panes, (↑v3.Panes.length : Int), 0)) fun (x7, x8, x9) =>
  bd (α := Bool) (
    br (decide ((↑x7.Wins.length : Int) ≤ 12)) (
      bd (pI_once fuel x8 x9) fun x10 =>
      some x10) <|
    some false) fun x11 =>
  some x11
def o103 (fuel : Nat) : Orc := ⟨103, [none], [.st .iState []], 0, (.one .B), fun v => pI_State_winsOk fuel v⟩
theorem c103 : CC o103 := fun hcl fuel => mkc hcl (csc (c186 hcl fuel) (csc (c187 hcl fuel) (csc (c189 hcl fuel) (csc (c188 hcl fuel) (csc (c190 hcl fuel) csn))))) T103 fuel Tryz.f103
def T104 : Tab := ⟨[(5, ⟨[(1, .ptr 200 0), (6, .ptr 700 0)], [.sto 200 .iState [], .sto 700 .iSess [], .sl 3 (.own .int 1000), .sl 4 (.own .int 1100), .sl 12 (.row .iSess), .sl 13 (.I .i64), .sl 14 (.I .i64), .sl 38 .B]⟩), (14, ⟨[], [.sl 2 .B]⟩)], [], [(3, true, ⟨[(1, .ptr 200 0)], [.sto 200 .iState [], .sl 3 (.own .int 1000), .sl 4 (.own .int 1100), .sl 12 (.row .iSess), .sl 13 (.I .i64), .sl 14 (.I .i64)]⟩, 0, ⟨[(1, .ptr 200 0)], [.sto 200 .iState [], .sl 3 (.own .int 1000), .sl 4 (.own .int 1100)]⟩), (10, false, ⟨[(1, .ptr 200 0)], [.sto 200 .iState [], .sl 3 (.own .int 1000), .sl 4 (.own .int 1100), .sl 45 (.row .iWin), .sl 46 (.I .i64), .sl 47 (.I .i64)]⟩, 2, ⟨[(1, .ptr 200 0)], [.sto 200 .iState [], .sl 3 (.own .int 1000), .sl 4 (.own .int 1100)]⟩)]⟩
def pI_State_sessOk_b2 (fuel : Nat) : IState × List Int × List Int × List IWin × Int × Int → Option ((IState × List Int × List Int × List IWin × Int × Int) ⊕ (IState × List Int × List Int)) := fun (v30, v31, v32, v33, v34, v35) =>
  br (decide (v35 < v34)) (
    gd (0 ≤ v35 ∧ v35 < (↑v33.length : Int)) <|
    bd v33[v35.toNat]? fun x36 =>
    gd (roomB K.int (v32 ++ [x36.Id]).length) <|
    gd (inK IntKind.i64 (v35 + 1)) <|
    some (.inl (v30, v31, v32 ++ [x36.Id], v33, v34, v35 + 1))) <|
  some (.inr (v30, v31, v32))
def pI_State_sessOk_b1 (fuel : Nat) : IState × List Int × List Int × List ISess × Int × Int → Option ((IState × List Int × List Int × List ISess × Int × Int) ⊕ (IState × List Int × List Int ⊕ Bool)) := fun (v12, v13, v14, v15, v16, v17) =>
  br (decide (v17 < v16)) (
    gd (0 ≤ v17 ∧ v17 < (↑v15.length : Int)) <|
    bd v15[v17.toNat]? fun x18 =>
    bd (α := IState × ISess × List Int × List Int × List ISess × Int × Int × Bool) (
      bd (pI_WordOk fuel x18.Name) fun x19 =>
      br (!x19) (
        some (v12, x18, v13, v14, v15, v16, v17, true)) <|
      bd (pI_SessAt fuel v12 x18.Name) fun x20 =>
      br (x20 != v17) (
        some (v12, x18, v13, v14, v15, v16, v17, true)) <|
      bd (pG_slices_Contains_int fuel x18.Wins x18.Active) fun x21 =>
      some (v12, x18, v13, v14, v15, v16, v17, !x21)) fun (x22, x23, x24, x25, x26, x27, x28, x29) =>
    br x29 (
      some (.inr (.inr false))) <|
    gd (roomB K.int (x24 ++ x23.Wins).length) <|
    gd (inK IntKind.i64 (x28 + 1)) <|
    some (.inl (x22, x24 ++ x23.Wins, x25, x26, x27, x28 + 1))) <|
  some (.inr (.inl (v12, v13, v14)))
def pI_State_sessOk (fuel : Nat) (a1 : IState) : Option Bool :=
  jn (V := IState × List Int × List Int) (
    loopF (pI_State_sessOk_b1 fuel) fuel (a1, [], [], a1.Sess, (↑a1.Sess.length : Int), 0)) fun (v3, v4, v5) =>
  bd (α := IState × List Int × List Int) (
    loopF (pI_State_sessOk_b2 fuel) fuel (v3, v4, v5, v3.Wins, (↑v3.Wins.length : Int), 0)) fun (x7, x8, x9) =>
  bd (α := Bool) (
    br (decide ((↑x7.Sess.length : Int) ≤ 8)) (
      bd (pI_once fuel x8 x9) fun x10 =>
      some x10) <|
    some false) fun x11 =>
  some x11
def o104 (fuel : Nat) : Orc := ⟨104, [none], [.st .iState []], 0, (.one .B), fun v => pI_State_sessOk fuel v⟩
theorem c104 : CC o104 := fun hcl fuel => mkc hcl (csc (c187 hcl fuel) (csc (c32 hcl fuel) (csc (c188 hcl fuel) (csc (c190 hcl fuel) csn)))) T104 fuel Tryz.f104
def T276 : Tab := ⟨[], [], []⟩
def pI_Leaves (fuel : Nat) (a1 : List INode) : Option (List Int) :=
  bd (pI_TreeOk fuel a1) fun x2 =>
  br (!x2) (
    some []) <|
  bd (pI_leaves fuel a1) fun x3 =>
  some x3
def o276 (fuel : Nat) : Orc := ⟨276, [none], [.row .iNode], 0, (.one (.own .int 99)), fun v => pI_Leaves fuel v⟩
theorem c276 : CC o276 := fun hcl fuel => mkc hcl (csc (c309 hcl fuel) (csc (c189 hcl fuel) csn)) T276 fuel Tryz.f276
def T1027500 : Tab := ⟨[], [], []⟩
def pI_WinOf_1 (fuel : Nat) (a1 : IWin) (a2 : Int) : Option (Bool × Int) :=
  bd (pI_Leaves fuel a1.Tree) fun x3 =>
  bd (pG_slices_Contains_int fuel x3 a2) fun x4 =>
  some (x4, a2)
def o1027500 (fuel : Nat) : Orc := ⟨275, [none, some (.ptr 0 0 0 0)], [.st .iWin [], .I .i64], 1, (.tup [.B, .I .i64]), fun v => pI_WinOf_1 fuel v.1 v.2⟩
theorem c1027500 : CC o1027500 := fun hcl fuel => mkc hcl (csc (c276 hcl fuel) (csc (c188 hcl fuel) csn)) T1027500 fuel Tryz.f275
def T1011901 : Tab := ⟨[], [], [(2, true, ⟨[(1, .fn 275 [(0, 0)])], [.bxl 0 [.I .i64], .sl 0 (.row .iWin), .sl 7 (.I .i64), .sl 8 (.I .i64)]⟩, 0, ⟨[], [.bxl 0 [.I .i64]]⟩)]⟩
def pG_slices_IndexFunc_IWin_I_WinOf_1_b1 (fuel : Nat) : Int × List IWin × Int × Int → Option ((Int × List IWin × Int × Int) ⊕ (Int ⊕ Int × Int)) := fun (v5, v6, v7, v8) =>
  br (decide (v8 < v7)) (
    gd (0 ≤ v8 ∧ v8 < (↑v6.length : Int)) <|
    bd v6[v8.toNat]? fun x9 =>
    bd (pI_WinOf_1 fuel x9 v5) fun (x10, x11) =>
    br x10 (
      some (.inr (.inr (v8, x11)))) <|
    gd (inK IntKind.i64 (v8 + 1)) <|
    some (.inl (x11, v6, v7, v8 + 1))) <|
  some (.inr (.inl v5))
def pG_slices_IndexFunc_IWin_I_WinOf_1 (fuel : Nat) (a1 : List IWin) (a2 : Int) : Option (Int × Int) :=
  jn (V := Int) (
    loopF (pG_slices_IndexFunc_IWin_I_WinOf_1_b1 fuel) fuel (a2, a1, (↑a1.length : Int), 0)) fun v4 =>
  some (-1, v4)
def o1011901 (fuel : Nat) : Orc := ⟨119, [none, some (.fn 275 [.ptr 0 0 0 0])], [.row .iWin, .I .i64], 1, (.tup [.I .i64, .I .i64]), fun v => pG_slices_IndexFunc_IWin_I_WinOf_1 fuel v.1 v.2⟩
theorem c1011901 : CC o1011901 := fun hcl fuel => mkc hcl (csc (c1027500 hcl fuel) csn) T1011901 fuel Tryz.f119
def T192 : Tab := ⟨[], [], []⟩
def pI_WinOf (fuel : Nat) (a1 : IState) (a2 : Int) : Option Int :=
  bd (pG_slices_IndexFunc_IWin_I_WinOf_1 fuel a1.Wins a2) fun (x3, x4) =>
  some x3
def o192 (fuel : Nat) : Orc := ⟨192, [none, none], [.st .iState [], .I .i64], 0, (.one (.I .i64)), fun v => pI_WinOf fuel v.1 v.2⟩
theorem c192 : CC o192 := fun hcl fuel => mkc hcl (csc (c1011901 hcl fuel) csn) T192 fuel Tryz.f192
def T1022000 : Tab := ⟨[], [], []⟩
def pI_PlaceOf_1 (fuel : Nat) (a1 : IRect) (a2 : Int) : Option (Bool × Int) :=
  some (a1.Pane == a2, a2)
def o1022000 (fuel : Nat) : Orc := ⟨220, [none, some (.ptr 0 0 0 0)], [.st .iRect [], .I .i64], 1, (.tup [.B, .I .i64]), fun v => pI_PlaceOf_1 fuel v.1 v.2⟩
theorem c1022000 : CC o1022000 := fun hcl fuel => mkc hcl csn T1022000 fuel Tryz.f220
def T1021901 : Tab := ⟨[], [], [(2, true, ⟨[(1, .fn 220 [(0, 0)])], [.bxl 0 [.I .i64], .sl 0 (.row .iRect), .sl 7 (.I .i64), .sl 8 (.I .i64)]⟩, 0, ⟨[], [.bxl 0 [.I .i64]]⟩)]⟩
def pG_slices_IndexFunc_IRect_I_PlaceOf_1_b1 (fuel : Nat) : Int × List IRect × Int × Int → Option ((Int × List IRect × Int × Int) ⊕ (Int ⊕ Int × Int)) := fun (v5, v6, v7, v8) =>
  br (decide (v8 < v7)) (
    gd (0 ≤ v8 ∧ v8 < (↑v6.length : Int)) <|
    bd v6[v8.toNat]? fun x9 =>
    bd (pI_PlaceOf_1 fuel x9 v5) fun (x10, x11) =>
    br x10 (
      some (.inr (.inr (v8, x11)))) <|
    gd (inK IntKind.i64 (v8 + 1)) <|
    some (.inl (x11, v6, v7, v8 + 1))) <|
  some (.inr (.inl v5))
def pG_slices_IndexFunc_IRect_I_PlaceOf_1 (fuel : Nat) (a1 : List IRect) (a2 : Int) : Option (Int × Int) :=
  jn (V := Int) (
    loopF (pG_slices_IndexFunc_IRect_I_PlaceOf_1_b1 fuel) fuel (a2, a1, (↑a1.length : Int), 0)) fun v4 =>
  some (-1, v4)
def o1021901 (fuel : Nat) : Orc := ⟨219, [none, some (.fn 220 [.ptr 0 0 0 0])], [.row .iRect, .I .i64], 1, (.tup [.I .i64, .I .i64]), fun v => pG_slices_IndexFunc_IRect_I_PlaceOf_1 fuel v.1 v.2⟩
theorem c1021901 : CC o1021901 := fun hcl fuel => mkc hcl (csc (c1022000 hcl fuel) csn) T1021901 fuel Tryz.f219
def T128 : Tab := ⟨[], [], []⟩
def pI_PlaceOf (fuel : Nat) (a1 : List INode) (a2 : Int) (a3 : Int) (a4 : Int) : Option (IRect × Bool) :=
  bd (pI_Places fuel a1 a2 a3) fun (x5, x6) =>
  bd (pG_slices_IndexFunc_IRect_I_PlaceOf_1 fuel x5 a4) fun (x7, x8) =>
  br (decide (x7 < 0)) (
    some (IRect.mk 0 0 0 0 0, false)) <|
  gd (0 ≤ x7 ∧ x7 < (↑x5.length : Int)) <|
  bd x5[x7.toNat]? fun x9 =>
  some (x9, true)
def o128 (fuel : Nat) : Orc := ⟨128, [none, none, none, none], [.row .iNode, .I .i64, .I .i64, .I .i64], 0, (.tup [.st .iRect [], .B]), fun v => pI_PlaceOf fuel v.1 v.2.1 v.2.2.1 v.2.2.2⟩
theorem c128 : CC o128 := fun hcl fuel => mkc hcl (csc (c186 hcl fuel) (csc (c1021901 hcl fuel) csn)) T128 fuel Tryz.f128
def T107 : Tab := ⟨[(5, ⟨[(2, .ptr 300 0), (7, .ptr 800 0)], [.sto 300 .iState [], .sto 800 .iWin [], .sl 1 (.I .i64), .sl 27 .B]⟩)], [], []⟩
def pI_Area (fuel : Nat) (a1 : IState) (a2 : Int) : Option (Int × Int) :=
  bd (pI_WinOf fuel a1 a2) fun x3 =>
  br (decide (x3 < 0)) (
    some (0, 0)) <|
  gd (0 ≤ x3 ∧ x3 < (↑a1.Wins.length : Int)) <|
  bd a1.Wins[x3.toNat]? fun x4 =>
  bd (α := IState × IWin × Int × Bool) (
    br x4.Zoom (
      some (a1, x4, a2, x4.Active == a2)) <|
    some (a1, x4, a2, false)) fun (x5, x6, x7, x8) =>
  br x8 (
    some (x5.W, x5.H)) <|
  bd (pI_PlaceOf fuel x6.Tree x5.W x5.H x7) fun (x9, x10) =>
  some (x9.W, x9.H)
def o107 (fuel : Nat) : Orc := ⟨107, [none, none], [.st .iState [], .I .i64], 0, (.tup [.I .i64, .I .i64]), fun v => pI_Area fuel v.1 v.2⟩
theorem c107 : CC o107 := fun hcl fuel => mkc hcl (csc (c192 hcl fuel) (csc (c128 hcl fuel) csn)) T107 fuel Tryz.f107
def T1010600 : Tab := ⟨[(2, ⟨[], [.sto 0 .iState [], .sl 3 .B]⟩)], [], []⟩
def pI_StateOk_1 (fuel : Nat) (a1 : IPane) (a2 : IState) : Option (Bool × IState) :=
  bd (pI_Area fuel a2 a1.Id) fun (x3, x4) =>
  bd (α := IState × Bool) (
    br (a1.Term.S.W != x3) (
      some (a2, true)) <|
    some (a2, a1.Term.S.H != x4)) fun (x5, x6) =>
  some (x6, x5)
def o1010600 (fuel : Nat) : Orc := ⟨106, [none, some (.ptr 0 0 0 0)], [.st .iPane [], .st .iState []], 1, (.tup [.B, .st .iState []]), fun v => pI_StateOk_1 fuel v.1 v.2⟩
theorem c1010600 : CC o1010600 := fun hcl fuel => mkc hcl (csc (c107 hcl fuel) csn) T1010600 fuel Tryz.f106
def T1019100 : Tab := ⟨[], [], [(2, true, ⟨[(1, .fn 106 [(0, 0)])], [.sto 0 .iState [], .sl 0 (.row .iPane), .sl 7 (.I .i64), .sl 8 (.I .i64)]⟩, 0, ⟨[], [.sto 0 .iState []]⟩)]⟩
def pG_slices_IndexFunc_IPane_I_StateOk_1_b1 (fuel : Nat) : IState × List IPane × Int × Int → Option ((IState × List IPane × Int × Int) ⊕ (IState ⊕ Int × IState)) := fun (v5, v6, v7, v8) =>
  br (decide (v8 < v7)) (
    gd (0 ≤ v8 ∧ v8 < (↑v6.length : Int)) <|
    bd v6[v8.toNat]? fun x9 =>
    bd (pI_StateOk_1 fuel x9 v5) fun (x10, x11) =>
    br x10 (
      some (.inr (.inr (v8, x11)))) <|
    gd (inK IntKind.i64 (v8 + 1)) <|
    some (.inl (x11, v6, v7, v8 + 1))) <|
  some (.inr (.inl v5))
def pG_slices_IndexFunc_IPane_I_StateOk_1 (fuel : Nat) (a1 : List IPane) (a2 : IState) : Option (Int × IState) :=
  jn (V := IState) (
    loopF (pG_slices_IndexFunc_IPane_I_StateOk_1_b1 fuel) fuel (a2, a1, (↑a1.length : Int), 0)) fun v4 =>
  some (-1, v4)
def o1019100 (fuel : Nat) : Orc := ⟨191, [none, some (.fn 106 [.ptr 0 0 0 0])], [.row .iPane, .st .iState []], 1, (.tup [.I .i64, .st .iState []]), fun v => pG_slices_IndexFunc_IPane_I_StateOk_1 fuel v.1 v.2⟩
theorem c1019100 : CC o1019100 := fun hcl fuel => mkc hcl (csc (c1010600 hcl fuel) csn) T1019100 fuel Tryz.f191
def T1010500 : Tab := ⟨[], [], []⟩
def pG_slices_ContainsFunc_IPane_I_StateOk_1 (fuel : Nat) (a1 : List IPane) (a2 : IState) : Option (Bool × IState) :=
  bd (pG_slices_IndexFunc_IPane_I_StateOk_1 fuel a1 a2) fun (x3, x4) =>
  some (decide (0 ≤ x3), x4)
def o1010500 (fuel : Nat) : Orc := ⟨105, [none, some (.fn 106 [.ptr 0 0 0 0])], [.row .iPane, .st .iState []], 1, (.tup [.B, .st .iState []]), fun v => pG_slices_ContainsFunc_IPane_I_StateOk_1 fuel v.1 v.2⟩
theorem c1010500 : CC o1010500 := fun hcl fuel => mkc hcl (csc (c1019100 hcl fuel) csn) T1010500 fuel Tryz.f105
def T33 : Tab := ⟨[(1, ⟨[(1, .ptr 200 0)], [.sto 200 .iState [], .sl 35 .B]⟩)], [], []⟩
def pI_StateOk (fuel : Nat) (a1 : IState) : Option Bool :=
  bd (α := IState × Bool) (
    bd (pI_isSize fuel a1.W a1.H) fun x2 =>
    br (!x2) (
      some (a1, true)) <|
    bd (pI_within fuel a1.Limit 0 100) fun x3 =>
    br (!x3) (
      some (a1, true)) <|
    bd (pI_isId fuel a1.Next) fun x4 =>
    br (!x4) (
      some (a1, true)) <|
    bd (pI_State_panesOk fuel a1) fun x5 =>
    br (!x5) (
      some (a1, true)) <|
    bd (pI_State_winsOk fuel a1) fun x6 =>
    br (!x6) (
      some (a1, true)) <|
    bd (pI_State_sessOk fuel a1) fun x7 =>
    some (a1, !x7)) fun (x8, x9) =>
  br x9 (
    some false) <|
  bd (pG_slices_ContainsFunc_IPane_I_StateOk_1 fuel x8.Panes x8) fun (x10, x11) =>
  some (!x10)
def o33 (fuel : Nat) : Orc := ⟨33, [none], [.st .iState []], 0, (.one .B), fun v => pI_StateOk fuel v⟩
theorem c33 : CC o33 := fun hcl fuel => mkc hcl (csc (c43 hcl fuel) (csc (c74 hcl fuel) (csc (c101 hcl fuel) (csc (c102 hcl fuel) (csc (c103 hcl fuel) (csc (c104 hcl fuel) (csc (c1010500 hcl fuel) csn))))))) T33 fuel Tryz.f33
def T193 : Tab := ⟨[], [], []⟩
def pI_isNum (fuel : Nat) (a1 : Int) : Option Bool :=
  bd (pI_within fuel a1 0 4294967295) fun x2 =>
  some x2
def o193 (fuel : Nat) : Orc := ⟨193, [none], [.I .i64], 0, (.one .B), fun v => pI_isNum fuel v⟩
theorem c193 : CC o193 := fun hcl fuel => mkc hcl (csc (c74 hcl fuel) csn) T193 fuel Tryz.f193
def T108 : Tab := ⟨[], [], []⟩
def pI_NumText (fuel : Nat) (a1 : Int) : Option ByteArray :=
  bd (pI_isNum fuel a1) fun x2 =>
  br (!x2) (
    some (ByteArray.mk #[])) <|
  bd (pG_strconv_Itoa a1) fun x3 =>
  some x3
def o108 (fuel : Nat) : Orc := ⟨108, [none], [.I .i64], 0, (.one .S), fun v => pI_NumText fuel v⟩
theorem c108 : CC o108 := fun hcl fuel => mkc hcl (csc (c193 hcl fuel) (csc (c194 hcl fuel) csn)) T108 fuel Tryz.f108
def T34 : Tab := ⟨[], [(8, false, ⟨[(2, .ptr 300 0), (3, .ptr 400 0)], [.sto 300 .iState [], .sto 400 .iSess [], .sl 5 .S, .sl 13 (.row .int), .sl 14 (.I .i64), .sl 15 (.I .i64)]⟩)], [(3, false, ⟨[(2, .ptr 300 0), (3, .ptr 400 0)], [.sto 300 .iState [], .sto 400 .iSess [], .sl 5 .S, .sl 13 (.row .int), .sl 14 (.I .i64), .sl 15 (.I .i64)]⟩, 0, ⟨[], [.sl 5 .S]⟩)]⟩
def pI_State_status_b1 (fuel : Nat) : IState × ISess × ByteArray × List Int × Int × Int → Option ((IState × ISess × ByteArray × List Int × Int × Int) ⊕ ByteArray) := fun (v5, v6, v7, v8, v9, v10) =>
  br (decide (v10 < v9)) (
    bd (α := IState × ISess × ByteArray × List Int × Int × Int) (
      gd (0 ≤ v10 ∧ v10 < (↑v8.length : Int)) <|
      bd v8[v10.toNat]? fun x11 =>
      bd (pI_NumText fuel x11) fun x12 =>
      gd ((ByteArray.mk #[32]).size + x12.size ≤ 9223372036854775807) <|
      gd ((ByteArray.mk #[32] ++ x12).size + (ByteArray.mk #[58]).size ≤ 9223372036854775807) <|
      bd (pI_WinAt fuel v5 x11) fun x13 =>
      gd (0 ≤ x13 ∧ x13 < (↑v5.Wins.length : Int)) <|
      bd v5.Wins[x13.toNat]? fun x14 =>
      gd ((ByteArray.mk #[32] ++ x12 ++ ByteArray.mk #[58]).size + x14.Name.size ≤ 9223372036854775807) <|
      gd (v7.size + (ByteArray.mk #[32] ++ x12 ++ ByteArray.mk #[58] ++ x14.Name).size ≤ 9223372036854775807) <|
      br (x11 == v6.Active) (
        gd ((v7 ++ (ByteArray.mk #[32] ++ x12 ++ ByteArray.mk #[58] ++ x14.Name)).size + (ByteArray.mk #[42]).size ≤ 9223372036854775807) <|
        some (v5, v6, v7 ++ (ByteArray.mk #[32] ++ x12 ++ ByteArray.mk #[58] ++ x14.Name) ++ ByteArray.mk #[42], v8, v9, v10)) <|
      some (v5, v6, v7 ++ (ByteArray.mk #[32] ++ x12 ++ ByteArray.mk #[58] ++ x14.Name), v8, v9, v10)) fun (x15, x16, x17, x18, x19, x20) =>
    gd (inK IntKind.i64 (x20 + 1)) <|
    some (.inl (x15, x16, x17, x18, x19, x20 + 1))) <|
  some (.inr v7)
def pI_State_status (fuel : Nat) (a1 : IState) (a2 : ISess) : Option ByteArray :=
  gd ((ByteArray.mk #[91]).size + a2.Name.size ≤ 9223372036854775807) <|
  gd ((ByteArray.mk #[91] ++ a2.Name).size + (ByteArray.mk #[93]).size ≤ 9223372036854775807) <|
  bd (α := ByteArray) (
    loopF (pI_State_status_b1 fuel) fuel (a1, a2, ByteArray.mk #[91] ++ a2.Name ++ ByteArray.mk #[93], a2.Wins, (↑a2.Wins.length : Int), 0)) fun x4 =>
  some x4
def o34 (fuel : Nat) : Orc := ⟨34, [none, none], [.st .iState [], .st .iSess []], 0, (.one .S), fun v => pI_State_status fuel v.1 v.2⟩
theorem c34 : CC o34 := fun hcl fuel => mkc hcl (csc (c108 hcl fuel) (csc (c44 hcl fuel) csn)) T34 fuel Tryz.f34
def T9 : Tab := ⟨[(2, ⟨[(2, .ptr 300 0)], [.sto 300 .iState [], .sl 5 (.I .i64), .sl 15 .B]⟩)], [], []⟩
def pI_Status (fuel : Nat) (a1 : IState) (a2 : ByteArray) : Option ByteArray :=
  bd (pI_SessAt fuel a1 a2) fun x3 =>
  bd (α := IState × Int × Bool) (
    bd (pI_StateOk fuel a1) fun x4 =>
    br (!x4) (
      some (a1, x3, true)) <|
    some (a1, x3, decide (x3 < 0))) fun (x5, x6, x7) =>
  br x7 (
    some (ByteArray.mk #[])) <|
  gd (0 ≤ x6 ∧ x6 < (↑x5.Sess.length : Int)) <|
  bd x5.Sess[x6.toNat]? fun x8 =>
  bd (pI_State_status fuel x5 x8) fun x9 =>
  some x9
def o9 (fuel : Nat) : Orc := ⟨9, [none, none], [.st .iState [], .S], 0, (.one .S), fun v => pI_Status fuel v.1 v.2⟩
theorem c9 : CC o9 := fun hcl fuel => mkc hcl (csc (c32 hcl fuel) (csc (c33 hcl fuel) (csc (c34 hcl fuel) csn))) T9 fuel Tryz.f9
def T197 : Tab := ⟨[], [], [(4, true, ⟨[], [.sl 0 (.row .int), .sl 1 (.row .int), .sl 5 (.I .i64)]⟩, 0, ⟨[], []⟩)]⟩
def pL_eqIntS_b1 (fuel : Nat) : List Int × List Int × Int → Option ((List Int × List Int × Int) ⊕ (Unit ⊕ Bool)) := fun (v4, v5, v6) =>
  br (decide (v6 < (↑v4.length : Int))) (
    gd (0 ≤ v6 ∧ v6 < (↑v4.length : Int)) <|
    bd v4[v6.toNat]? fun x7 =>
    gd (0 ≤ v6 ∧ v6 < (↑v5.length : Int)) <|
    bd v5[v6.toNat]? fun x8 =>
    br (x7 != x8) (
      some (.inr (.inr false))) <|
    gd (inK IntKind.i64 (v6 + 1)) <|
    some (.inl (v4, v5, v6 + 1))) <|
  some (.inr (.inl ()))
def pL_eqIntS (fuel : Nat) (a1 : List Int) (a2 : List Int) : Option Bool :=
  br ((↑a1.length : Int) != (↑a2.length : Int)) (
    some false) <|
  jn (V := Unit) (
    loopF (pL_eqIntS_b1 fuel) fuel (a1, a2, 0)) fun _ =>
  some true
def o197 (fuel : Nat) : Orc := ⟨197, [none, none], [.row .int, .row .int], 0, (.one .B), fun v => pL_eqIntS fuel v.1 v.2⟩
theorem c197 : CC o197 := fun hcl fuel => mkc hcl csn T197 fuel Tryz.f197
def T300 : Tab := ⟨[], [], [(4, true, ⟨[], [.sl 0 (.row .u8), .sl 1 (.row .u8), .sl 5 (.I .i64)]⟩, 0, ⟨[], []⟩)]⟩
def pL_eqByteS_b1 (fuel : Nat) : List UInt8 × List UInt8 × Int → Option ((List UInt8 × List UInt8 × Int) ⊕ (Unit ⊕ Bool)) := fun (v4, v5, v6) =>
  br (decide (v6 < (↑v4.length : Int))) (
    gd (0 ≤ v6 ∧ v6 < (↑v4.length : Int)) <|
    bd v4[v6.toNat]? fun x7 =>
    gd (0 ≤ v6 ∧ v6 < (↑v5.length : Int)) <|
    bd v5[v6.toNat]? fun x8 =>
    br ((↑x7.toNat : Int) != (↑x8.toNat : Int)) (
      some (.inr (.inr false))) <|
    gd (inK IntKind.i64 (v6 + 1)) <|
    some (.inl (v4, v5, v6 + 1))) <|
  some (.inr (.inl ()))
def pL_eqByteS (fuel : Nat) (a1 : List UInt8) (a2 : List UInt8) : Option Bool :=
  br ((↑a1.length : Int) != (↑a2.length : Int)) (
    some false) <|
  jn (V := Unit) (
    loopF (pL_eqByteS_b1 fuel) fuel (a1, a2, 0)) fun _ =>
  some true
def o300 (fuel : Nat) : Orc := ⟨300, [none, none], [.row .u8, .row .u8], 0, (.one .B), fun v => pL_eqByteS fuel v.1 v.2⟩
theorem c300 : CC o300 := fun hcl fuel => mkc hcl csn T300 fuel Tryz.f300
def T278 : Tab := ⟨[], [], []⟩
def pL_eqVp (fuel : Nat) (a1 : IVp) (a2 : IVp) : Option Bool :=
  br (a1.State != a2.State) (
    some false) <|
  br (!a1.Mark == a2.Mark) (
    some false) <|
  bd (pL_eqIntS fuel a1.Args a2.Args) fun x3 =>
  br (!x3) (
    some false) <|
  bd (pL_eqByteS fuel a1.Part a2.Part) fun x4 =>
  br (!x4) (
    some false) <|
  some true
def o278 (fuel : Nat) : Orc := ⟨278, [none, none], [.st .iVp [], .st .iVp []], 0, (.one .B), fun v => pL_eqVp fuel v.1 v.2⟩
theorem c278 : CC o278 := fun hcl fuel => mkc hcl (csc (c197 hcl fuel) (csc (c300 hcl fuel) csn)) T278 fuel Tryz.f278
def T288 : Tab := ⟨[], [], []⟩
def pL_eqAttr (fuel : Nat) (a1 : IAttr) (a2 : IAttr) : Option Bool :=
  br (a1.Fg != a2.Fg) (
    some false) <|
  br (a1.Bg != a2.Bg) (
    some false) <|
  br (!a1.Bold == a2.Bold) (
    some false) <|
  br (!a1.Under == a2.Under) (
    some false) <|
  br (!a1.Turn == a2.Turn) (
    some false) <|
  some true
def o288 (fuel : Nat) : Orc := ⟨288, [none, none], [.st .iAttr [], .st .iAttr []], 0, (.one .B), fun v => pL_eqAttr fuel v.1 v.2⟩
theorem c288 : CC o288 := fun hcl fuel => mkc hcl csn T288 fuel Tryz.f288
def T222 : Tab := ⟨[], [], []⟩
def pL_eqCell (fuel : Nat) (a1 : ICell) (a2 : ICell) : Option Bool :=
  br (a1.R != a2.R) (
    some false) <|
  bd (pL_eqAttr fuel a1.A a2.A) fun x3 =>
  br (!x3) (
    some false) <|
  some true
def o222 (fuel : Nat) : Orc := ⟨222, [none, none], [.st .iCell [], .st .iCell []], 0, (.one .B), fun v => pL_eqCell fuel v.1 v.2⟩
theorem c222 : CC o222 := fun hcl fuel => mkc hcl (csc (c288 hcl fuel) csn) T222 fuel Tryz.f222
def T130 : Tab := ⟨[], [], [(4, true, ⟨[], [.sl 0 (.row .iCell), .sl 1 (.row .iCell), .sl 5 (.I .i64)]⟩, 0, ⟨[], []⟩)]⟩
def pL_eqCellS_b1 (fuel : Nat) : List ICell × List ICell × Int → Option ((List ICell × List ICell × Int) ⊕ (Unit ⊕ Bool)) := fun (v4, v5, v6) =>
  br (decide (v6 < (↑v4.length : Int))) (
    gd (0 ≤ v6 ∧ v6 < (↑v4.length : Int)) <|
    bd v4[v6.toNat]? fun x7 =>
    gd (0 ≤ v6 ∧ v6 < (↑v5.length : Int)) <|
    bd v5[v6.toNat]? fun x8 =>
    bd (pL_eqCell fuel x7 x8) fun x9 =>
    br (!x9) (
      some (.inr (.inr false))) <|
    gd (inK IntKind.i64 (v6 + 1)) <|
    some (.inl (v4, v5, v6 + 1))) <|
  some (.inr (.inl ()))
def pL_eqCellS (fuel : Nat) (a1 : List ICell) (a2 : List ICell) : Option Bool :=
  br ((↑a1.length : Int) != (↑a2.length : Int)) (
    some false) <|
  jn (V := Unit) (
    loopF (pL_eqCellS_b1 fuel) fuel (a1, a2, 0)) fun _ =>
  some true
def o130 (fuel : Nat) : Orc := ⟨130, [none, none], [.row .iCell, .row .iCell], 0, (.one .B), fun v => pL_eqCellS fuel v.1 v.2⟩
theorem c130 : CC o130 := fun hcl fuel => mkc hcl (csc (c222 hcl fuel) csn) T130 fuel Tryz.f130
def T52 : Tab := ⟨[], [], []⟩
def pL_eqGrid (fuel : Nat) (a1 : IGrid) (a2 : IGrid) : Option Bool :=
  br (a1.W != a2.W) (
    some false) <|
  br (a1.H != a2.H) (
    some false) <|
  bd (pL_eqCellS fuel a1.Cells a2.Cells) fun x3 =>
  br (!x3) (
    some false) <|
  some true
def o52 (fuel : Nat) : Orc := ⟨52, [none, none], [.st .iGrid [], .st .iGrid []], 0, (.one .B), fun v => pL_eqGrid fuel v.1 v.2⟩
theorem c52 : CC o52 := fun hcl fuel => mkc hcl (csc (c130 hcl fuel) csn) T52 fuel Tryz.f52
def T352 : Tab := ⟨[], [], []⟩
def pL_eqRow (fuel : Nat) (a1 : IRow) (a2 : IRow) : Option Bool :=
  bd (pL_eqCellS fuel a1.Cells a2.Cells) fun x3 =>
  br (!x3) (
    some false) <|
  some true
def o352 (fuel : Nat) : Orc := ⟨352, [none, none], [.st .iRow [], .st .iRow []], 0, (.one .B), fun v => pL_eqRow fuel v.1 v.2⟩
theorem c352 : CC o352 := fun hcl fuel => mkc hcl (csc (c130 hcl fuel) csn) T352 fuel Tryz.f352
def T312 : Tab := ⟨[], [], [(4, true, ⟨[], [.sl 0 (.row .iRow), .sl 1 (.row .iRow), .sl 5 (.I .i64)]⟩, 0, ⟨[], []⟩)]⟩
def pL_eqRowS_b1 (fuel : Nat) : List IRow × List IRow × Int → Option ((List IRow × List IRow × Int) ⊕ (Unit ⊕ Bool)) := fun (v4, v5, v6) =>
  br (decide (v6 < (↑v4.length : Int))) (
    gd (0 ≤ v6 ∧ v6 < (↑v4.length : Int)) <|
    bd v4[v6.toNat]? fun x7 =>
    gd (0 ≤ v6 ∧ v6 < (↑v5.length : Int)) <|
    bd v5[v6.toNat]? fun x8 =>
    bd (pL_eqRow fuel x7 x8) fun x9 =>
    br (!x9) (
      some (.inr (.inr false))) <|
    gd (inK IntKind.i64 (v6 + 1)) <|
    some (.inl (v4, v5, v6 + 1))) <|
  some (.inr (.inl ()))
def pL_eqRowS (fuel : Nat) (a1 : List IRow) (a2 : List IRow) : Option Bool :=
  br ((↑a1.length : Int) != (↑a2.length : Int)) (
    some false) <|
  jn (V := Unit) (
    loopF (pL_eqRowS_b1 fuel) fuel (a1, a2, 0)) fun _ =>
  some true
def o312 (fuel : Nat) : Orc := ⟨312, [none, none], [.row .iRow, .row .iRow], 0, (.one .B), fun v => pL_eqRowS fuel v.1 v.2⟩
theorem c312 : CC o312 := fun hcl fuel => mkc hcl (csc (c352 hcl fuel) csn) T312 fuel Tryz.f312
def T279 : Tab := ⟨[], [], []⟩
def pL_eqScr (fuel : Nat) (a1 : IScr) (a2 : IScr) : Option Bool :=
  br (a1.W != a2.W) (
    some false) <|
  br (a1.H != a2.H) (
    some false) <|
  bd (pL_eqGrid fuel a1.Main a2.Main) fun x3 =>
  br (!x3) (
    some false) <|
  bd (pL_eqGrid fuel a1.Alt a2.Alt) fun x4 =>
  br (!x4) (
    some false) <|
  br (!a1.OnAlt == a2.OnAlt) (
    some false) <|
  br (a1.X != a2.X) (
    some false) <|
  br (a1.Y != a2.Y) (
    some false) <|
  br (!a1.Wrap == a2.Wrap) (
    some false) <|
  bd (pL_eqAttr fuel a1.A a2.A) fun x5 =>
  br (!x5) (
    some false) <|
  br (a1.Top != a2.Top) (
    some false) <|
  br (a1.Bot != a2.Bot) (
    some false) <|
  br (!a1.NoWrap == a2.NoWrap) (
    some false) <|
  br (!a1.Hide == a2.Hide) (
    some false) <|
  br (a1.SaveX != a2.SaveX) (
    some false) <|
  br (a1.SaveY != a2.SaveY) (
    some false) <|
  bd (pL_eqAttr fuel a1.SaveA a2.SaveA) fun x6 =>
  br (!x6) (
    some false) <|
  bd (pL_eqIntS fuel a1.Tabs a2.Tabs) fun x7 =>
  br (!x7) (
    some false) <|
  br (a1.Limit != a2.Limit) (
    some false) <|
  bd (pL_eqRowS fuel a1.Back a2.Back) fun x8 =>
  br (!x8) (
    some false) <|
  some true
def o279 (fuel : Nat) : Orc := ⟨279, [none, none], [.st .iScr [], .st .iScr []], 0, (.one .B), fun v => pL_eqScr fuel v.1 v.2⟩
theorem c279 : CC o279 := fun hcl fuel => mkc hcl (csc (c52 hcl fuel) (csc (c288 hcl fuel) (csc (c197 hcl fuel) (csc (c312 hcl fuel) csn)))) T279 fuel Tryz.f279
def T195 : Tab := ⟨[], [], []⟩
def pL_eqTerm (fuel : Nat) (a1 : ITerm) (a2 : ITerm) : Option Bool :=
  bd (pL_eqVp fuel a1.P a2.P) fun x3 =>
  br (!x3) (
    some false) <|
  bd (pL_eqScr fuel a1.S a2.S) fun x4 =>
  br (!x4) (
    some false) <|
  some true
def o195 (fuel : Nat) : Orc := ⟨195, [none, none], [.st .iTerm [], .st .iTerm []], 0, (.one .B), fun v => pL_eqTerm fuel v.1 v.2⟩
theorem c195 : CC o195 := fun hcl fuel => mkc hcl (csc (c278 hcl fuel) (csc (c279 hcl fuel) csn)) T195 fuel Tryz.f195
def T109 : Tab := ⟨[], [], []⟩
def pL_eqPane (fuel : Nat) (a1 : IPane) (a2 : IPane) : Option Bool :=
  br (a1.Id != a2.Id) (
    some false) <|
  br (!decide (a1.Cmd = a2.Cmd)) (
    some false) <|
  br (!decide (a1.Dir = a2.Dir)) (
    some false) <|
  br (a1.Life != a2.Life) (
    some false) <|
  br (a1.Code != a2.Code) (
    some false) <|
  br (a1.Pid != a2.Pid) (
    some false) <|
  bd (pL_eqTerm fuel a1.Term a2.Term) fun x3 =>
  br (!x3) (
    some false) <|
  some true
def o109 (fuel : Nat) : Orc := ⟨109, [none, none], [.st .iPane [], .st .iPane []], 0, (.one .B), fun v => pL_eqPane fuel v.1 v.2⟩
theorem c109 : CC o109 := fun hcl fuel => mkc hcl (csc (c195 hcl fuel) csn) T109 fuel Tryz.f109
def T35 : Tab := ⟨[], [], [(4, true, ⟨[], [.sl 0 (.row .iPane), .sl 1 (.row .iPane), .sl 5 (.I .i64)]⟩, 0, ⟨[], []⟩)]⟩
def pL_eqPaneS_b1 (fuel : Nat) : List IPane × List IPane × Int → Option ((List IPane × List IPane × Int) ⊕ (Unit ⊕ Bool)) := fun (v4, v5, v6) =>
  br (decide (v6 < (↑v4.length : Int))) (
    gd (0 ≤ v6 ∧ v6 < (↑v4.length : Int)) <|
    bd v4[v6.toNat]? fun x7 =>
    gd (0 ≤ v6 ∧ v6 < (↑v5.length : Int)) <|
    bd v5[v6.toNat]? fun x8 =>
    bd (pL_eqPane fuel x7 x8) fun x9 =>
    br (!x9) (
      some (.inr (.inr false))) <|
    gd (inK IntKind.i64 (v6 + 1)) <|
    some (.inl (v4, v5, v6 + 1))) <|
  some (.inr (.inl ()))
def pL_eqPaneS (fuel : Nat) (a1 : List IPane) (a2 : List IPane) : Option Bool :=
  br ((↑a1.length : Int) != (↑a2.length : Int)) (
    some false) <|
  jn (V := Unit) (
    loopF (pL_eqPaneS_b1 fuel) fuel (a1, a2, 0)) fun _ =>
  some true
def o35 (fuel : Nat) : Orc := ⟨35, [none, none], [.row .iPane, .row .iPane], 0, (.one .B), fun v => pL_eqPaneS fuel v.1 v.2⟩
theorem c35 : CC o35 := fun hcl fuel => mkc hcl (csc (c109 hcl fuel) csn) T35 fuel Tryz.f35
def T280 : Tab := ⟨[], [], []⟩
def pL_eqNode (fuel : Nat) (a1 : INode) (a2 : INode) : Option Bool :=
  br (a1.Pane != a2.Pane) (
    some false) <|
  br (!a1.Down == a2.Down) (
    some false) <|
  br (a1.First != a2.First) (
    some false) <|
  some true
def o280 (fuel : Nat) : Orc := ⟨280, [none, none], [.st .iNode [], .st .iNode []], 0, (.one .B), fun v => pL_eqNode fuel v.1 v.2⟩
theorem c280 : CC o280 := fun hcl fuel => mkc hcl csn T280 fuel Tryz.f280
def T196 : Tab := ⟨[], [], [(4, true, ⟨[], [.sl 0 (.row .iNode), .sl 1 (.row .iNode), .sl 5 (.I .i64)]⟩, 0, ⟨[], []⟩)]⟩
def pL_eqNodeS_b1 (fuel : Nat) : List INode × List INode × Int → Option ((List INode × List INode × Int) ⊕ (Unit ⊕ Bool)) := fun (v4, v5, v6) =>
  br (decide (v6 < (↑v4.length : Int))) (
    gd (0 ≤ v6 ∧ v6 < (↑v4.length : Int)) <|
    bd v4[v6.toNat]? fun x7 =>
    gd (0 ≤ v6 ∧ v6 < (↑v5.length : Int)) <|
    bd v5[v6.toNat]? fun x8 =>
    bd (pL_eqNode fuel x7 x8) fun x9 =>
    br (!x9) (
      some (.inr (.inr false))) <|
    gd (inK IntKind.i64 (v6 + 1)) <|
    some (.inl (v4, v5, v6 + 1))) <|
  some (.inr (.inl ()))
def pL_eqNodeS (fuel : Nat) (a1 : List INode) (a2 : List INode) : Option Bool :=
  br ((↑a1.length : Int) != (↑a2.length : Int)) (
    some false) <|
  jn (V := Unit) (
    loopF (pL_eqNodeS_b1 fuel) fuel (a1, a2, 0)) fun _ =>
  some true
def o196 (fuel : Nat) : Orc := ⟨196, [none, none], [.row .iNode, .row .iNode], 0, (.one .B), fun v => pL_eqNodeS fuel v.1 v.2⟩
theorem c196 : CC o196 := fun hcl fuel => mkc hcl (csc (c280 hcl fuel) csn) T196 fuel Tryz.f196
def T110 : Tab := ⟨[], [], []⟩
def pL_eqWin (fuel : Nat) (a1 : IWin) (a2 : IWin) : Option Bool :=
  br (a1.Id != a2.Id) (
    some false) <|
  br (!decide (a1.Name = a2.Name)) (
    some false) <|
  bd (pL_eqNodeS fuel a1.Tree a2.Tree) fun x3 =>
  br (!x3) (
    some false) <|
  br (a1.Active != a2.Active) (
    some false) <|
  br (!a1.Zoom == a2.Zoom) (
    some false) <|
  some true
def o110 (fuel : Nat) : Orc := ⟨110, [none, none], [.st .iWin [], .st .iWin []], 0, (.one .B), fun v => pL_eqWin fuel v.1 v.2⟩
theorem c110 : CC o110 := fun hcl fuel => mkc hcl (csc (c196 hcl fuel) csn) T110 fuel Tryz.f110
def T36 : Tab := ⟨[], [], [(4, true, ⟨[], [.sl 0 (.row .iWin), .sl 1 (.row .iWin), .sl 5 (.I .i64)]⟩, 0, ⟨[], []⟩)]⟩
def pL_eqWinS_b1 (fuel : Nat) : List IWin × List IWin × Int → Option ((List IWin × List IWin × Int) ⊕ (Unit ⊕ Bool)) := fun (v4, v5, v6) =>
  br (decide (v6 < (↑v4.length : Int))) (
    gd (0 ≤ v6 ∧ v6 < (↑v4.length : Int)) <|
    bd v4[v6.toNat]? fun x7 =>
    gd (0 ≤ v6 ∧ v6 < (↑v5.length : Int)) <|
    bd v5[v6.toNat]? fun x8 =>
    bd (pL_eqWin fuel x7 x8) fun x9 =>
    br (!x9) (
      some (.inr (.inr false))) <|
    gd (inK IntKind.i64 (v6 + 1)) <|
    some (.inl (v4, v5, v6 + 1))) <|
  some (.inr (.inl ()))
def pL_eqWinS (fuel : Nat) (a1 : List IWin) (a2 : List IWin) : Option Bool :=
  br ((↑a1.length : Int) != (↑a2.length : Int)) (
    some false) <|
  jn (V := Unit) (
    loopF (pL_eqWinS_b1 fuel) fuel (a1, a2, 0)) fun _ =>
  some true
def o36 (fuel : Nat) : Orc := ⟨36, [none, none], [.row .iWin, .row .iWin], 0, (.one .B), fun v => pL_eqWinS fuel v.1 v.2⟩
theorem c36 : CC o36 := fun hcl fuel => mkc hcl (csc (c110 hcl fuel) csn) T36 fuel Tryz.f36
def T111 : Tab := ⟨[], [], []⟩
def pL_eqSess (fuel : Nat) (a1 : ISess) (a2 : ISess) : Option Bool :=
  br (!decide (a1.Name = a2.Name)) (
    some false) <|
  bd (pL_eqIntS fuel a1.Wins a2.Wins) fun x3 =>
  br (!x3) (
    some false) <|
  br (a1.Active != a2.Active) (
    some false) <|
  some true
def o111 (fuel : Nat) : Orc := ⟨111, [none, none], [.st .iSess [], .st .iSess []], 0, (.one .B), fun v => pL_eqSess fuel v.1 v.2⟩
theorem c111 : CC o111 := fun hcl fuel => mkc hcl (csc (c197 hcl fuel) csn) T111 fuel Tryz.f111
def T37 : Tab := ⟨[], [], [(4, true, ⟨[], [.sl 0 (.row .iSess), .sl 1 (.row .iSess), .sl 5 (.I .i64)]⟩, 0, ⟨[], []⟩)]⟩
def pL_eqSessS_b1 (fuel : Nat) : List ISess × List ISess × Int → Option ((List ISess × List ISess × Int) ⊕ (Unit ⊕ Bool)) := fun (v4, v5, v6) =>
  br (decide (v6 < (↑v4.length : Int))) (
    gd (0 ≤ v6 ∧ v6 < (↑v4.length : Int)) <|
    bd v4[v6.toNat]? fun x7 =>
    gd (0 ≤ v6 ∧ v6 < (↑v5.length : Int)) <|
    bd v5[v6.toNat]? fun x8 =>
    bd (pL_eqSess fuel x7 x8) fun x9 =>
    br (!x9) (
      some (.inr (.inr false))) <|
    gd (inK IntKind.i64 (v6 + 1)) <|
    some (.inl (v4, v5, v6 + 1))) <|
  some (.inr (.inl ()))
def pL_eqSessS (fuel : Nat) (a1 : List ISess) (a2 : List ISess) : Option Bool :=
  br ((↑a1.length : Int) != (↑a2.length : Int)) (
    some false) <|
  jn (V := Unit) (
    loopF (pL_eqSessS_b1 fuel) fuel (a1, a2, 0)) fun _ =>
  some true
def o37 (fuel : Nat) : Orc := ⟨37, [none, none], [.row .iSess, .row .iSess], 0, (.one .B), fun v => pL_eqSessS fuel v.1 v.2⟩
theorem c37 : CC o37 := fun hcl fuel => mkc hcl (csc (c111 hcl fuel) csn) T37 fuel Tryz.f37
def T10 : Tab := ⟨[], [], []⟩
def pL_eqState (fuel : Nat) (a1 : IState) (a2 : IState) : Option Bool :=
  br (a1.W != a2.W) (
    some false) <|
  br (a1.H != a2.H) (
    some false) <|
  br (a1.Limit != a2.Limit) (
    some false) <|
  br (a1.Next != a2.Next) (
    some false) <|
  bd (pL_eqPaneS fuel a1.Panes a2.Panes) fun x3 =>
  br (!x3) (
    some false) <|
  bd (pL_eqWinS fuel a1.Wins a2.Wins) fun x4 =>
  br (!x4) (
    some false) <|
  bd (pL_eqSessS fuel a1.Sess a2.Sess) fun x5 =>
  br (!x5) (
    some false) <|
  some true
def o10 (fuel : Nat) : Orc := ⟨10, [none, none], [.st .iState [], .st .iState []], 0, (.one .B), fun v => pL_eqState fuel v.1 v.2⟩
theorem c10 : CC o10 := fun hcl fuel => mkc hcl (csc (c35 hcl fuel) (csc (c36 hcl fuel) (csc (c37 hcl fuel) csn))) T10 fuel Tryz.f10
def T3 : Tab := ⟨[], [], []⟩
def pL_FnExactStatus (fuel : Nat) (a1 : LState) (a2 : ByteArray) : Option Bool :=
  br (decide (1048576 < (↑a2.size : Int))) (
    some true) <|
  bd (pL_szState fuel a1 1048576) fun x3 =>
  br (decide (x3 < 0)) (
    some true) <|
  bd (pL_toState fuel a1) fun x4 =>
  bd (pS_Status fuel x4 a2) fun x5 =>
  bd (pL_toState fuel a1) fun x6 =>
  bd (pI_Status fuel x6 a2) fun x7 =>
  br (!decide (x7 = x5)) (
    some false) <|
  bd (pL_toState fuel a1) fun x8 =>
  bd (pL_eqState fuel x6 x8) fun x9 =>
  br (!x9) (
    some false) <|
  some true
def o3 (fuel : Nat) : Orc := ⟨3, [none, none], [.st .lState [], .S], 0, (.one .B), fun v => pL_FnExactStatus fuel v.1 v.2⟩
theorem c3 : CC o3 := fun hcl fuel => mkc hcl (csc (c6 hcl fuel) (csc (c8 hcl fuel) (csc (c7 hcl fuel) (csc (c9 hcl fuel) (csc (c10 hcl fuel) csn))))) T3 fuel Tryz.f3
end
end Go.Px
namespace Go.Px
open Go.RowKit Go.Deep
def shp : Leaf → Leaf → Prop
  | .sc (.int k _), .sc (.int k' _) => k' = k
  | .sc (.string _), .sc (.string _) => True
  | .sc (.bool _), .sc (.bool _) => True
  | .nest k _, .nest k' _ => k' = k
  | _, _ => False
theorem shp_int {k : IntKind} {n : Int} {lf : Leaf} (h : shp (.sc (.int k n)) lf) : ∃ m, lf = .sc (.int k m) := by
  cases lf with
  | sc v => cases v <;> first | exact h.elim | (obtain rfl : _ = _ := h; exact ⟨_, rfl⟩)
  | nest => exact h.elim
theorem shp_str {s : ByteArray} {lf : Leaf} (h : shp (.sc (.string s)) lf) : ∃ m, lf = .sc (.string m) := by
  cases lf with
  | sc v => cases v <;> first | exact ⟨_, rfl⟩ | exact h.elim
  | nest => exact h.elim
theorem shp_bool {s : Bool} {lf : Leaf} (h : shp (.sc (.bool s)) lf) : ∃ m, lf = .sc (.bool m) := by
  cases lf with
  | sc v => cases v <;> first | exact ⟨_, rfl⟩ | exact h.elim
  | nest => exact h.elim
theorem shp_nest {k : K} {l : List (ty k)} {lf : Leaf} (h : shp (.nest k l) lf) : ∃ m, lf = .nest k m := by
  cases lf with
  | sc v => exact h.elim
  | nest k' l' => obtain rfl : k' = k := h; exact ⟨_, rfl⟩
theorem shp_cons {z : Leaf} {zs lfs : List Leaf} (h : All2 shp (z :: zs) lfs) : ∃ l t, lfs = l :: t ∧ shp z l ∧ All2 shp zs t := by
  cases lfs with
  | nil => exact h.elim
  | cons l t => exact ⟨l, t, rfl, h.1, h.2⟩
theorem shp_nil {lfs : List Leaf} (h : All2 shp [] lfs) : lfs = [] := by
  cases lfs with
  | nil => rfl
  | cons => exact h.elim
set_option maxRecDepth 20000 in
theorem leaves_of : ∀ {k : K} {lfs : List Leaf}, All2 shp (leaves (zK k)) lfs → ∃ x, ofLeaves k (lfs.map leafIn) = some x := by
  intro k lfs h
  cases k
  all_goals
    repeat
      obtain ⟨_, _, e0, h0, h'⟩ := shp_cons h
      clear h
      subst e0
      have h := h'
      clear h'
      first
        | (obtain ⟨_, rfl⟩ := shp_int h0; clear h0)
        | (obtain ⟨_, rfl⟩ := shp_str h0; clear h0)
        | (obtain ⟨_, rfl⟩ := shp_bool h0; clear h0)
        | (obtain ⟨_, rfl⟩ := shp_nest h0; clear h0)
    obtain rfl := shp_nil h
    exact ⟨_, rfl⟩
def RdL (w : World) (zs : List Leaf) (cs : List Value) : Prop := ∃ lfs, All2 shp zs lfs ∧ All2 (LeafV (fun b => b < w.heap.size) w) lfs cs
theorem RdL.app {w : World} : ∀ {z1 z2 : List Leaf} {c1 c2 : List Value}, RdL w z1 c1 → RdL w z2 c2 → RdL w (z1 ++ z2) (c1 ++ c2)
  | z1, z2, c1, c2, ⟨l1, a1, b1⟩, ⟨l2, a2, b2⟩ => ⟨l1 ++ l2, All2.app a1 a2, All2.app b1 b2⟩
theorem RdL.len {w : World} {zs : List Leaf} {cs : List Value} (h : RdL w zs cs) : cs.length = zs.length := by
  obtain ⟨l, a, b⟩ := h
  rw [← b.len, ← a.len]
theorem leafIn_InL {lfs ls : List Leaf} {w : World} {S : Nat → Prop} : ∀ {cs : List Value}, All2 InL (lfs.map leafIn) ls → All2 (LeafV S w) lfs cs → ls = lfs := by
  induction lfs generalizing ls with
  | nil => intro cs h _; cases ls with
    | nil => rfl
    | cons => exact h.elim
  | cons a lfs ih =>
    intro cs h hv
    cases ls with
    | nil => exact h.elim
    | cons b ls =>
      cases cs with
      | nil => exact hv.elim
      | cons c cs =>
        rw [ih h.2 hv.2]
        congr 1
        cases a with
        | sc v => exact h.1 hv.1.2
        | nest k l => exact h.1
theorem RdL.elem {w : World} {k : K} {cs : List Value} (h : RdL w (leaves (zK k)) cs) : ∃ x : ty k, All2 (LeafV (fun b => b < w.heap.size) w) (leaves x) cs := by
  obtain ⟨lfs, a, b⟩ := h
  obtain ⟨x, hx⟩ := leaves_of a
  refine ⟨x, ?_⟩
  rw [leafIn_InL (ofLeaves_spec hx) b]
  exact b
def Reads (P : Program) (t : TypeId) (zs : List Leaf) : Prop := ∀ (H : Type) (enc : TypeId × Value → H) (w : World) (base : Nat) (spare : Nat → Bool) (held : Bool) (fuel : Nat) (cs : List Value) (x : DataW H × List MemPlace),
    DataW.trod enc P w base spare held fuel t cs = some x → RdL w zs cs
section
variable {P : Program}
theorem wf_lit {k : IntKind} {n : Int} (h : (Lit.int k n).wf = true) : wfV (.int k n) := by
  refine (wrap_iff k n).2 ?_
  cases k <;> simp [Lit.wf, IntKind.min, IntKind.max, IntKind.signed, IntKind.bits, loK, hiK] at h ⊢ <;> omega
theorem reads_int {t : TypeId} {k : IntKind} (ht : P.underlying t = some (.int k)) : Reads P t [.sc (.int k 0)] := by
  intro H enc w base spare held fuel cs x h
  obtain ⟨n, rfl, _, hw⟩ := DataW.trod_int ht h
  exact ⟨[.sc (.int k n)], ⟨rfl, trivial⟩, ⟨rfl, wf_lit hw⟩, trivial⟩
theorem reads_bool {t : TypeId} (ht : P.underlying t = some .bool) : Reads P t [.sc (.bool false)] := by
  intro H enc w base spare held fuel cs x h
  obtain ⟨b, rfl, _⟩ := DataW.trod_bool ht h
  exact ⟨[.sc (.bool b)], ⟨trivial, trivial⟩, ⟨rfl, trivial⟩, trivial⟩
theorem reads_str {t : TypeId} (ht : P.underlying t = some .string) : Reads P t [.sc (.string ByteArray.empty)] := by
  intro H enc w base spare held fuel cs x h
  obtain ⟨s, rfl, _, hs⟩ := DataW.trod_string ht h
  exact ⟨[.sc (.string s)], ⟨trivial, trivial⟩, ⟨rfl, hs⟩, trivial⟩
theorem cell_block {w : World} {a : Addr} {v : Value} (h : w.cell? a = some v) : a.block < w.heap.size := by
  unfold World.cell? at h
  split at h
  · rename_i e; exact (Array.getElem?_eq_some_iff.1 e).1
  · cases h
theorem reads_slice {k : K} {t : TypeId} (ht : P.underlying t = some (.slice (tid k))) (hC : P.cellsOf (tid k) = size k) (he : Reads P (tid k) (leaves (zK k))) : Reads P t [.nest k []] := by
  intro H enc w base spare held fuel cs x h
  rcases open_slice ht h with ⟨rfl, _⟩ | ⟨⟨b, off, spot⟩, len, cap, m, n, D, Pl, rfl, hb, hl, hm, hmm, hx, hi⟩
  · exact ⟨[.nest k []], ⟨rfl, trivial⟩, Row.nil, trivial⟩
  · have hp := size_pos k
    have hlm : len ≤ m := by rw [hmm]; split <;> omega
    have hspot : 0 < len → spot = none := by
      intro h0
      obtain ⟨cs', hcs, htr⟩ := hi 0 (by omega)
      obtain ⟨_, hlen, hat⟩ := World.cells?_some hcs
      rw [hC] at hat hlen
      have hc := (hat 0 hp).trans (List.getElem?_eq_getElem (show 0 < cs'.length by omega))
      have := World.cell?_spot hc
      simpa [Addr.add] using this
    have H1 : ∀ i : Fin len, ∃ y : ty k, spot = none ∧ b < w.heap.size ∧ ∀ (j : Nat) lf, (leaves y)[j]? = some lf → ∃ u, w.cell? ⟨b, off + (i.1 * size k + j), none⟩ = some u ∧ LeafV (fun b => b < w.heap.size) w lf u := by
      intro i
      obtain ⟨cs', hcs, htr⟩ := hi i.1 (by omega)
      obtain ⟨_, hlen, hat⟩ := World.cells?_some hcs
      rw [hC] at hlen hat
      obtain ⟨y, hy⟩ := (he _ _ _ _ _ _ _ _ _ htr).elem
      have hc0 := (hat 0 hp).trans (List.getElem?_eq_getElem (show 0 < cs'.length by omega))
      have hspot := hspot (Nat.lt_of_le_of_lt (Nat.zero_le _) i.2)
      subst hspot
      have hblk : b < w.heap.size := by
        have := cell_block hc0
        rw [addr_add, addr_add] at this
        exact this
      refine ⟨y, rfl, hblk, fun j lf hlf => ?_⟩
      obtain ⟨u, hu, hv⟩ := hy.get j lf hlf
      have hj : j < size k := by have := (List.getElem?_eq_some_iff.1 hlf).1; rwa [leaves_len] at this
      have hc := (hat j hj).trans hu
      rw [addr_add, addr_add] at hc
      exact ⟨u, by rw [← Nat.add_assoc]; exact hc, hv⟩
    have hm' : len ≤ 9223372036854775807 := Nat.le_trans hl hm
    refine ⟨[.nest k (List.ofFn fun i => (H1 i).choose)], ⟨rfl, trivial⟩, ?_, trivial⟩
    have hlen : (List.ofFn fun i => (H1 i).choose).length = len := by simp
    have := Row.make (S := fun b => b < w.heap.size) (w := w) (k := k) (l := List.ofFn fun i => (H1 i).choose) (a := some ⟨b, off, spot⟩) (cap := cap) (by rw [hlen]; exact hl) (by rw [hlen]; exact hm') fun hne => by
      have h0 : 0 < len := by
        rcases Nat.eq_zero_or_pos len with h0 | h0
        · subst h0; simp at hne
        · exact h0
      obtain ⟨hs, hblk, _⟩ := (H1 ⟨0, h0⟩).choose_spec
      refine ⟨b, off, by rw [hs], hblk, fun i x hx j lf hlf => ?_⟩
      have hi' : i < len := by rw [← hlen]; exact (List.getElem?_eq_some_iff.1 hx).1
      have hx' : x = (H1 ⟨i, hi'⟩).choose := by
        rw [List.getElem?_ofFn] at hx
        simp [hi'] at hx
        exact hx.symm
      subst hx'
      exact (H1 ⟨i, hi'⟩).choose_spec.2.2 j lf hlf
    rw [hlen] at this
    exact this
def sameZ : List Leaf → List Leaf → Bool
  | [], [] => true
  | .sc (.int k _) :: l, .sc (.int k' _) :: m => decide (k' = k) && sameZ l m
  | .sc (.string _) :: l, .sc (.string _) :: m => sameZ l m
  | .sc (.bool _) :: l, .sc (.bool _) :: m => sameZ l m
  | .nest k _ :: l, .nest k' _ :: m => decide (k' = k) && sameZ l m
  | _, _ => false
theorem sameZ_spec : ∀ {l m : List Leaf}, sameZ l m = true → ∀ {lfs : List Leaf}, All2 shp l lfs → All2 shp m lfs
  | [], [], _, lfs, h => h
  | a :: l, b :: m, hs, lfs, h => by
    cases lfs with
    | nil => exact h.elim
    | cons c lfs =>
      unfold sameZ at hs
      split at hs
      · rename_i h1 h2; cases h1
      · rename_i k n l1 k' n' m1 h1 h2
        cases h1; cases h2
        rw [Bool.and_eq_true] at hs
        obtain rfl := of_decide_eq_true hs.1
        obtain ⟨q, rfl⟩ := shp_int h.1
        exact ⟨rfl, sameZ_spec hs.2 h.2⟩
      · rename_i h1 h2
        cases h1; cases h2
        obtain ⟨q, rfl⟩ := shp_str h.1
        exact ⟨trivial, sameZ_spec hs h.2⟩
      · rename_i h1 h2
        cases h1; cases h2
        obtain ⟨q, rfl⟩ := shp_bool h.1
        exact ⟨trivial, sameZ_spec hs h.2⟩
      · rename_i k n l1 k' n' m1 h1 h2
        cases h1; cases h2
        rw [Bool.and_eq_true] at hs
        obtain rfl := of_decide_eq_true hs.1
        obtain ⟨q, rfl⟩ := shp_nest h.1
        exact ⟨rfl, sameZ_spec hs.2 h.2⟩
      · cases hs
  | [], _ :: _, hs, _, _ => by cases hs
  | .sc v :: _, [], hs, _, _ => by cases v <;> simp [sameZ] at hs
  | .nest _ _ :: _, [], hs, _, _ => by cases hs
def fieldsZ (P : Program) (r : TypeId → Option (List Leaf)) : Nat → List Field → Option (List Leaf)
  | _, [] => some []
  | off, f :: fs => match Nat.beq f.offset off, r f.type with
    | true, some z => (match Nat.beq (P.cellsOf f.type) z.length with
      | true => (match fieldsZ P r (off + z.length) fs with
        | some zs => some (z ++ zs)
        | none => none)
      | false => none)
    | _, _ => none
def rdT (P : Program) : Nat → TypeId → Option (List Leaf)
  | 0, _ => none
  | n + 1, t => match P.underlying t with
    | some (.int k) => some [.sc (.int k 0)]
    | some .string => some [.sc (.string ByteArray.empty)]
    | some .bool => some [.sc (.bool false)]
    | some (.slice e) => (match slK t with
      | some k => (match Nat.beq e (tid k), Nat.beq (P.cellsOf (tid k)) (size k), rdT P n (tid k) with
        | true, true, some zs => (match sameZ zs (leaves (zK k)) with
          | true => some [.nest k []]
          | false => none)
        | _, _, _ => none)
      | none => none)
    | some (.struct fs) => (match fieldsZ P (rdT P n) 0 fs.toList with
      | some zs => (match Nat.beq (P.cellsOf t) zs.length with
        | true => some zs
        | false => none)
      | none => none)
    | _ => none
theorem fieldsZ_rd {r : TypeId → Option (List Leaf)} {w : World} {cs : List Value} : ∀ {fs : List Field} {off : Nat} {zs : List Leaf}, fieldsZ P r off fs = some zs → cs.length = off + zs.length →
    (∀ (i : Nat) f z, fs[i]? = some f → r f.type = some z → RdL w z ((cs.drop f.offset).take (P.cellsOf f.type))) → RdL w zs (cs.drop off)
  | [], off, zs, h, hl, _ => by
    cases h
    rw [List.drop_eq_nil_of_le (by simp at hl; omega)]
    exact ⟨[], trivial, trivial⟩
  | f :: fs, off, zs, h, hl, hf => by
    unfold fieldsZ at h
    split at h
    case h_2 => cases h
    rename_i z h1 h2
    split at h
    case h_2 => cases h
    rename_i h3
    split at h
    case h_2 => cases h
    rename_i zs' h4
    cases h
    have h5 := Nat.eq_of_beq_eq_true h1
    have h6 := Nat.eq_of_beq_eq_true h3
    have q1 := hf 0 f z rfl h2
    rw [h5, h6] at q1
    have q2 := fieldsZ_rd (off := off + z.length) h4 (by rw [List.length_append] at hl; omega) fun i f z hi hz => hf (i + 1) f z (by simpa using hi) hz
    have := q1.app q2
    rwa [show (cs.drop off).take z.length ++ cs.drop (off + z.length) = cs.drop off by rw [← List.drop_drop]; exact List.take_append_drop ..] at this
theorem rdT_reads : ∀ {n : Nat} {t : TypeId} {zs : List Leaf}, rdT P n t = some zs → Reads P t zs
  | 0, _, _, h => by cases h
  | n + 1, t, zs, h => by
    unfold rdT at h
    split at h
    · rename_i k ht; cases h; exact reads_int ht
    · rename_i ht; cases h; exact reads_str ht
    · rename_i ht; cases h; exact reads_bool ht
    · rename_i e ht
      split at h
      case h_2 => cases h
      rename_i k hk
      split at h
      case h_2 => cases h
      rename_i zs' h1 h2 h3
      split at h
      case h_2 => cases h
      rename_i h4
      cases h
      have e1 := Nat.eq_of_beq_eq_true h1
      have e2 := Nat.eq_of_beq_eq_true h2
      subst e1
      refine reads_slice ht e2 fun H enc w base spare held fuel cs x hx => ?_
      obtain ⟨l, a, b⟩ := rdT_reads h3 H enc w base spare held fuel cs x hx
      exact ⟨l, sameZ_spec h4 a, b⟩
    · rename_i fs ht
      split at h
      case h_2 => cases h
      rename_i zs' h1
      split at h
      case h_2 => cases h
      rename_i h2
      cases h
      have e2 := Nat.eq_of_beq_eq_true h2
      intro H enc w base spare held fuel cs x hx
      obtain ⟨xs, m, _, _, hC, hl, hf⟩ := DataW.trod_struct ht hx
      have := fieldsZ_rd (P := P) (w := w) (cs := cs) (off := 0) h1 (by rw [hC, e2, Nat.zero_add]) fun i f z hi hz => by
        have g := hf i f (by simpa using hi)
        have hix : i < xs.length := by rw [hl]; simpa using (List.getElem?_eq_some_iff.1 hi).1
        rw [List.getElem?_eq_getElem hix] at g
        exact rdT_reads hz H enc w base spare held m _ _ g
      simpa using this
    · cases h
end
end Go.Px
namespace Go.Px
open Go.RowKit
section
variable {S : Nat → Prop} {w : World} {β : Nat → Option (Nat × Nat)} {σ : Sto}
theorem own_leaf {lf : Leaf} {u : Value} (h : LeafV S w lf u) : OwnS S w β σ (leafPV lf) u [] := by
  cases lf with
  | sc q => exact ⟨rfl, h⟩
  | nest k l => exact ⟨rfl, rfl, h⟩
theorem own_st {k : K} {x : ty k} {us : List Value} (h : All2 (LeafV S w) (leaves x) us) : Own1 S w β σ ((Sh.st k []).encC x) (.agg us.toArray) [] := by
  refine ⟨us.toArray, rfl, ?_⟩
  have key : ∀ (lfs : List Leaf) (j : Nat) (us : List Value), All2 (LeafV S w) lfs us → All3 (OwnS S w β σ) (stoR [] j lfs) us [] := by
    intro lfs
    induction lfs with
    | nil => intro j us h; cases us with
      | nil => rfl
      | cons => exact h.elim
    | cons a lfs ih => intro j us h; cases us with
      | nil => exact h.elim
      | cons u us => exact ⟨[], [], rfl, own_leaf h.1, ih (j + 1) us h.2⟩
  simpa using key _ 0 us h
end
end Go.Px
namespace Go.Px
@[simp] theorem bd_s {α β : Type} (a : α) (f : α → Option β) : bd (some a) f = f a := rfl
@[simp] theorem bd_n {α β : Type} (f : α → Option β) : bd (none : Option α) f = none := rfl
@[simp] theorem br_t {α : Type} (x y : α) : br true x y = x := rfl
@[simp] theorem br_f {α : Type} (x y : α) : br false x y = y := rfl
@[simp] theorem jn_l {V β : Type} (v : V) (f : V → Option β) : jn (some (.inl v)) f = f v := rfl
@[simp] theorem jn_r {V β : Type} (r : β) (f : V → Option β) : jn (some (.inr r)) f = some r := rfl
theorem bd_br {α β : Type} (b : Bool) (x y : Option α) (f : α → Option β) : bd (br b x y) f = br b (bd x f) (bd y f) := by cases b <;> rfl
theorem br_ss {α : Type} (b : Bool) (x y : α) : br b (some x) (some y) = some (br b x y) := by cases b <;> rfl
theorem br_pp {α β : Type} (b : Bool) (a : α) (x y : β) : br b (a, x) (a, y) = (a, br b x y) := by cases b <;> rfl
theorem gd_t {β : Type} {p : Prop} [Decidable p] (h : p) (x : Option β) : gd p x = x := if_pos h
theorem br_if {α : Type} (b : Bool) (x y : α) : br b x y = if b then x else y := by cases b <;> rfl
theorem loopF_drop {V O α : Type} {B : V → Option (V ⊕ O)} {f : Nat → V} {l : List α} {q : α → Bool} {R E : O} (h : ∀ i x, l[i]? = some x → B (f i) = if q x then some (.inr R) else some (.inl (f (i + 1)))) (he : B (f l.length) = some (.inr E)) :
    ∀ (n fuel i : Nat), l.length - i = n → i ≤ l.length → n < fuel → loopF B fuel (f i) = some (if (l.drop i).any q then R else E)
  | n, 0, i, _, _, hf => by omega
  | 0, fuel + 1, i, hn, hi, _ => by
    obtain rfl : i = l.length := by omega
    unfold loopF
    rw [he]
    simp
  | n + 1, fuel + 1, i, hn, hi, hf => by
    have hlt : i < l.length := by omega
    have hx : l[i]? = some l[i] := List.getElem?_eq_getElem hlt
    unfold loopF
    rw [h i _ hx, List.drop_eq_getElem_cons hlt, List.any_cons]
    by_cases hq : q l[i] = true
    · simp [hq]
    · simp only [hq, if_false, Bool.false_eq_true, Bool.false_or]
      exact loopF_drop h he n fuel (i + 1) (by omega) (by omega) (by omega)
theorem loopF_any {V O α : Type} {B : V → Option (V ⊕ O)} (f : Nat → V) (l : List α) (q : α → Bool) (R E : O) {fuel : Nat} {v : V} (hv : v = f 0) (h : ∀ i x, l[i]? = some x → B (f i) = if q x then some (.inr R) else some (.inl (f (i + 1)))) (he : B (f l.length) = some (.inr E)) (hf : l.length < fuel) : loopF B fuel v = some (if l.any q then R else E) := by
  subst hv
  have := loopF_drop h he l.length fuel 0 rfl (Nat.zero_le _) hf
  rwa [List.drop_zero] at this
theorem loopF_find {V O α : Type} {B : V → Option (V ⊕ O)} (f : Nat → V) (l : List α) (q : α → Bool) (R : Nat → O) (E : O) {fuel : Nat} {v : V} (hv : v = f 0) (h : ∀ i x, l[i]? = some x → B (f i) = if q x then some (.inr (R i)) else some (.inl (f (i + 1)))) (he : B (f l.length) = some (.inr E)) (hf : l.length < fuel) :
    (∃ (i : Nat) (x : α), l[i]? = some x ∧ q x = true ∧ (∀ (j : Nat) y, j < i → l[j]? = some y → q y = false) ∧ loopF B fuel v = some (R i)) ∨ ((∀ x ∈ l, q x = false) ∧ loopF B fuel v = some E) := by
  subst hv
  have key : ∀ (n fuel i : Nat), l.length - i = n → i ≤ l.length → n < fuel → (∀ (j : Nat) y, j < i → l[j]? = some y → q y = false) →
      (∃ (i' : Nat) (x : α), l[i']? = some x ∧ q x = true ∧ (∀ (j : Nat) y, j < i' → l[j]? = some y → q y = false) ∧ loopF B fuel (f i) = some (R i')) ∨ ((∀ (j : Nat) y, l[j]? = some y → q y = false) ∧ loopF B fuel (f i) = some E) := by
    intro n
    induction n with
    | zero =>
      intro fuel i hn hi hf hq
      cases fuel with
      | zero => omega
      | succ fuel =>
        obtain rfl : i = l.length := by omega
        refine .inr ⟨fun j y hj => hq j y (List.getElem?_eq_some_iff.1 hj).1 hj, ?_⟩
        unfold loopF; rw [he]
    | succ n ih =>
      intro fuel i hn hi hf hq
      cases fuel with
      | zero => omega
      | succ fuel =>
        have hlt : i < l.length := by omega
        have hx : l[i]? = some l[i] := List.getElem?_eq_getElem hlt
        by_cases hqx : q l[i] = true
        · refine .inl ⟨i, _, hx, hqx, hq, ?_⟩
          unfold loopF; rw [h i _ hx, hqx]; rfl
        · have hqx : q l[i] = false := by simpa using hqx
          have hstep : loopF B (fuel + 1) (f i) = loopF B fuel (f (i + 1)) := by
            conv => lhs; unfold loopF
            rw [h i _ hx, hqx]; rfl
          rw [hstep]
          refine ih fuel (i + 1) (by omega) (by omega) (by omega) fun j y hj hy => ?_
          rcases Nat.lt_succ_iff_lt_or_eq.1 hj with h1 | h1
          · exact hq j y h1 hy
          · subst h1; rw [hx] at hy; cases hy; exact hqx
  rcases key l.length fuel 0 rfl (Nat.zero_le _) hf (fun j y hj => by omega) with h1 | ⟨h1, h2⟩
  · exact .inl h1
  · exact .inr ⟨fun x hx => by obtain ⟨j, hj⟩ := List.getElem?_of_mem hx; exact h1 j x hj, h2⟩
theorem loopF_anyI {V O α : Type} {B : V → Option (V ⊕ O)} (f : Nat → V) (l : List α) (q : Nat → α → Bool) (R E : O) {fuel : Nat} {v : V} (hv : v = f 0) (h : ∀ i x, l[i]? = some x → B (f i) = if q i x then some (.inr R) else some (.inl (f (i + 1)))) (he : B (f l.length) = some (.inr E)) (hf : l.length < fuel) :
    loopF B fuel v = some (if l.zipIdx.any (fun p => q p.2 p.1) then R else E) := by
  have hl : l.zipIdx.length = l.length := List.length_zipIdx
  refine loopF_any f l.zipIdx (fun p => q p.2 p.1) R E hv (fun i p hp => ?_) (by rw [hl]; exact he) (by rw [hl]; exact hf)
  rw [List.getElem?_zipIdx] at hp
  cases hx : l[i]? with
  | none => rw [hx] at hp; cases hp
  | some x => rw [hx] at hp; simp at hp; subst hp; exact h i x hx
end Go.Px
namespace Go.Px
theorem inK64 {v : Int} (h1 : -9223372036854775808 ≤ v) (h2 : v ≤ 9223372036854775807) : inK .i64 v := by
  show (if (true && decide (v % 18446744073709551616 ≥ 9223372036854775808)) = true then v % 18446744073709551616 - 18446744073709551616 else v % 18446744073709551616) = v
  simp only [Bool.true_and, decide_eq_true_eq]
  split <;> omega
@[simp] theorem pI_within_eq (fuel : Nat) (a b c : Int) : pI_within fuel a b c = some (decide (b ≤ a) && decide (a ≤ c)) := by
  unfold pI_within
  by_cases h : b ≤ a <;> simp [h]
@[simp] theorem pI_isId_eq (fuel : Nat) (a : Int) : pI_isId fuel a = some (decide (1 ≤ a) && decide (a ≤ 1000000)) := by
  unfold pI_isId; simp
@[simp] theorem pI_isCmd_eq (fuel : Nat) (a : ByteArray) : pI_isCmd fuel a = some (decide ((↑a.size : Int) ≤ 60)) := rfl
def showsB (a : Int) : Bool := (decide (32 ≤ a) && decide (a ≤ 126)) || (decide (160 ≤ a) && decide (a ≤ 65535) && !(decide (55296 ≤ a) && decide (a ≤ 57343)))
@[simp] theorem pI_Shows_eq (fuel : Nat) (a : Int) : pI_Shows fuel a = some (showsB a) := by
  unfold pI_Shows showsB
  simp only [pI_within_eq, bd_s, br_if]
  cases decide (32 ≤ a) && decide (a ≤ 126) <;> cases decide (160 ≤ a) && decide (a ≤ 65535) <;> simp
@[simp] theorem pS_Shows_eq (fuel : Nat) (a : Int) : pS_Shows fuel a = some (showsB a) := by
  unfold pS_Shows showsB
  by_cases h1 : 32 ≤ a <;> by_cases h2 : a ≤ 126 <;> by_cases h3 : 160 ≤ a <;> by_cases h4 : a ≤ 65535 <;> by_cases h5 : a < 55296 <;> simp [h1, h2, h3, h4, h5] <;> (try simp [show ¬ 55296 ≤ a by omega]) <;> (try simp [show 55296 ≤ a by omega]) <;> (try (by_cases h6 : a ≤ 57343 <;> simp [h6] <;> omega)) <;> (try omega)
def attrOkB (x : IAttr) : Bool := (decide (0 ≤ x.Fg) && decide (x.Fg ≤ 8)) && (decide (0 ≤ x.Bg) && decide (x.Bg ≤ 8))
@[simp] theorem pI_AttrOk_eq (fuel : Nat) (x : IAttr) : pI_AttrOk fuel x = some (attrOkB x) := by
  unfold pI_AttrOk attrOkB
  simp only [pI_within_eq, bd_s]
  cases decide (0 ≤ x.Fg) && decide (x.Fg ≤ 8) <;> simp
@[simp] theorem pS_AttrOk_eq (fuel : Nat) (x : IAttr) : pS_AttrOk fuel x = some (attrOkB x) := by
  unfold pS_AttrOk attrOkB
  cases decide (0 ≤ x.Fg) <;> cases decide (x.Fg ≤ 8) <;> cases decide (0 ≤ x.Bg) <;> simp
def cellOkB (x : ICell) : Bool := showsB x.R && attrOkB x.A
@[simp] theorem pI_CellOk_eq (fuel : Nat) (x : ICell) : pI_CellOk fuel x = some (cellOkB x) := by
  unfold pI_CellOk cellOkB
  simp only [pI_Shows_eq, bd_s]
  cases showsB x.R <;> simp
@[simp] theorem pS_CellOk_eq (fuel : Nat) (x : ICell) : pS_CellOk fuel x = some (cellOkB x) := by
  unfold pS_CellOk cellOkB
  simp only [pS_Shows_eq, bd_s]
  cases showsB x.R <;> simp
theorem idx_facts {α : Type} {l : List α} {i : Nat} {x : α} (h : l[i]? = some x) (hl : l.length ≤ 9223372036854775807) : decide ((i : Int) < (l.length : Int)) = true ∧ ((0 : Int) ≤ i ∧ (i : Int) < (l.length : Int)) ∧ l[(i : Int).toNat]? = some x ∧ inK .i64 ((i + 1 : Nat) : Int) ∧ ((i : Int) + 1 = ((i + 1 : Nat) : Int)) := by
  have hi := (List.getElem?_eq_some_iff.1 h).1
  exact ⟨by simp; omega, ⟨by omega, by omega⟩, by simpa using h, inK64 (by omega) (by omega), by simp⟩
theorem areCells_loop (fuel : Nat) (l : List ICell) (hl : l.length ≤ 9223372036854775807) (hf : l.length < fuel) : ∃ n : Int, pG_slices_IndexFunc_ICell_I_areCells_1 fuel l = some n ∧ (decide (0 ≤ n) = l.any fun x => !cellOkB x) := by
  unfold pG_slices_IndexFunc_ICell_I_areCells_1
  rcases loopF_find (B := pG_slices_IndexFunc_ICell_I_areCells_1_b1 fuel) (fun i => (l, (l.length : Int), (i : Int))) l (fun x => !cellOkB x) (fun i => .inr (i : Int)) (.inl ()) (fuel := fuel) (v := (l, (l.length : Int), 0)) rfl (fun i x hx => by
    obtain ⟨h1, h2, h3, h4, h5⟩ := idx_facts hx hl
    unfold pG_slices_IndexFunc_ICell_I_areCells_1_b1 pI_areCells_1
    simp only [h1, br_t, gd_t h2, h3, bd_s, pI_CellOk_eq, h5, gd_t h4]
    cases cellOkB x <;> rfl) (by
    unfold pG_slices_IndexFunc_ICell_I_areCells_1_b1
    simp) hf with ⟨i, x, h1, h2, _, h3⟩ | ⟨h1, h2⟩
  · refine ⟨i, by rw [h3]; rfl, ?_⟩
    have : (l.any fun x => !cellOkB x) = true := List.any_eq_true.2 ⟨x, List.mem_of_getElem? h1, h2⟩
    rw [this]; simp
  · refine ⟨-1, by rw [h2]; rfl, ?_⟩
    have : (l.any fun x => !cellOkB x) = false := List.any_eq_false.2 fun x hx => by rw [h1 x hx]; simp
    rw [this]; rfl
theorem pI_areCells_eq {fuel : Nat} {l : List ICell} (hl : l.length ≤ 9223372036854775807) (hf : l.length < fuel) : pI_areCells fuel l = some (l.all cellOkB) := by
  obtain ⟨n, h1, h2⟩ := areCells_loop fuel l hl hf
  unfold pI_areCells pG_slices_ContainsFunc_ICell_I_areCells_1
  simp only [h1, bd_s, h2]
  rw [List.all_eq_not_any_not]
end Go.Px
namespace Go.Px
theorem mul_small {a b : Int} (h1 : 1 ≤ a) (h2 : a ≤ 120) (h3 : 1 ≤ b) (h4 : b ≤ 120) : 0 ≤ a * b ∧ a * b ≤ 14400 := by
  constructor
  · exact Int.mul_nonneg (by omega) (by omega)
  · calc a * b ≤ 120 * b := Int.mul_le_mul_of_nonneg_right h2 (by omega)
      _ ≤ 14400 := by omega
def isSizeB (w h : Int) : Bool := ((decide (1 ≤ w) && decide (w ≤ 120)) && (decide (1 ≤ h) && decide (h ≤ 120))) && decide (w * h ≤ 4000)
theorem isSizeB_true {w h : Int} : isSizeB w h = true ↔ 1 ≤ w ∧ w ≤ 120 ∧ 1 ≤ h ∧ h ≤ 120 ∧ w * h ≤ 4000 := by
  unfold isSizeB; simp [and_assoc]
@[simp] theorem pI_isSize_eq (fuel : Nat) (w h : Int) : pI_isSize fuel w h = some (isSizeB w h) := by
  unfold pI_isSize isSizeB
  simp only [pI_within_eq, bd_s]
  by_cases h1 : 1 ≤ w <;> by_cases h2 : w ≤ 120 <;> by_cases h3 : 1 ≤ h <;> by_cases h4 : h ≤ 120 <;> simp [h1, h2, h3, h4]
  have := mul_small h1 h2 h3 h4
  rw [gd_t (inK64 (by omega) (by omega))]
  rfl
def gridOkB (x : IGrid) : Bool := isSizeB x.W x.H && (((x.Cells.length : Int) == x.W * x.H) && x.Cells.all cellOkB)
theorem pI_GridOk_eq {fuel : Nat} {x : IGrid} (hl : x.Cells.length ≤ 9223372036854775807) (hf : x.Cells.length < fuel) : pI_GridOk fuel x = some (gridOkB x) := by
  unfold pI_GridOk gridOkB
  simp only [pI_isSize_eq, bd_s, pI_areCells_eq hl hf]
  cases hs : isSizeB x.W x.H with
  | false => simp
  | true =>
    obtain ⟨h1, h2, h3, h4, _⟩ := isSizeB_true.1 hs
    have := mul_small h1 h2 h3 h4
    rw [br_t, gd_t (inK64 (by omega) (by omega))]
    cases ((x.Cells.length : Int) == x.W * x.H) <;> simp
theorem pS_GridOk_loop {fuel : Nat} {l : List ICell} (hl : l.length ≤ 9223372036854775807) (hf : l.length < fuel) : loopF (pS_GridOk_b1 fuel) fuel (l, (l.length : Int), 0) = some (if l.all cellOkB then .inl () else .inr false) := by
  refine (loopF_any (B := pS_GridOk_b1 fuel) (fun i => (l, (l.length : Int), (i : Int))) l (fun x => !cellOkB x) (.inr false) (.inl ()) (v := (l, (l.length : Int), 0)) rfl (fun i x hx => by
    obtain ⟨h1, h2, h3, h4, h5⟩ := idx_facts hx hl
    unfold pS_GridOk_b1
    simp only [h1, br_t, gd_t h2, h3, bd_s, pS_CellOk_eq, h5, gd_t h4]
    cases cellOkB x <;> rfl) (by
    unfold pS_GridOk_b1
    simp) hf).trans ?_
  rw [List.all_eq_not_any_not]
  cases l.any fun x => !cellOkB x <;> rfl
theorem pS_GridOk_eq {fuel : Nat} {x : IGrid} (hl : x.Cells.length ≤ 9223372036854775807) (hf : x.Cells.length < fuel) : pS_GridOk fuel x = some (gridOkB x) := by
  unfold pS_GridOk gridOkB isSizeB
  by_cases h1 : x.W < 1
  · simp [h1, show ¬ 1 ≤ x.W by omega]
  by_cases h2 : 120 < x.W
  · simp [h1, h2, show ¬ x.W ≤ 120 by omega]
  by_cases h3 : x.H < 1
  · simp [h1, h2, h3, show ¬ 1 ≤ x.H by omega]
  by_cases h4 : 120 < x.H
  · simp [h1, h2, h3, h4, show ¬ x.H ≤ 120 by omega]
  have := mul_small (show 1 ≤ x.W by omega) (show x.W ≤ 120 by omega) (show 1 ≤ x.H by omega) (show x.H ≤ 120 by omega)
  have hk : inK .i64 (x.W * x.H) := inK64 (by omega) (by omega)
  by_cases h5 : 4000 < x.W * x.H
  · simp [h1, h2, h3, h4, h5, gd_t hk, show ¬ x.W * x.H ≤ 4000 by omega]
  by_cases h6 : (x.Cells.length : Int) = x.W * x.H
  · simp only [h1, h2, h3, h4, h5, decide_false, br_f, gd_t hk, bd_s, h6, bne_self_eq_false]
    rw [← h6, pS_GridOk_loop hl hf]
    generalize x.Cells.all cellOkB = c
    simp [show 1 ≤ x.W by omega, show x.W ≤ 120 by omega, show 1 ≤ x.H by omega, show x.H ≤ 120 by omega, show x.W * x.H ≤ 4000 by omega, h6]
    cases c <;> rfl
  · have hb : ((x.Cells.length : Int) != x.W * x.H) = true := by simp [h6]
    simp [h1, h2, h3, h4, h5, h6, hb, gd_t hk, show 1 ≤ x.W by omega, show x.W ≤ 120 by omega, show 1 ≤ x.H by omega, show x.H ≤ 120 by omega, show x.W * x.H ≤ 4000 by omega]
theorem pI_Grid_has_eq {fuel : Nat} {g : IGrid} {x y : Int} (hg : isSizeB g.W g.H = true) : pI_Grid_has fuel g x y = some ((decide (0 ≤ x) && decide (x ≤ g.W - 1)) && (decide (0 ≤ y) && decide (y ≤ g.H - 1))) := by
  obtain ⟨h1, h2, h3, h4, _⟩ := isSizeB_true.1 hg
  unfold pI_Grid_has
  rw [gd_t (inK64 (by omega) (by omega))]
  simp only [pI_within_eq, bd_s, gd_t (inK64 (v := g.H - 1) (by omega) (by omega))]
  cases (decide (0 ≤ x) && decide (x ≤ g.W - 1)) <;> simp
end Go.Px
namespace Go.Px
def ascQ (l : List Int) (lo hi : Int) (i : Nat) (x : Int) : Bool := !(decide (lo ≤ x) && decide (x ≤ hi)) || (match i with
  | 0 => false
  | j + 1 => match l[j]? with
    | some y => decide (x ≤ y)
    | none => false)
def ascB (l : List Int) (lo hi : Int) : Bool := !(l.zipIdx.any fun p => ascQ l lo hi p.2 p.1)
theorem prev_facts {α : Type} {l : List α} {j : Nat} {x : α} (h : l[j + 1]? = some x) (hl : l.length ≤ 9223372036854775807) : ∃ y, l[j]? = some y ∧ decide ((0 : Int) < ((j + 1 : Nat) : Int)) = true ∧ inK .i64 (((j + 1 : Nat) : Int) - 1) ∧ ((0 : Int) ≤ ((j + 1 : Nat) : Int) - 1 ∧ ((j + 1 : Nat) : Int) - 1 < (l.length : Int)) ∧ l[(((j + 1 : Nat) : Int) - 1).toNat]? = some y := by
  have hi := (List.getElem?_eq_some_iff.1 h).1
  have e : (((j + 1 : Nat) : Int) - 1).toNat = j := by omega
  exact ⟨l[j]'(by omega), List.getElem?_eq_getElem (by omega), decide_eq_true (by omega), inK64 (by omega) (by omega), ⟨by omega, by omega⟩, by rw [e]; exact List.getElem?_eq_getElem (by omega)⟩
theorem pI_isAscending_eq {fuel : Nat} {l : List Int} {lo hi : Int} (hl : l.length ≤ 9223372036854775807) (hf : l.length < fuel) : pI_isAscending fuel l lo hi = some (ascB l lo hi) := by
  have h := loopF_anyI (B := pI_isAscending_b1 fuel) (fun i => (l, lo, hi, l, (l.length : Int), (i : Int))) l (ascQ l lo hi) (.inr false) (.inl ()) (v := (l, lo, hi, l, (l.length : Int), 0)) rfl (fun i x hx => by
    obtain ⟨h1, h2, h3, h4, h5⟩ := idx_facts hx hl
    unfold pI_isAscending_b1 ascQ
    simp only [h1, br_t, gd_t h2, h3, bd_s, pI_within_eq]
    cases hw : (decide (lo ≤ x) && decide (x ≤ hi)) with
    | false => simp
    | true =>
      cases i with
      | zero => simp only [Bool.not_true, br_f]; simp [gd_t (inK64 (v := 1) (by omega) (by omega))]
      | succ j =>
        obtain ⟨y, p1, p2, p3, p4, p5⟩ := prev_facts hx hl
        simp only [Bool.not_true, br_f, p2, br_t, gd_t p3, gd_t p4, p5, bd_s, p1, Bool.false_or, h5, gd_t h4]
        cases decide (x ≤ y) <;> rfl) (by
    unfold pI_isAscending_b1
    simp) hf
  unfold pI_isAscending ascB
  rw [h]
  cases l.zipIdx.any fun p => ascQ l lo hi p.2 p.1 <;> rfl
def rowOkB (x : IRow) : Bool := (decide (1 ≤ (x.Cells.length : Int)) && decide ((x.Cells.length : Int) ≤ 120)) && x.Cells.all cellOkB
theorem pI_backOk_1_eq {fuel : Nat} {x : IRow} (hl : x.Cells.length ≤ 9223372036854775807) (hf : x.Cells.length < fuel) : pI_backOk_1 fuel x = some (!rowOkB x) := by
  unfold pI_backOk_1 rowOkB
  simp only [pI_within_eq, bd_s, pI_areCells_eq hl hf]
  cases (decide (1 ≤ (x.Cells.length : Int)) && decide ((x.Cells.length : Int) ≤ 120)) <;> simp
theorem backOk_loop (fuel : Nat) (l : List IRow) (hl : l.length ≤ 9223372036854775807) (hf : l.length < fuel) (hr : ∀ x ∈ l, x.Cells.length ≤ 9223372036854775807 ∧ x.Cells.length < fuel) : ∃ n : Int, pG_slices_IndexFunc_IRow_I_backOk_1 fuel l = some n ∧ (decide (0 ≤ n) = l.any fun x => !rowOkB x) := by
  unfold pG_slices_IndexFunc_IRow_I_backOk_1
  rcases loopF_find (B := pG_slices_IndexFunc_IRow_I_backOk_1_b1 fuel) (fun i => (l, (l.length : Int), (i : Int))) l (fun x => !rowOkB x) (fun i => .inr (i : Int)) (.inl ()) (fuel := fuel) (v := (l, (l.length : Int), 0)) rfl (fun i x hx => by
    obtain ⟨h1, h2, h3, h4, h5⟩ := idx_facts hx hl
    obtain ⟨r1, r2⟩ := hr x (List.mem_of_getElem? hx)
    unfold pG_slices_IndexFunc_IRow_I_backOk_1_b1
    simp only [h1, br_t, gd_t h2, h3, bd_s, pI_backOk_1_eq r1 r2, h5, gd_t h4]
    cases rowOkB x <;> rfl) (by
    unfold pG_slices_IndexFunc_IRow_I_backOk_1_b1
    simp) hf with ⟨i, x, h1, h2, _, h3⟩ | ⟨h1, h2⟩
  · refine ⟨i, by rw [h3]; rfl, ?_⟩
    have : (l.any fun x => !rowOkB x) = true := List.any_eq_true.2 ⟨x, List.mem_of_getElem? h1, h2⟩
    rw [this]; simp
  · refine ⟨-1, by rw [h2]; rfl, ?_⟩
    have : (l.any fun x => !rowOkB x) = false := List.any_eq_false.2 fun x hx => by rw [h1 x hx]; simp
    rw [this]; rfl
theorem pI_backOk_eq {fuel : Nat} {l : List IRow} {n : Int} (hl : l.length ≤ 9223372036854775807) (hf : l.length < fuel) (hr : ∀ x ∈ l, x.Cells.length ≤ 9223372036854775807 ∧ x.Cells.length < fuel) : pI_backOk fuel l n = some (decide ((l.length : Int) ≤ n) && l.all rowOkB) := by
  obtain ⟨m, h1, h2⟩ := backOk_loop fuel l hl hf hr
  unfold pI_backOk pG_slices_ContainsFunc_IRow_I_backOk_1
  simp only [h1, bd_s, h2]
  rw [List.all_eq_not_any_not]
  cases decide ((l.length : Int) ≤ n) <;> simp
theorem pS_l09Row_eq {fuel : Nat} {x : IRow} (hl : x.Cells.length ≤ 9223372036854775807) (hf : x.Cells.length < fuel) : pS_l09Row fuel x = some (rowOkB x) := by
  have h := loopF_any (B := pS_l09Row_b1 fuel) (fun i => (x, x.Cells, (x.Cells.length : Int), (i : Int))) x.Cells (fun c => !cellOkB c) (.inr false) (.inl x) (v := (x, x.Cells, (x.Cells.length : Int), 0)) rfl (fun i c hx => by
    obtain ⟨h1, h2, h3, h4, h5⟩ := idx_facts hx hl
    unfold pS_l09Row_b1
    simp only [h1, br_t, gd_t h2, h3, bd_s, pS_CellOk_eq, h5, gd_t h4]
    cases cellOkB c <;> rfl) (by
    unfold pS_l09Row_b1
    simp) hf
  unfold pS_l09Row rowOkB
  rw [h, List.all_eq_not_any_not]
  cases (x.Cells.any fun c => !cellOkB c) <;> by_cases h1 : 1 ≤ (x.Cells.length : Int) <;> simp [h1]
theorem pS_back_loop {fuel : Nat} {l : List IRow} (hl : l.length ≤ 9223372036854775807) (hf : l.length < fuel) (hr : ∀ x ∈ l, x.Cells.length ≤ 9223372036854775807 ∧ x.Cells.length < fuel) : loopF (pS_ScrOk_b2 fuel) fuel (l, (l.length : Int), 0) = some (if l.all rowOkB then .inl () else .inr false) := by
  refine (loopF_any (B := pS_ScrOk_b2 fuel) (fun i => (l, (l.length : Int), (i : Int))) l (fun x => !rowOkB x) (.inr false) (.inl ()) (v := (l, (l.length : Int), 0)) rfl (fun i x hx => by
    obtain ⟨h1, h2, h3, h4, h5⟩ := idx_facts hx hl
    obtain ⟨r1, r2⟩ := hr x (List.mem_of_getElem? hx)
    unfold pS_ScrOk_b2
    simp only [h1, br_t, gd_t h2, h3, bd_s, pS_l09Row_eq r1 r2, h5, gd_t h4]
    cases rowOkB x <;> rfl) (by
    unfold pS_ScrOk_b2
    simp) hf).trans ?_
  rw [List.all_eq_not_any_not]
  cases l.any fun x => !rowOkB x <;> rfl
theorem pS_tabs_loop {fuel : Nat} {s : IScr} (hl : s.Tabs.length ≤ 9223372036854775807) (hf : s.Tabs.length < fuel) : loopF (pS_ScrOk_b1 fuel) fuel (s, s.Tabs, (s.Tabs.length : Int), 0) = some (if ascB s.Tabs 0 (s.W - 1) then .inl s else .inr false) := by
  have h := loopF_anyI (B := pS_ScrOk_b1 fuel) (fun i => (s, s.Tabs, (s.Tabs.length : Int), (i : Int))) s.Tabs (ascQ s.Tabs 0 (s.W - 1)) (.inr false) (.inl s) (v := (s, s.Tabs, (s.Tabs.length : Int), 0)) rfl (fun i x hx => by
    obtain ⟨h1, h2, h3, h4, h5⟩ := idx_facts hx hl
    unfold pS_ScrOk_b1 ascQ
    simp only [h1, br_t, gd_t h2, h3, bd_s]
    by_cases w1 : x < 0
    · simp [w1, show ¬ 0 ≤ x by omega]
    by_cases w2 : s.W ≤ x
    · simp [w1, w2, show ¬ x ≤ s.W - 1 by omega]
    have w3 : (decide (0 ≤ x) && decide (x ≤ s.W - 1)) = true := by simp; omega
    cases i with
    | zero => simp only [w1, w2, w3, decide_false, br_f]; simp [gd_t (inK64 (v := 1) (by omega) (by omega))]
    | succ j =>
      obtain ⟨y, p1, p2, p3, p4, p5⟩ := prev_facts hx hl
      simp only [w1, w2, w3, decide_false, br_f, p2, br_t, gd_t p3, gd_t p4, p5, bd_s, p1, Bool.not_true, Bool.false_or, h5, gd_t h4]
      cases decide (x ≤ y) <;> rfl) (by
    unfold pS_ScrOk_b1
    simp) hf
  rw [h]
  unfold ascB
  cases s.Tabs.zipIdx.any fun p => ascQ s.Tabs 0 (s.W - 1) p.2 p.1 <;> rfl
end Go.Px
namespace Go.Px
def hasB (w h x y : Int) : Bool := (decide (0 ≤ x) && decide (x ≤ w - 1)) && (decide (0 ≤ y) && decide (y ≤ h - 1))
def gridsB (s : IScr) : Bool := [s.Main, s.Alt].all fun g => gridOkB g && ((g.W == s.W) && (g.H == s.H))
def scrRestB (s : IScr) : Bool :=
  hasB s.W s.H s.X s.Y && (hasB s.W s.H s.SaveX s.SaveY && ((!s.Wrap || s.X == s.W - 1) && (attrOkB s.A && (attrOkB s.SaveA && (decide (0 ≤ s.Top) && (decide (s.Top ≤ s.Bot) && (decide (s.Bot < s.H) && ((!(s.Top == s.Bot) || s.H == 1) &&
  (ascB s.Tabs 0 (s.W - 1) && ((decide (0 ≤ s.Limit) && decide (s.Limit ≤ 100)) && (decide ((s.Back.length : Int) ≤ s.Limit) && s.Back.all rowOkB)))))))))))
def scrOkB (s : IScr) : Bool := gridsB s && scrRestB s
structure ScrF (fuel : Nat) (s : IScr) : Prop where
  m : s.Main.Cells.length ≤ 9223372036854775807 ∧ s.Main.Cells.length < fuel
  a : s.Alt.Cells.length ≤ 9223372036854775807 ∧ s.Alt.Cells.length < fuel
  t : s.Tabs.length ≤ 9223372036854775807 ∧ s.Tabs.length < fuel
  b : s.Back.length ≤ 9223372036854775807 ∧ s.Back.length < fuel
  r : ∀ x ∈ s.Back, x.Cells.length ≤ 9223372036854775807 ∧ x.Cells.length < fuel
  f : 2 < fuel
theorem pI_grids_loop {fuel : Nat} {s : IScr} (hf : ScrF fuel s) : loopF (pI_ScrOk_b1 fuel) fuel (s, [s.Main, s.Alt], ((2 : Nat) : Int), 0) = some (if gridsB s then .inl s else .inr false) := by
  have h := loopF_any (B := pI_ScrOk_b1 fuel) (fun i => (s, [s.Main, s.Alt], ((2 : Nat) : Int), (i : Int))) [s.Main, s.Alt] (fun g => !(gridOkB g && ((g.W == s.W) && (g.H == s.H)))) (.inr false) (.inl s) (v := (s, [s.Main, s.Alt], ((2 : Nat) : Int), 0)) rfl (fun i g hx => by
    obtain ⟨h1, h2, h3, h4, h5⟩ := idx_facts hx (by simp)
    have h1 : decide ((i : Int) < ((2 : Nat) : Int)) = true := h1
    have h3 : [s.Main, s.Alt][0 + (i : Int).toNat]? = some g := by rw [Nat.zero_add]; exact h3
    have hg : pI_GridOk fuel g = some (gridOkB g) := by
      have hm := List.mem_of_getElem? hx
      simp at hm
      rcases hm with rfl | rfl
      · exact pI_GridOk_eq hf.m.1 hf.m.2
      · exact pI_GridOk_eq hf.a.1 hf.a.2
    unfold pI_ScrOk_b1
    simp only [h1, br_t, gd_t h2, h3, bd_s, hg]
    cases gridOkB g
    · simp
    · cases hw : (g.W == s.W)
      · simp [bne, hw]
      · cases hh : (g.H == s.H)
        · simp [bne, hw, hh]
        · simp only [bne, hw, hh, Bool.not_true, br_f, bd_s, h5, gd_t h4]; rfl) (by
    unfold pI_ScrOk_b1
    simp) hf.f
  rw [h]
  unfold gridsB
  rw [List.all_eq_not_any_not]
  cases ([s.Main, s.Alt].any fun g => !(gridOkB g && ((g.W == s.W) && (g.H == s.H)))) <;> rfl
theorem gridsB_size {s : IScr} (h : gridsB s = true) : isSizeB s.W s.H = true ∧ s.Main.W = s.W ∧ s.Main.H = s.H ∧ s.Alt.W = s.W ∧ s.Alt.H = s.H ∧ gridOkB s.Main = true ∧ gridOkB s.Alt = true := by
  unfold gridsB at h
  simp at h
  obtain ⟨⟨h1, h2, h3⟩, h4, h5, h6⟩ := h
  refine ⟨?_, h2, h3, h5, h6, h1, h4⟩
  unfold gridOkB at h1
  rw [Bool.and_eq_true] at h1
  rw [← h2, ← h3]; exact h1.1
theorem pI_ScrOk_eq {fuel : Nat} {s : IScr} (hf : ScrF fuel s) : pI_ScrOk fuel s = some (scrOkB s) := by
  unfold pI_ScrOk scrOkB
  have := pI_grids_loop hf
  rw [show ((↑2 : Int)) = ((2 : Nat) : Int) from rfl] at *
  rw [this]
  cases hg : gridsB s with
  | false => rfl
  | true =>
    obtain ⟨z, e1, e2, e3, e4, g1, g2⟩ := gridsB_size hg
    obtain ⟨z1, z2, z3, z4, _⟩ := isSizeB_true.1 z
    have zm : isSizeB s.Main.W s.Main.H = true := by rw [e1, e2]; exact z
    have k1 : inK .i64 (s.W - 1) := inK64 (by omega) (by omega)
    simp only [if_true, jn_l, pI_Grid_has_eq zm, e1, e2, bd_s, pI_AttrOk_eq, gd_t k1, pI_isAscending_eq hf.t.1 hf.t.2, pI_within_eq, pI_backOk_eq hf.b.1 hf.b.2 hf.r, Bool.true_and, br_ss, br_pp]
    unfold scrRestB
    rw [show ((decide (0 ≤ s.X) && decide (s.X ≤ s.W - 1)) && (decide (0 ≤ s.Y) && decide (s.Y ≤ s.H - 1))) = hasB s.W s.H s.X s.Y from rfl, show ((decide (0 ≤ s.SaveX) && decide (s.SaveX ≤ s.W - 1)) && (decide (0 ≤ s.SaveY) && decide (s.SaveY ≤ s.H - 1))) = hasB s.W s.H s.SaveX s.SaveY from rfl]
    generalize hasB s.W s.H s.X s.Y = p1
    generalize hasB s.W s.H s.SaveX s.SaveY = p2
    generalize attrOkB s.A = p4
    generalize attrOkB s.SaveA = p5
    generalize ascB s.Tabs 0 (s.W - 1) = p10
    generalize (decide ((s.Back.length : Int) ≤ s.Limit) && s.Back.all rowOkB) = p12
    generalize (decide (0 ≤ s.Limit) && decide (s.Limit ≤ 100)) = p11
    simp only [bne]
    generalize (s.X == s.W - 1) = p3
    generalize (s.H == 1) = p9
    generalize (s.Top == s.Bot) = p13
    cases p1; · simp
    cases p2; · simp
    have q6 : decide (s.Top < 0) = !decide (0 ≤ s.Top) := by by_cases h : 0 ≤ s.Top <;> simp [h] <;> omega
    have q7 : decide (s.Bot < s.Top) = !decide (s.Top ≤ s.Bot) := by by_cases h : s.Top ≤ s.Bot <;> simp [h] <;> omega
    have q8 : decide (s.H ≤ s.Bot) = !decide (s.Bot < s.H) := by by_cases h : s.Bot < s.H <;> simp [h] <;> omega
    rw [q6, q7, q8]
    generalize decide (0 ≤ s.Top) = p6
    generalize decide (s.Top ≤ s.Bot) = p7
    generalize decide (s.Bot < s.H) = p8
    generalize s.Wrap = wr
    cases wr <;> cases p3 <;> cases p4 <;> cases p5 <;> cases p6 <;> cases p7 <;> cases p8 <;> cases p13 <;> cases p9 <;> cases p10 <;> cases p11 <;> rfl
end Go.Px
namespace Go.Px
theorem pS_ScrOk_eq {fuel : Nat} {s : IScr} (hf : ScrF fuel s) : pS_ScrOk fuel s = some (scrOkB s) := by
  unfold pS_ScrOk scrOkB
  simp only [pS_GridOk_eq hf.m.1 hf.m.2, pS_GridOk_eq hf.a.1 hf.a.2, bd_s, br_ss, br_pp]
  have hx : (br (!gridOkB s.Main) true (br (!gridOkB s.Alt) true (br (s.Main.W != s.W) true (br (s.Main.H != s.H) true (br (s.Alt.W != s.W) true (s.Alt.H != s.H)))))) = !gridsB s := by
    unfold gridsB
    simp only [List.all_cons, List.all_nil, bne]
    cases gridOkB s.Main <;> cases gridOkB s.Alt <;> cases (s.Main.W == s.W) <;> cases (s.Main.H == s.H) <;> cases (s.Alt.W == s.W) <;> cases (s.Alt.H == s.H) <;> rfl
  rw [hx]
  cases hg : gridsB s with
  | false => rfl
  | true =>
    obtain ⟨z, -⟩ := gridsB_size hg
    obtain ⟨z1, z2, z3, z4, _⟩ := isSizeB_true.1 z
    have k1 : inK .i64 (s.W - 1) := inK64 (by omega) (by omega)
    simp only [Bool.not_true, br_f, gd_t k1, pS_AttrOk_eq, bd_s, br_ss, br_pp, pS_tabs_loop hf.t.1 hf.t.2, Bool.true_and]
    unfold scrRestB hasB
    have n1 : ∀ x : Int, decide (x < 0) = !decide (0 ≤ x) := fun x => by by_cases h : 0 ≤ x <;> simp [h] <;> omega
    have n2 : ∀ x : Int, decide (s.W ≤ x) = !decide (x ≤ s.W - 1) := fun x => by by_cases h : x ≤ s.W - 1 <;> simp [h] <;> omega
    have n3 : ∀ x : Int, decide (s.H ≤ x) = !decide (x ≤ s.H - 1) := fun x => by by_cases h : x ≤ s.H - 1 <;> simp [h] <;> omega
    have n4 : decide (s.Bot < s.Top) = !decide (s.Top ≤ s.Bot) := by by_cases h : s.Top ≤ s.Bot <;> simp [h] <;> omega
    have n5 : decide (s.Bot < s.H) = decide (s.Bot ≤ s.H - 1) := by by_cases h : s.Bot < s.H <;> simp [h] <;> omega
    have n6 : decide (100 < s.Limit) = !decide (s.Limit ≤ 100) := by by_cases h : s.Limit ≤ 100 <;> simp [h] <;> omega
    have n7 : decide (s.Limit < (s.Back.length : Int)) = !decide ((s.Back.length : Int) ≤ s.Limit) := by by_cases h : (s.Back.length : Int) ≤ s.Limit <;> simp [h] <;> omega
    simp only [n1, n2, n3, n4, n5, n6, n7, bne]
    generalize decide (0 ≤ s.X) = a1
    generalize decide (s.X ≤ s.W - 1) = a2
    generalize decide (0 ≤ s.Y) = a3
    generalize decide (s.Y ≤ s.H - 1) = a4
    generalize decide (0 ≤ s.SaveX) = a5
    generalize decide (s.SaveX ≤ s.W - 1) = a6
    generalize decide (0 ≤ s.SaveY) = a7
    generalize decide (s.SaveY ≤ s.H - 1) = a8
    generalize attrOkB s.A = b1
    generalize attrOkB s.SaveA = b2
    generalize (s.X == s.W - 1) = b3
    generalize (s.H == 1) = b4
    generalize (s.Top == s.Bot) = b5
    generalize decide (0 ≤ s.Top) = b6
    generalize decide (s.Top ≤ s.Bot) = b7
    generalize decide (s.Bot ≤ s.H - 1) = b8
    generalize decide (0 ≤ s.Limit) = b9
    generalize decide (s.Limit ≤ 100) = c1
    generalize decide ((s.Back.length : Int) ≤ s.Limit) = c2
    generalize ascB s.Tabs 0 (s.W - 1) = c3
    have e1 : (br (!a1) true (br (!a2) true (br (!a3) true (br (!a4) true (br s.Wrap (br (!b3) true (br (!a5) true (br (!a6) true (br (!a7) true (br (!a8) true (br (!b1) true (!b2))))))) (br (!a5) true (br (!a6) true (br (!a7) true (br (!a8) true (br (!b1) true (!b2)))))))))))
        = !(((a1 && a2) && (a3 && a4)) && (((a5 && a6) && (a7 && a8)) && ((!s.Wrap || b3) && (b1 && b2)))) := by
      generalize s.Wrap = w
      cases a1 <;> cases a2 <;> cases a3 <;> cases a4 <;> try rfl
      cases w <;> cases b3 <;> cases a5 <;> cases a6 <;> cases a7 <;> cases a8 <;> cases b1 <;> rfl
    rw [e1]
    generalize ((!s.Wrap || b3)) = w
    have e2 : (((a1 && a2) && (a3 && a4)) && (((a5 && a6) && (a7 && a8)) && (w && (b1 && (b2 && (b6 && (b7 && (b8 && ((!b5 || b4) && (c3 && ((b9 && c1) && (c2 && s.Back.all rowOkB)))))))))))) = ((((a1 && a2) && (a3 && a4)) && (((a5 && a6) && (a7 && a8)) && (w && (b1 && b2)))) && ((b6 && (b7 && (b8 && ((!b5 || b4) && (b9 && (c1 && c2)))))) && (c3 && s.Back.all rowOkB))) := by
      simp only [Bool.and_assoc]
      cases c3 <;> cases b9 <;> cases c1 <;> cases c2 <;> simp
    rw [e2]
    generalize (((a1 && a2) && (a3 && a4)) && (((a5 && a6) && (a7 && a8)) && (w && (b1 && b2)))) = m
    cases m; · rfl
    simp only [Bool.not_true, br_f, bd_s, br_ss, br_pp]
    have e3 : (br (!b6) true (br (!b8) true (br (!b7) true (br b5 (br (!b4) true (br (!b9) true (br (!c1) true (!c2)))) (br (!b9) true (br (!c1) true (!c2))))))) = !(b6 && (b7 && (b8 && ((!b5 || b4) && (b9 && (c1 && c2)))))) := by
      cases b6 <;> cases b8 <;> cases b7 <;> cases b5 <;> cases b4 <;> cases b9 <;> cases c1 <;> rfl
    rw [e3]
    generalize (b6 && (b7 && (b8 && ((!b5 || b4) && (b9 && (c1 && c2)))))) = m2
    cases m2; · rfl
    simp only [Bool.not_true, br_f, bd_s]
    cases c3; · rfl
    simp only [if_true, jn_l, pS_back_loop hf.b.1 hf.b.2 hf.r]
    cases s.Back.all rowOkB <;> rfl
end Go.Px
namespace Go.Px
theorem cmpN_eq {α β : Type} {l : List α} {x y : Option β} {r : β} (hy : y = some r) (hx : l = [] → x = some r) : cmpN l x y = some r := by
  unfold cmpN
  cases l with
  | nil => rw [hx rfl, hy]; simp
  | cons a l => simp [hy]
theorem clone_int {fuel : Nat} {l : List Int} (h : roomB K.int l.length) : pG_slices_Clone_int fuel l = some l := by
  unfold pG_slices_Clone_int
  refine cmpN_eq (by rw [List.nil_append, gd_t h]) fun e => by rw [e]
end Go.Px
namespace Go.Px
theorem hasInt_eq {fuel : Nat} {l : List Int} {n : Int} (hl : l.length ≤ 9223372036854775807) (hf : l.length < fuel) : pS_l02HasInt fuel l n = some (l.any fun x => x == n) := by
  have h := loopF_any (B := pS_l02HasInt_b1 fuel) (fun i => (n, l, (l.length : Int), (i : Int))) l (fun x => x == n) (.inr true) (.inl ()) (v := (n, l, (l.length : Int), 0)) rfl (fun i x hx => by
    obtain ⟨h1, h2, h3, h4, h5⟩ := idx_facts hx hl
    unfold pS_l02HasInt_b1
    simp only [h1, br_t, gd_t h2, h3, bd_s, h5, gd_t h4]
    cases x == n <;> rfl) (by
    unfold pS_l02HasInt_b1
    simp) hf
  unfold pS_l02HasInt
  rw [h]
  cases l.any fun x => x == n <;> rfl
end Go.Px
namespace Go.Px
def argB (x : Int) : Bool := decide (0 ≤ x) && decide (x ≤ 9999)
theorem areArgs_loop (fuel : Nat) (l : List Int) (hl : l.length ≤ 9223372036854775807) (hf : l.length < fuel) : ∃ n : Int, pG_slices_IndexFunc_int_I_areArgs_1 fuel l = some n ∧ (decide (0 ≤ n) = l.any fun x => !argB x) := by
  unfold pG_slices_IndexFunc_int_I_areArgs_1
  rcases loopF_find (B := pG_slices_IndexFunc_int_I_areArgs_1_b1 fuel) (fun i => (l, (l.length : Int), (i : Int))) l (fun x => !argB x) (fun i => .inr (i : Int)) (.inl ()) (fuel := fuel) (v := (l, (l.length : Int), 0)) rfl (fun i x hx => by
    obtain ⟨h1, h2, h3, h4, h5⟩ := idx_facts hx hl
    unfold pG_slices_IndexFunc_int_I_areArgs_1_b1 pI_areArgs_1 argB
    simp only [h1, br_t, gd_t h2, h3, bd_s, pI_within_eq, h5, gd_t h4]
    cases (decide (0 ≤ x) && decide (x ≤ 9999)) <;> rfl) (by
    unfold pG_slices_IndexFunc_int_I_areArgs_1_b1
    simp) hf with ⟨i, x, h1, h2, _, h3⟩ | ⟨h1, h2⟩
  · refine ⟨i, by rw [h3]; rfl, ?_⟩
    have : (l.any fun x => !argB x) = true := List.any_eq_true.2 ⟨x, List.mem_of_getElem? h1, h2⟩
    rw [this]; simp
  · refine ⟨-1, by rw [h2]; rfl, ?_⟩
    have : (l.any fun x => !argB x) = false := List.any_eq_false.2 fun x hx => by rw [h1 x hx]; simp
    rw [this]; rfl
theorem pI_areArgs_eq {fuel : Nat} {l : List Int} (hl : l.length ≤ 9223372036854775807) (hf : l.length < fuel) : pI_areArgs fuel l = some (decide ((l.length : Int) ≤ 8) && l.all argB) := by
  obtain ⟨n, h1, h2⟩ := areArgs_loop fuel l hl hf
  unfold pI_areArgs pG_slices_ContainsFunc_int_I_areArgs_1
  simp only [h1, bd_s, h2]
  rw [List.all_eq_not_any_not]
  cases decide ((l.length : Int) ≤ 8) <;> simp
theorem pS_args_loop {fuel : Nat} {s : IVp} (hl : s.Args.length ≤ 9223372036854775807) (hf : s.Args.length < fuel) : loopF (pS_VpOk_b1 fuel) fuel (s, s.Args, (s.Args.length : Int), 0) = some (if s.Args.all argB then .inl s else .inr false) := by
  refine (loopF_any (B := pS_VpOk_b1 fuel) (fun i => (s, s.Args, (s.Args.length : Int), (i : Int))) s.Args (fun x => !argB x) (.inr false) (.inl s) (v := (s, s.Args, (s.Args.length : Int), 0)) rfl (fun i x hx => by
    obtain ⟨h1, h2, h3, h4, h5⟩ := idx_facts hx hl
    unfold pS_VpOk_b1 argB
    simp only [h1, br_t, gd_t h2, h3, bd_s, br_ss, br_pp]
    by_cases w1 : x < 0
    · simp [w1, show ¬ 0 ≤ x by omega]
    by_cases w2 : 9999 < x
    · simp [w1, w2, show ¬ x ≤ 9999 by omega]
    simp only [w1, w2, decide_false, br_f, h5, gd_t h4]
    simp [show 0 ≤ x by omega, show x ≤ 9999 by omega]) (by
    unfold pS_VpOk_b1
    simp) hf).trans ?_
  rw [List.all_eq_not_any_not]
  cases s.Args.any fun x => !argB x <;> rfl
end Go.Px
namespace Go.Px
def vpOkB (s : IVp) (b : Bool) : Bool :=
  if s.State = 0 then !s.Mark && (((s.Args.length : Int) == 0) && (((s.Part.length : Int) == 0) || b))
  else if s.State = 1 then !s.Mark && (((s.Args.length : Int) == 0) && ((s.Part.length : Int) == 0))
  else if s.State = 2 ∨ s.State = 3 then (decide ((s.Args.length : Int) ≤ 8) && s.Args.all argB) && ((s.Part.length : Int) == 0)
  else false
theorem pI_VpOk_eq {fuel : Nat} {s : IVp} {b : Bool} (hl : s.Args.length ≤ 9223372036854775807) (hf : s.Args.length < fuel) (hb : pI_RuneBegin fuel s.Part = some b) : pI_VpOk fuel s = some (vpOkB s b) := by
  unfold pI_VpOk vpOkB
  simp only [hb, pI_areArgs_eq hl hf, bd_s, br_ss, br_pp]
  by_cases h0 : s.State = 0
  · simp only [h0, if_true]
    cases s.Mark <;> cases ((s.Args.length : Int) == 0) <;> cases ((s.Part.length : Int) == 0) <;> cases b <;> rfl
  by_cases h1 : s.State = 1
  · simp only [h1]
    cases s.Mark <;> cases ((s.Args.length : Int) == 0) <;> cases ((s.Part.length : Int) == 0) <;> rfl
  by_cases h2 : s.State = 2
  · simp only [h2]
    generalize (decide ((s.Args.length : Int) ≤ 8) && s.Args.all argB) = c
    cases c <;> cases ((s.Part.length : Int) == 0) <;> rfl
  by_cases h3 : s.State = 3
  · simp only [h3]
    generalize (decide ((s.Args.length : Int) ≤ 8) && s.Args.all argB) = c
    cases c <;> cases ((s.Part.length : Int) == 0) <;> rfl
  · have e0 : (s.State == 0) = false := by simp [h0]
    have e1 : (s.State == 1) = false := by simp [h1]
    have e2 : (s.State == 2) = false := by simp [h2]
    have e3 : (s.State == 3) = false := by simp [h3]
    simp [e0, e1, e2, e3, h0, h1, h2, h3]
end Go.Px
namespace Go.Px
theorem pS_VpOk_eq {fuel : Nat} {s : IVp} {b : Bool} (hl : s.Args.length ≤ 9223372036854775807) (hf : s.Args.length < fuel) (hb : pS_RuneBegin fuel s.Part = some b) : pS_VpOk fuel s = some (vpOkB s b) := by
  unfold pS_VpOk vpOkB pS_l08Keeps
  simp only [hb, bd_s, br_ss, br_pp]
  by_cases a0 : s.State < 0
  · simp [a0, show ¬ s.State = 0 by omega, show ¬ s.State = 1 by omega, show ¬ s.State = 2 by omega, show ¬ s.State = 3 by omega]
  by_cases a3 : 3 < s.State
  · simp [a0, a3, show ¬ s.State = 0 by omega, show ¬ s.State = 1 by omega, show ¬ s.State = 2 by omega, show ¬ s.State = 3 by omega]
  have hn : decide (0 < (s.Args.length : Int)) = !((s.Args.length : Int) == 0) := by
    cases hs : s.Args <;> simp
    omega
  have h8 : decide (8 < (s.Args.length : Int)) = !decide ((s.Args.length : Int) ≤ 8) := by by_cases h : (s.Args.length : Int) ≤ 8 <;> simp [h] <;> omega
  rw [hn, h8]
  have he : ((s.Args.length : Int) == 0) = true → s.Args.all argB = true ∧ decide ((s.Args.length : Int) ≤ 8) = true := fun h => by
    have : s.Args = [] := by
      cases hs : s.Args with
      | nil => rfl
      | cons a l => rw [hs] at h; simp at h; omega
    rw [this]; simp
  have hc : s.State = 0 ∨ s.State = 1 ∨ s.State = 2 ∨ s.State = 3 := by omega
  simp only [a0, a3, decide_false, br_f, br_ss, br_pp, bd_s, pS_args_loop hl hf]
  cases hL : ((s.Args.length : Int) == 0) with
  | true =>
    obtain ⟨e1, e2⟩ := he hL
    rw [e1, e2]
    rcases hc with h | h | h | h <;> simp only [h] <;> cases s.Mark <;> cases hp : ((s.Part.length : Int) == 0) <;> cases b <;> simp [pS_args_loop hl hf, e1, h, hp, hb]
  | false =>
    rcases hc with h | h | h | h <;> simp only [h] <;> cases s.Mark <;> cases hp : ((s.Part.length : Int) == 0) <;> cases hz : decide ((s.Args.length : Int) ≤ 8) <;> cases hy : s.Args.all argB <;> simp [pS_args_loop hl hf, hy, h, hp, hb]
end Go.Px
namespace Go.Px
def termOkB (x : ITerm) (b : Bool) : Bool := vpOkB x.P b && scrOkB x.S
theorem pI_TermOk_eq {fuel : Nat} {x : ITerm} {b : Bool} (hl : x.P.Args.length ≤ 9223372036854775807) (hf : x.P.Args.length < fuel) (hs : ScrF fuel x.S) (hb : pI_RuneBegin fuel x.P.Part = some b) : pI_TermOk fuel x = some (termOkB x b) := by
  unfold pI_TermOk termOkB
  rw [pI_VpOk_eq hl hf hb, bd_s, pI_ScrOk_eq hs, bd_s]
  cases vpOkB x.P b <;> rfl
theorem pS_TermOk_eq {fuel : Nat} {x : ITerm} {b : Bool} (hl : x.P.Args.length ≤ 9223372036854775807) (hf : x.P.Args.length < fuel) (hs : ScrF fuel x.S) (hb : pS_RuneBegin fuel x.P.Part = some b) : pS_TermOk fuel x = some (termOkB x b) := by
  unfold pS_TermOk termOkB
  rw [pS_VpOk_eq hl hf hb, bd_s, pS_ScrOk_eq hs, bd_s]
  cases vpOkB x.P b <;> rfl
end Go.Px
namespace Go.Px
def lifeB (x : IPane) : Bool :=
  if x.Life = 1 then (decide (1 ≤ x.Pid) && decide (x.Pid ≤ 1000000)) && (x.Code == 0)
  else if x.Life = 2 then (x.Pid == 0) && (decide (0 ≤ x.Code) && decide (x.Code ≤ 255))
  else if x.Life = 3 then (x.Pid == 0) && (x.Code == 0) else false
def paneOkB (x : IPane) (b : Bool) : Bool := (decide (1 ≤ x.Id) && decide (x.Id ≤ 1000000)) && (decide ((x.Cmd.size : Int) ≤ 60) && (decide ((x.Dir.size : Int) ≤ 60) && (termOkB x.Term b && lifeB x)))
theorem pI_PaneOk_eq {fuel : Nat} {x : IPane} {b : Bool} (ht : pI_TermOk fuel x.Term = some (termOkB x.Term b)) : pI_PaneOk fuel x = some (paneOkB x b) := by
  unfold pI_PaneOk paneOkB lifeB
  simp only [pI_isId_eq, pI_isCmd_eq, ht, bd_s, br_ss, br_pp, pI_within_eq]
  cases (decide (1 ≤ x.Id) && decide (x.Id ≤ 1000000)) <;> cases decide ((x.Cmd.size : Int) ≤ 60) <;> cases decide ((x.Dir.size : Int) ≤ 60) <;> cases termOkB x.Term b <;> try rfl
  by_cases h1 : x.Life = 1
  · simp only [h1]
    cases (decide (1 ≤ x.Pid) && decide (x.Pid ≤ 1000000)) <;> rfl
  by_cases h2 : x.Life = 2
  · simp only [h2]
    cases (decide (0 ≤ x.Code) && decide (x.Code ≤ 255)) <;> cases (x.Pid == 0) <;> rfl
  by_cases h3 : x.Life = 3
  · simp only [h3]
    cases (x.Code == 0) <;> cases (x.Pid == 0) <;> rfl
  · have e1 : (x.Life == 1) = false := by simp [h1]
    have e2 : (x.Life == 2) = false := by simp [h2]
    have e3 : (x.Life == 3) = false := by simp [h3]
    simp [e1, e2, e3, h1, h2, h3]
theorem pS_PaneOk_eq {fuel : Nat} {x : IPane} {b : Bool} (ht : pS_TermOk fuel x.Term = some (termOkB x.Term b)) : pS_PaneOk fuel x = some (paneOkB x b) := by
  unfold pS_PaneOk paneOkB lifeB
  have n1 : decide (x.Id < 1) = !decide (1 ≤ x.Id) := by by_cases h : 1 ≤ x.Id <;> simp [h] <;> omega
  have n2 : decide (1000000 < x.Id) = !decide (x.Id ≤ 1000000) := by by_cases h : x.Id ≤ 1000000 <;> simp [h] <;> omega
  have n3 : decide (60 < (x.Cmd.size : Int)) = !decide ((x.Cmd.size : Int) ≤ 60) := by by_cases h : (x.Cmd.size : Int) ≤ 60 <;> simp [h] <;> omega
  have n4 : decide (60 < (x.Dir.size : Int)) = !decide ((x.Dir.size : Int) ≤ 60) := by by_cases h : (x.Dir.size : Int) ≤ 60 <;> simp [h] <;> omega
  simp only [n1, n2, n3, n4, ht, bd_s, br_ss, br_pp]
  cases decide (1 ≤ x.Id) <;> cases decide (x.Id ≤ 1000000) <;> cases decide ((x.Cmd.size : Int) ≤ 60) <;> cases decide ((x.Dir.size : Int) ≤ 60) <;> cases termOkB x.Term b <;> try rfl
  by_cases h1 : x.Life = 1
  · simp only [h1]
    cases decide (1 ≤ x.Pid) <;> cases decide (x.Pid ≤ 1000000) <;> rfl
  by_cases h2 : x.Life = 2
  · simp only [h2]
    cases decide (0 ≤ x.Code) <;> cases decide (x.Code ≤ 255) <;> cases (x.Pid == 0) <;> rfl
  by_cases h3 : x.Life = 3
  · simp only [h3]
    cases (x.Code == 0) <;> cases (x.Pid == 0) <;> rfl
  · have e1 : (x.Life == 1) = false := by simp [h1]
    have e2 : (x.Life == 2) = false := by simp [h2]
    have e3 : (x.Life == 3) = false := by simp [h3]
    simp [e1, e2, e3, h1, h2, h3]
end Go.Px
namespace Go.Px
def runeBytes (r : Int) : List UInt8 :=
  if showsB r then (if r < 128 then [UInt8.ofNat r.toNat] else if r < 2048 then [UInt8.ofNat (192 + r / 64).toNat, UInt8.ofNat (128 + r % 64).toNat]
    else [UInt8.ofNat (224 + r / 4096).toNat, UInt8.ofNat (128 + r / 64 % 64).toNat, UInt8.ofNat (128 + r % 64).toNat]) else []
theorem showsB_iff (r : Int) : showsB r = true ↔ (32 ≤ r ∧ r ≤ 126) ∨ (160 ≤ r ∧ r ≤ 65535 ∧ (r < 55296 ∨ 57343 < r)) := by
  unfold showsB
  simp only [Bool.or_eq_true, Bool.and_eq_true, decide_eq_true_eq, Bool.not_eq_true', Bool.and_eq_false_iff, decide_eq_false_iff_not]
  omega
theorem u8wrap {v : Int} (h1 : 0 ≤ v) (h2 : v ≤ 255) : IntKind.u8.wrap v = v := by
  show v % 256 = v
  omega
theorem pS_RuneBytes_eq (fuel : Nat) (r : Int) : pS_RuneBytes fuel r = some (runeBytes r) := by
  unfold pS_RuneBytes runeBytes
  simp only [pS_Shows_eq, bd_s]
  cases hs : showsB r with
  | false => rfl
  | true =>
    have h := (showsB_iff r).1 hs
    have e1 : r.tdiv 64 = r / 64 := Int.tdiv_eq_ediv_of_nonneg (by omega)
    have e2 : r.tmod 64 = r % 64 := Int.tmod_eq_emod_of_nonneg (by omega)
    have e3 : r.tdiv 4096 = r / 4096 := Int.tdiv_eq_ediv_of_nonneg (by omega)
    have e4 : (r / 64).tmod 64 = r / 64 % 64 := Int.tmod_eq_emod_of_nonneg (by omega)
    simp only [Bool.not_true, br_f, if_true, e1, e2, e3, e4]
    by_cases h1 : r < 128
    · rw [decide_eq_true h1, br_t, if_pos h1, u8wrap (by omega) (by omega)]
    rw [decide_eq_false h1, br_f, if_neg h1]
    by_cases h2 : r < 2048
    · rw [decide_eq_true h2, br_t, if_pos h2, gd_t (by omega), gd_t (inK64 (by omega) (by omega)), gd_t (inK64 (by omega) (by omega)), gd_t (by omega), gd_t (inK64 (by omega) (by omega)), u8wrap (by omega) (by omega), u8wrap (by omega) (by omega)]
    rw [decide_eq_false h2, br_f, if_neg h2, gd_t (by omega), gd_t (inK64 (by omega) (by omega)), gd_t (inK64 (by omega) (by omega)), gd_t (by omega), gd_t (inK64 (by omega) (by omega)), gd_t (by omega), gd_t (inK64 (by omega) (by omega)), gd_t (by omega), gd_t (inK64 (by omega) (by omega)), u8wrap (by omega) (by omega), u8wrap (by omega) (by omega), u8wrap (by omega) (by omega)]
def run1 (x : UInt8) : Int := x.toNat
def run2 (x y : UInt8) : Int := (x.toNat - 192) * 64 + y.toNat - 128
def run3 (x y z : UInt8) : Int := (((x.toNat : Int) - 224) * 64 + y.toNat - 128) * 64 + z.toNat - 128
def runeRead : List UInt8 → Int × Int
  | [] => (0, 0)
  | x :: t => if runeBytes (run1 x) = [x] then (run1 x, 1) else match t with
    | [] => (0, 0)
    | y :: t => if runeBytes (run2 x y) = [x, y] then (run2 x y, 2) else match t with
      | [] => (0, 0)
      | z :: _ => if runeBytes (run3 x y z) = [x, y, z] then (run3 x y z, 3) else (0, 0)
theorem u8_lt (x : UInt8) : (x.toNat : Int) < 256 := by
  have := x.toNat_lt
  omega
theorem ofNat_eq {n : Nat} {x : UInt8} (h : n < 256) : UInt8.ofNat n = x ↔ n = x.toNat := by
  constructor
  · rintro rfl
    exact (UInt8.toNat_ofNat_of_lt' h).symm
  · rintro rfl
    exact UInt8.ofNat_toNat
theorem run1_iff (x : UInt8) : runeBytes (run1 x) = [x] ↔ 32 ≤ x.toNat ∧ x.toNat ≤ 126 := by
  have hx := u8_lt x
  unfold runeBytes run1
  cases hs : showsB x.toNat with
  | false =>
    have := (not_congr (showsB_iff x.toNat)).1 (by rw [hs]; simp)
    simp
    omega
  | true =>
    have := (showsB_iff x.toNat).1 hs
    by_cases h1 : (x.toNat : Int) < 128
    · simp [h1]; omega
    · simp [h1]
      split <;> simp <;> omega
theorem run2_iff (x y : UInt8) : runeBytes (run2 x y) = [x, y] ↔ 194 ≤ x.toNat ∧ x.toNat ≤ 223 ∧ 128 ≤ y.toNat ∧ y.toNat ≤ 191 ∧ (x.toNat = 194 → 160 ≤ y.toNat) := by
  have hx := u8_lt x
  have hy := u8_lt y
  unfold runeBytes run2
  generalize hr : (x.toNat - 192 : Int) * 64 + y.toNat - 128 = r
  cases hs : showsB r with
  | false =>
    have := (not_congr (showsB_iff r)).1 (by rw [hs]; simp)
    simp
    omega
  | true =>
    have := (showsB_iff r).1 hs
    by_cases h1 : r < 128
    · simp [h1]; omega
    by_cases h2 : r < 2048
    · simp only [h1, h2, if_true, if_false, List.cons.injEq, and_true]
      rw [ofNat_eq (by omega), ofNat_eq (by omega)]
      omega
    · simp [h1, h2]; omega
theorem run3_iff (x y z : UInt8) : runeBytes (run3 x y z) = [x, y, z] ↔ 224 ≤ x.toNat ∧ x.toNat ≤ 239 ∧ 128 ≤ y.toNat ∧ y.toNat ≤ 191 ∧ 128 ≤ z.toNat ∧ z.toNat ≤ 191 ∧ (x.toNat = 224 → 160 ≤ y.toNat) ∧ (x.toNat = 237 → y.toNat < 160) := by
  have hx := u8_lt x
  have hy := u8_lt y
  have hz := u8_lt z
  unfold runeBytes run3
  generalize hr : (((x.toNat : Int) - 224) * 64 + y.toNat - 128) * 64 + z.toNat - 128 = r
  cases hs : showsB r with
  | false =>
    have := (not_congr (showsB_iff r)).1 (by rw [hs]; simp)
    simp
    omega
  | true =>
    have := (showsB_iff r).1 hs
    by_cases h1 : r < 128
    · simp [h1]; omega
    by_cases h2 : r < 2048
    · simp [h1, h2]; omega
    · simp only [h1, h2, if_true, if_false, List.cons.injEq, and_true]
      rw [ofNat_eq (by omega), ofNat_eq (by omega), ofNat_eq (by omega)]
      omega
end Go.Px
namespace Go.Px
theorem inK_i64 {v : Int} (h1 : -9223372036854775808 ≤ v) (h2 : v ≤ 9223372036854775807) : inK .i64 v := (wrap_iff .i64 v).2 ⟨h1, h2⟩
theorem gd_i64 {β : Type} {v : Int} {x : Option β} (h1 : -9223372036854775808 ≤ v) (h2 : v ≤ 9223372036854775807) : gd (inK .i64 v) x = x := gd_t (inK_i64 h1 h2) x
theorem gd_ix {β : Type} {a b : Int} {x : Option β} (h1 : 0 ≤ a) (h2 : a < b) : gd (0 ≤ a ∧ a < b) x = x := gd_t ⟨h1, h2⟩ x
theorem gd_ixe {β : Type} {a b : Int} {x : Option β} (h1 : 0 ≤ a) (h2 : a ≤ b) : gd (0 ≤ a ∧ a ≤ b) x = x := gd_t ⟨h1, h2⟩ x
theorem ba_eq {a b : List UInt8} : (ByteArray.mk a.toArray = ByteArray.mk b.toArray) ↔ a = b := by
  constructor
  · intro h
    have := congrArg (fun x => x.data.toList) h
    simpa using this
  · rintro rfl; rfl
theorem rr_inner1 (F : Nat) (l : List UInt8) (r : Int) : loopF (pS_RuneRead_b2 F) (F + 1) (l, 0, 1, r, 1) = some (l, 0, 1, r) := by
  simp [loopF, pS_RuneRead_b2, br]
theorem rr_step (F : Nat) (l : List UInt8) (n r i : Int) (y : UInt8) (hi : 0 ≤ i) (hin : i < n) (hn : n ≤ 3) (hy : l[i.toNat]? = some y) (h1 : -100000 ≤ r) (h2 : r ≤ 100000) : pS_RuneRead_b2 F (l, 0, n, r, i) = some (.inl (l, 0, n, r * 64 + y.toNat - 128, i + 1)) := by
  have hy8 := u8_lt y
  have hl := (List.getElem?_eq_some_iff.1 hy).1
  unfold pS_RuneRead_b2
  simp only [Int.zero_add, decide_eq_true hin, br_t, hy, bd_s]
  rw [gd_i64 (by omega) (by omega), gd_i64 (by omega) (by omega), gd_ix (by omega) (by omega), gd_i64 (by omega) (by omega), gd_i64 (by omega) (by omega), gd_i64 (by omega) (by omega)]
theorem rr_end (F : Nat) (l : List UInt8) (n r : Int) : pS_RuneRead_b2 F (l, 0, n, r, n) = some (.inr (l, 0, n, r)) := by
  simp [pS_RuneRead_b2, br]
theorem rr_inner2 (F : Nat) (x y : UInt8) (t : List UInt8) {r : Int} (h1 : -1000 ≤ r) (h2 : r ≤ 1000) : loopF (pS_RuneRead_b2 F) (F + 2) (x :: y :: t, 0, 2, r, 1) = some (x :: y :: t, 0, 2, r * 64 + y.toNat - 128) := by
  rw [loopF, rr_step F _ 2 r 1 y (by omega) (by omega) (by omega) rfl (by omega) (by omega)]
  simp only [loopF]
  rw [show (1 : Int) + 1 = 2 from rfl, rr_end]
theorem rr_inner3 (F : Nat) (x y z : UInt8) (t : List UInt8) {r : Int} (h1 : -1000 ≤ r) (h2 : r ≤ 1000) : loopF (pS_RuneRead_b2 F) (F + 3) (x :: y :: z :: t, 0, 3, r, 1) = some (x :: y :: z :: t, 0, 3, (r * 64 + y.toNat - 128) * 64 + z.toNat - 128) := by
  have hy8 := u8_lt y
  rw [loopF, rr_step F _ 3 r 1 y (by omega) (by omega) (by omega) rfl (by omega) (by omega)]
  simp only [loopF]
  rw [show (1 : Int) + 1 = 2 from rfl, rr_step F _ 3 _ 2 z (by omega) (by omega) (by omega) rfl (by omega) (by omega)]
  simp only
  rw [show (2 : Int) + 1 = 3 from rfl, rr_end]
theorem rr_outer (F : Nat) (l : List UInt8) (n : Nat) (x : UInt8) (b r : Int) (h1 : 1 ≤ n) (h3 : n ≤ 3) (hn : n ≤ l.length) (hl : l.length ≤ 1000) (hx : l[0]? = some x) (hb : ([0, 0, 192, 224] : List Int)[n]? = some b) (hin : loopF (pS_RuneRead_b2 F) F (l, 0, (n : Int), (x.toNat : Int) - b, 1) = some (l, 0, (n : Int), r)) :
    pS_RuneRead_b1 F (l, 0, (n : Int)) = if runeBytes r = l.take n then some (.inr (.inr (r, (n : Int)))) else some (.inl (l, 0, (n : Int) + 1)) := by
  have hx8 := u8_lt x
  have hbb : 0 ≤ b ∧ b ≤ 224 := by
    match n, hb with
    | 1, hb => have e : some (0 : Int) = some b := hb; cases e; omega
    | 2, hb => have e : some (192 : Int) = some b := hb; cases e; omega
    | 3, hb => have e : some (224 : Int) = some b := hb; cases e; omega
    | 0, _ => omega
    | n + 4, _ => omega
  unfold pS_RuneRead_b1
  simp only [decide_eq_true (show (n : Int) ≤ 3 by omega), br_t]
  rw [gd_i64 (by omega) (by omega)]
  simp only [bd_s, decide_eq_true (show (n : Int) ≤ (l.length : Int) - 0 by omega), br_t]
  rw [gd_ix (by omega) (by omega)]
  rw [show ((0 : Int).toNat) = 0 from rfl, hx]
  simp only [bd_s]
  rw [gd_ix (by omega) (by show (n : Int) < ((4 : Nat) : Int); omega), show (0 + (n : Int).toNat) = n by omega, hb]
  simp only [bd_s]
  rw [gd_i64 (by omega) (by omega), hin]
  simp only [bd_s, pS_RuneBytes_eq]
  by_cases hlen : (runeBytes r).length = n
  · have e : ((runeBytes r).length : Int) == (n : Int) := by simp [hlen]
    simp only [e, br_t]
    rw [gd_i64 (by omega) (by omega), gd_ixe (by omega) (by omega), gd_ixe (by omega) (by simp)]
    simp only [bd_s, show (0 + (n : Int)).toNat = n by omega, show ((0 : Int).toNat) = 0 from rfl, List.drop_zero, ba_eq]
    by_cases he : runeBytes r = l.take n
    · simp only [he, decide_true, br_t, if_true]
    · simp only [he, decide_false, br_f, if_false]
      rw [gd_i64 (by omega) (by omega)]
  · have e : (((runeBytes r).length : Int) == (n : Int)) = false := by simp; omega
    have he : runeBytes r ≠ l.take n := fun e => hlen (by rw [e, List.length_take]; omega)
    simp only [e, br_f, bd_s, he, if_false]
    rw [gd_i64 (by omega) (by omega)]
end Go.Px
namespace Go.Px
theorem rr_stop (F : Nat) (l : List UInt8) (n : Nat) (hn : l.length < n) (h4 : n ≤ 4) : pS_RuneRead_b1 F (l, 0, (n : Int)) = some (.inr (.inl ())) := by
  unfold pS_RuneRead_b1
  by_cases h : n ≤ 3
  · simp only [decide_eq_true (show (n : Int) ≤ 3 by omega), br_t]
    rw [gd_i64 (by omega) (by omega)]
    simp only [bd_s, decide_eq_false (show ¬ (n : Int) ≤ (l.length : Int) - 0 by omega), br_f]
  · simp only [decide_eq_false (show ¬ (n : Int) ≤ 3 by omega), br_f, bd_s]
theorem rr_outer' (F : Nat) (l : List UInt8) (n : Nat) (x : UInt8) (b r : Int) (h1 : 1 ≤ n) (h3 : n ≤ 3) (hn : n ≤ l.length) (hl : l.length ≤ 1000) (hx : l[0]? = some x) (hb : ([0, 0, 192, 224] : List Int)[n]? = some b) (hin : loopF (pS_RuneRead_b2 F) F (l, 0, (n : Int), (x.toNat : Int) - b, 1) = some (l, 0, (n : Int), r)) :
    (runeBytes r = l.take n → pS_RuneRead_b1 F (l, 0, (n : Int)) = some (.inr (.inr (r, (n : Int))))) ∧ (runeBytes r ≠ l.take n → pS_RuneRead_b1 F (l, 0, (n : Int)) = some (.inl (l, 0, (n : Int) + 1))) := by
  have h := rr_outer F l n x b r h1 h3 hn hl hx hb hin
  exact ⟨fun e => by rw [h, if_pos e], fun e => by rw [h, if_neg e]⟩
theorem rr_one (F : Nat) (x : UInt8) (t : List UInt8) (hl : t.length ≤ 100) : (runeBytes (run1 x) = [x] → pS_RuneRead_b1 (F + 3) (x :: t, 0, 1) = some (.inr (.inr (run1 x, 1)))) ∧ (runeBytes (run1 x) ≠ [x] → pS_RuneRead_b1 (F + 3) (x :: t, 0, 1) = some (.inl (x :: t, 0, 2))) :=
  rr_outer' (F + 3) (x :: t) 1 x 0 (run1 x) (by omega) (by omega) (by simp) (by simp; omega) rfl rfl (by
    rw [show ((x.toNat : Int) - 0) = run1 x by unfold run1; omega]
    exact rr_inner1 (F + 2) (x :: t) (run1 x))
theorem rr_two (F : Nat) (x y : UInt8) (t : List UInt8) (hl : t.length ≤ 100) : (runeBytes (run2 x y) = [x, y] → pS_RuneRead_b1 (F + 3) (x :: y :: t, 0, 2) = some (.inr (.inr (run2 x y, 2)))) ∧ (runeBytes (run2 x y) ≠ [x, y] → pS_RuneRead_b1 (F + 3) (x :: y :: t, 0, 2) = some (.inl (x :: y :: t, 0, 3))) := by
  have hx := u8_lt x
  exact rr_outer' (F + 3) (x :: y :: t) 2 x 192 (run2 x y) (by omega) (by omega) (by simp) (by simp; omega) rfl rfl (rr_inner2 (F + 1) x y t (by omega) (by omega))
theorem rr_three (F : Nat) (x y z : UInt8) (t : List UInt8) (hl : t.length ≤ 100) : (runeBytes (run3 x y z) = [x, y, z] → pS_RuneRead_b1 (F + 3) (x :: y :: z :: t, 0, 3) = some (.inr (.inr (run3 x y z, 3)))) ∧ (runeBytes (run3 x y z) ≠ [x, y, z] → pS_RuneRead_b1 (F + 3) (x :: y :: z :: t, 0, 3) = some (.inl (x :: y :: z :: t, 0, 4))) := by
  have hx := u8_lt x
  exact rr_outer' (F + 3) (x :: y :: z :: t) 3 x 224 (run3 x y z) (by omega) (by omega) (by simp) (by simp; omega) rfl rfl (rr_inner3 F x y z t (by omega) (by omega))
theorem pS_RuneRead_eq (F : Nat) (l : List UInt8) (h1 : 1 ≤ l.length) (h3 : l.length ≤ 100) : pS_RuneRead (F + 5) l 0 = some (runeRead l) := by
  unfold pS_RuneRead
  simp only [decide_eq_false (show ¬ (0 : Int) < 0 by omega), br_f, bd_s, decide_eq_false (show ¬ (l.length : Int) ≤ 0 by omega)]
  match l, h1 with
  | x :: t, _ =>
    have ht : t.length ≤ 100 := by simp at h3; omega
    rw [loopF]
    by_cases c1 : runeBytes (run1 x) = [x]
    · rw [(rr_one (F + 2) x t ht).1 c1, show runeRead (x :: t) = (run1 x, 1) by simp only [runeRead]; exact if_pos c1]; rfl
    rw [(rr_one (F + 2) x t ht).2 c1]
    simp only
    match t, ht with
    | [], _ =>
      rw [loopF, show (2 : Int) = ((2 : Nat) : Int) from rfl, rr_stop _ _ 2 (by simp) (by omega), show runeRead [x] = (0, 0) by simp only [runeRead]; exact if_neg c1]
      rfl
    | y :: t, ht =>
      have ht' : t.length ≤ 100 := by simp at ht; omega
      rw [loopF]
      by_cases c2 : runeBytes (run2 x y) = [x, y]
      · rw [(rr_two (F + 2) x y t ht').1 c2, show runeRead (x :: y :: t) = (run2 x y, 2) by simp only [runeRead]; rw [if_neg c1]; exact if_pos c2]; rfl
      rw [(rr_two (F + 2) x y t ht').2 c2]
      simp only
      match t, ht' with
      | [], _ =>
        rw [loopF, show (3 : Int) = ((3 : Nat) : Int) from rfl, rr_stop _ _ 3 (by simp) (by omega), show runeRead [x, y] = (0, 0) by simp only [runeRead]; rw [if_neg c1]; exact if_neg c2]
        rfl
      | z :: t, ht' =>
        have ht'' : t.length ≤ 100 := by simp at ht'; omega
        rw [loopF]
        by_cases c3 : runeBytes (run3 x y z) = [x, y, z]
        · rw [(rr_three (F + 2) x y z t ht'').1 c3, show runeRead (x :: y :: z :: t) = (run3 x y z, 3) by simp only [runeRead]; rw [if_neg c1, if_neg c2]; exact if_pos c3]; rfl
        rw [(rr_three (F + 2) x y z t ht'').2 c3, show runeRead (x :: y :: z :: t) = (0, 0) by simp only [runeRead]; rw [if_neg c1, if_neg c2]; exact if_neg c3]
        simp only
        have : pS_RuneRead_b1 (F + 5) (x :: y :: z :: t, 0, 4) = some (.inr (.inl ())) := by
          unfold pS_RuneRead_b1
          simp only [decide_eq_false (show ¬ (4 : Int) ≤ 3 by omega), br_f, bd_s]
        rw [loopF, this]
        rfl
end Go.Px
namespace Go.Px
theorem read2_iff (x b : UInt8) : (runeRead [x, b]).2 = 2 ↔ 194 ≤ x.toNat ∧ x.toNat ≤ 223 ∧ 128 ≤ b.toNat ∧ b.toNat ≤ 191 ∧ (x.toNat = 194 → 160 ≤ b.toNat) := by
  simp only [runeRead]
  by_cases c1 : runeBytes (run1 x) = [x]
  · rw [if_pos c1]
    have := (run1_iff x).1 c1
    constructor
    · intro h; simp at h
    · omega
  rw [if_neg c1]
  by_cases c2 : runeBytes (run2 x b) = [x, b]
  · rw [if_pos c2]
    have := (run2_iff x b).1 c2
    exact ⟨fun _ => this, fun _ => rfl⟩
  · rw [if_neg c2]
    have := (not_congr (run2_iff x b)).1 c2
    constructor
    · intro h; simp at h
    · intro h; exact absurd h this
theorem read3_iff (x y z : UInt8) : (runeRead [x, y, z]).2 = 3 ↔ 224 ≤ x.toNat ∧ x.toNat ≤ 239 ∧ 128 ≤ y.toNat ∧ y.toNat ≤ 191 ∧ 128 ≤ z.toNat ∧ z.toNat ≤ 191 ∧ (x.toNat = 224 → 160 ≤ y.toNat) ∧ (x.toNat = 237 → y.toNat < 160) := by
  simp only [runeRead]
  by_cases c1 : runeBytes (run1 x) = [x]
  · rw [if_pos c1]
    have := (run1_iff x).1 c1
    constructor
    · intro h; simp at h
    · omega
  rw [if_neg c1]
  by_cases c2 : runeBytes (run2 x y) = [x, y]
  · rw [if_pos c2]
    have := (run2_iff x y).1 c2
    constructor
    · intro h; simp at h
    · omega
  rw [if_neg c2]
  by_cases c3 : runeBytes (run3 x y z) = [x, y, z]
  · rw [if_pos c3]
    have := (run3_iff x y z).1 c3
    exact ⟨fun _ => this, fun _ => rfl⟩
  · rw [if_neg c3]
    have := (not_congr (run3_iff x y z)).1 c3
    constructor
    · intro h; simp at h
    · intro h; exact absurd h this
def runeBeginB : List UInt8 → Bool
  | [x] => decide (194 ≤ x.toNat ∧ x.toNat ≤ 239)
  | [x, y] => decide (224 ≤ x.toNat ∧ x.toNat ≤ 239 ∧ 128 ≤ y.toNat ∧ y.toNat ≤ 191 ∧ (x.toNat = 224 → 160 ≤ y.toNat) ∧ (x.toNat = 237 → y.toNat < 160))
  | _ => false
def byteN (i : Nat) : UInt8 := UInt8.ofNat (IntKind.u8.wrap ((128 + i : Nat) : Int)).toNat
theorem byteN_nat {i : Nat} (h : i < 64) : (byteN i).toNat = 128 + i := by
  unfold byteN
  rw [u8wrap (by omega) (by omega), Int.toNat_natCast]
  exact UInt8.toNat_ofNat_of_lt' (show 128 + i < 256 by omega)
theorem room_small {n : Nat} (h : n ≤ 1000) : roomB K.u8 n := by
  refine ⟨by omega, ?_⟩
  show n * byt K.u8 ≤ _
  have : byt K.u8 = 1 := rfl
  rw [this]; omega
end Go.Px
namespace Go.Px
def hitB (l : List UInt8) (b : UInt8) : Bool := decide ((runeRead (l ++ [b])).2 = ((l ++ [b]).length : Int)) || (decide (l.length = 1) && decide ((runeRead (l ++ [b] ++ [UInt8.ofNat (Int.toNat 129)])).2 = 3))
theorem rb_step (F : Nat) (l : List UInt8) (i : Nat) (hl : l.length = 1 ∨ l.length = 2) (hi : i < 64) : pS_RuneBegin_b1 (F + 5) (l, ((128 + i : Nat) : Int)) = if hitB l (byteN i) then some (.inr (.inr true)) else some (.inl (l, ((128 + (i + 1) : Nat) : Int))) := by
  have hl3 : l.length ≤ 2 := by omega
  unfold pS_RuneBegin_b1
  simp only [decide_eq_true (show ((128 + i : Nat) : Int) < 192 by omega), br_t, List.nil_append]
  rw [gd_t (room_small (by omega)), gd_t (room_small (by rw [List.length_append]; simp; omega))]
  rw [show UInt8.ofNat (IntKind.u8.wrap ((128 + i : Nat) : Int)).toNat = byteN i from rfl]
  rw [pS_RuneRead_eq F (l ++ [byteN i]) (by simp) (by simp; omega)]
  simp only [bd_s]
  unfold hitB
  by_cases c1 : (runeRead (l ++ [byteN i])).2 = ((l ++ [byteN i]).length : Int)
  · simp only [show ((runeRead (l ++ [byteN i])).2 == ((l ++ [byteN i]).length : Int)) = true by simpa using c1, br_t, jn_r, decide_eq_true c1, Bool.true_or, if_true]
  simp only [show ((runeRead (l ++ [byteN i])).2 == ((l ++ [byteN i]).length : Int)) = false by simpa using c1, br_f, decide_eq_false c1, Bool.false_or]
  by_cases c2 : l.length = 1
  · simp only [show ((l.length : Int) == 1) = true by simp [c2], br_t, decide_eq_true c2, Bool.true_and]
    rw [gd_t (room_small (by simp; omega)), gd_t (room_small (by simp; omega)), pS_RuneRead_eq F _ (by simp) (by simp; omega)]
    simp only [bd_s]
    by_cases c3 : (runeRead (l ++ [byteN i] ++ [UInt8.ofNat (Int.toNat 129)])).2 = 3
    · simp only [show ((runeRead (l ++ [byteN i] ++ [UInt8.ofNat (Int.toNat 129)])).2 == 3) = true by simpa using c3, br_t, jn_r, decide_eq_true c3, if_true]
    · simp only [show ((runeRead (l ++ [byteN i] ++ [UInt8.ofNat (Int.toNat 129)])).2 == 3) = false by simpa using c3, br_f, jn_l, decide_eq_false c3, Bool.false_eq_true, if_false]
      rw [gd_i64 (by omega) (by omega)]
      rfl
  · simp only [show ((l.length : Int) == 1) = false by simp; omega, br_f, jn_l, decide_eq_false c2, Bool.false_and, Bool.false_eq_true, if_false]
    rw [gd_i64 (by omega) (by omega)]
    rfl
theorem pS_RuneBegin_len (F : Nat) (l : List UInt8) (hl : l.length = 1 ∨ l.length = 2) : pS_RuneBegin (F + 70) l = some ((List.range 64).any fun i => hitB l (byteN i)) := by
  unfold pS_RuneBegin
  simp only [decide_eq_false (show ¬ (l.length : Int) < 1 by omega), br_f, bd_s, decide_eq_false (show ¬ (2 : Int) < (l.length : Int) by omega)]
  have := loopF_any (B := pS_RuneBegin_b1 (F + 70)) (fun i => (l, ((128 + i : Nat) : Int))) (List.range 64) (fun i => hitB l (byteN i)) (.inr true) (.inl ()) (fuel := F + 70) (v := (l, 128)) rfl (fun i x hx => by
    have hi := (List.getElem?_eq_some_iff.1 hx).1
    have hxi : x = i := by
      rw [List.getElem?_range (by simpa using hi)] at hx; cases hx; rfl
    subst hxi
    exact rb_step (F + 65) l x hl (by simpa using hi)) (by
      rw [List.length_range]
      unfold pS_RuneBegin_b1
      simp only [decide_eq_false (show ¬ ((128 + 64 : Nat) : Int) < 192 by omega), br_f]) (by rw [List.length_range]; omega)
  rw [this]
  cases (List.range 64).any fun i => hitB l (byteN i) <;> rfl
theorem pS_RuneBegin_eq (F : Nat) (l : List UInt8) : pS_RuneBegin (F + 70) l = some (runeBeginB l) := by
  match l with
  | [] => rfl
  | [x] =>
    rw [pS_RuneBegin_len F [x] (.inl rfl)]
    congr 1
    rw [Bool.eq_iff_iff, List.any_eq_true]
    have h129 : (UInt8.ofNat (Int.toNat 129)).toNat = 129 := rfl
    simp only [hitB, runeBeginB, Bool.or_eq_true, Bool.and_eq_true, decide_eq_true_eq, List.mem_range]
    constructor
    · rintro ⟨i, hi, h | ⟨_, h⟩⟩
      · have := (read2_iff x (byteN i)).1 h
        omega
      · have := (read3_iff x (byteN i) _).1 h
        omega
    · intro h
      by_cases h1 : x.toNat ≤ 223
      · refine ⟨32, by omega, .inl ?_⟩
        have hb := byteN_nat (i := 32) (by omega)
        exact (read2_iff x (byteN 32)).2 ⟨by omega, by omega, by omega, by omega, by omega⟩
      · by_cases h2 : x.toNat = 237
        · refine ⟨0, by omega, .inr ⟨rfl, ?_⟩⟩
          have hb := byteN_nat (i := 0) (by omega)
          exact (read3_iff x (byteN 0) _).2 ⟨by omega, by omega, by omega, by omega, by omega, by omega, by omega, by omega⟩
        · refine ⟨32, by omega, .inr ⟨rfl, ?_⟩⟩
          have hb := byteN_nat (i := 32) (by omega)
          exact (read3_iff x (byteN 32) _).2 ⟨by omega, by omega, by omega, by omega, by omega, by omega, by omega, by omega⟩
  | [x, y] =>
    rw [pS_RuneBegin_len F [x, y] (.inr rfl)]
    congr 1
    rw [Bool.eq_iff_iff, List.any_eq_true]
    simp only [hitB, runeBeginB, Bool.or_eq_true, Bool.and_eq_true, decide_eq_true_eq, List.mem_range]
    constructor
    · rintro ⟨i, hi, h | ⟨h, _⟩⟩
      · have := (read3_iff x y (byteN i)).1 h
        omega
      · simp at h
    · intro h
      refine ⟨0, by omega, .inl ?_⟩
      have hb := byteN_nat (i := 0) (by omega)
      exact (read3_iff x y (byteN 0)).2 ⟨by omega, by omega, by omega, by omega, by omega, by omega, by omega, by omega⟩
  | x :: y :: z :: t =>
    unfold pS_RuneBegin
    simp only [decide_eq_false (show ¬ ((x :: y :: z :: t).length : Int) < 1 by simp; omega), br_f, bd_s, decide_eq_true (show (2 : Int) < ((x :: y :: z :: t).length : Int) by simp; omega), br_t]
    rfl
end Go.Px
namespace Go.Px
theorem pI_tails_one (F : Nat) (y : UInt8) : pI_tails (F + 2) [y] = some (if 128 ≤ y.toNat ∧ y.toNat ≤ 191 then ((y.toNat : Int) - 128, true) else (0, false)) := by
  have hy := u8_lt y
  unfold pI_tails
  rw [loopF]
  have e0 : pI_tails_b1 (F + 2) (0, [y], (([y] : List UInt8).length : Int), 0) = if 128 ≤ y.toNat ∧ y.toNat ≤ 191 then some (.inl ((y.toNat : Int) - 128, [y], 1, 1)) else some (.inr (.inr (0, false))) := by
    unfold pI_tails_b1
    simp only [decide_eq_true (show (0 : Int) < (([y] : List UInt8).length : Int) by simp), br_t]
    rw [gd_ix (by omega) (by simp)]
    simp only [show ((0 : Int).toNat) = 0 from rfl, List.getElem?_cons_zero, bd_s]
    rw [gd_t (by omega)]
    have hd : (y.toNat : Int).tdiv 64 = (y.toNat : Int) / 64 := Int.tdiv_eq_ediv_of_nonneg (by omega)
    have hm : (y.toNat : Int).tmod 64 = (y.toNat : Int) % 64 := Int.tmod_eq_emod_of_nonneg (by omega)
    rw [hd, hm, u8wrap (by omega) (by omega)]
    by_cases h : 128 ≤ y.toNat ∧ y.toNat ≤ 191
    · rw [if_pos h]
      have h2 : ((y.toNat : Int) / 64 != 2) = false := by
        have : (y.toNat : Int) / 64 = 2 := by omega
        rw [this]; rfl
      simp only [h2, br_f]
      rw [gd_i64 (by omega) (by omega), gd_t (by omega), gd_i64 (by omega) (by omega), gd_i64 (by omega) (by omega)]
      have : 64 * 0 + (y.toNat : Int) % 64 = (y.toNat : Int) - 128 := by omega
      rw [this]
      rfl
    · rw [if_neg h]
      have h2 : ((y.toNat : Int) / 64 != 2) = true := by
        have : (y.toNat : Int) / 64 ≠ 2 := by omega
        simpa using this
      simp only [h2, br_t]
  rw [e0]
  by_cases h : 128 ≤ y.toNat ∧ y.toNat ≤ 191
  · simp only [if_pos h]
    rw [loopF]
    unfold pI_tails_b1
    simp only [decide_eq_false (show ¬ (1 : Int) < 1 by omega), br_f, jn_l]
  · simp only [if_neg h, jn_r]
theorem pI_RuneBegin_eq (F : Nat) (l : List UInt8) : pI_RuneBegin (F + 2) l = some (runeBeginB l) := by
  match l with
  | [] => rfl
  | [x] =>
    unfold pI_RuneBegin
    simp only [show (((([x] : List UInt8).length : Nat) : Int) == 1) = true from rfl, br_t]
    rw [gd_ix (by omega) (by simp)]
    simp only [show ((0 : Int).toNat) = 0 from rfl, List.getElem?_cons_zero, bd_s, pI_within_eq, runeBeginB]
    congr 1
    rw [Bool.eq_iff_iff]
    simp only [Bool.and_eq_true, decide_eq_true_eq]
    omega
  | [x, y] =>
    have hx := u8_lt x
    have hy := u8_lt y
    unfold pI_RuneBegin
    simp only [show (((([x, y] : List UInt8).length : Nat) : Int) == 1) = false from rfl, show (((([x, y] : List UInt8).length : Nat) : Int) == 2) = true from rfl, br_t, br_f]
    rw [gd_ixe (by omega) (by simp)]
    simp only [show List.drop (Int.toNat 1) [x, y] = [y] from rfl, pI_tails_one, bd_s]
    rw [gd_ix (by omega) (by simp)]
    simp only [show ((0 : Int).toNat) = 0 from rfl, List.getElem?_cons_zero, bd_s, runeBeginB]
    by_cases h : 128 ≤ y.toNat ∧ y.toNat ≤ 191
    · simp only [if_pos h]
      rw [gd_i64 (by omega) (by omega), gd_i64 (by omega) (by omega), gd_i64 (by omega) (by omega), gd_i64 (by omega) (by omega)]
      simp only [br_t]
      rw [gd_ix (by omega) (by simp)]
      simp only [bd_s, pI_Shows_eq, bd_br, br_ss]
      by_cases h1 : 224 ≤ (x.toNat : Int)
      · by_cases h2 : 2048 ≤ ((x.toNat : Int) - 224) * 4096 + ((y.toNat : Int) - 128) * 64
        · simp only [decide_eq_true h1, decide_eq_true h2, br_t]
          congr 1
          rw [Bool.eq_iff_iff, showsB_iff]
          simp only [decide_eq_true_eq]
          omega
        · simp only [decide_eq_true h1, decide_eq_false h2, br_t, br_f]
          congr 1
          rw [Bool.eq_iff_iff]
          simp only [decide_eq_true_eq, Bool.false_eq_true, false_iff]
          omega
      · simp only [decide_eq_false h1, br_f]
        congr 1
        rw [Bool.eq_iff_iff]
        simp only [decide_eq_true_eq, Bool.false_eq_true, false_iff]
        omega
    · simp only [if_neg h]
      rw [gd_i64 (by omega) (by omega), gd_i64 (by omega) (by omega), gd_i64 (by omega) (by omega), gd_i64 (by omega) (by omega)]
      simp only [br_f, bd_s]
      congr 1
      rw [Bool.eq_iff_iff]
      simp only [decide_eq_true_eq, Bool.false_eq_true, false_iff]
      omega
  | x :: y :: z :: t =>
    unfold pI_RuneBegin
    have e1 : (((x :: y :: z :: t).length : Int) == 1) = false := by simp; omega
    have e2 : (((x :: y :: z :: t).length : Int) == 2) = false := by simp; omega
    simp only [e1, e2, br_f]
    rfl
end Go.Px
namespace Go.Px
theorem gd_p {β : Type} {p : Prop} {d : Decidable p} (h : p) (x : Option β) : @gd β p d x = x := if_pos h
theorem loopF_inv {V O : Type} {B : V → Option (V ⊕ O)} (I : V → Prop) (m : V → Nat) (Q : O → Prop) (h : ∀ v, I v → (∃ v', B v = some (.inl v') ∧ I v' ∧ m v' < m v) ∨ ∃ o, B v = some (.inr o) ∧ Q o) : ∀ (fuel : Nat) (v : V), I v → m v < fuel → ∃ o, loopF B fuel v = some o ∧ Q o
  | 0, v, _, hf => by omega
  | fuel + 1, v, hi, hf => by
    unfold loopF
    rcases h v hi with ⟨v', e, h1, h2⟩ | ⟨o, e, h1⟩
    · rw [e]; exact loopF_inv I m Q h fuel v' h1 (by omega)
    · rw [e]; exact ⟨o, rfl, h1⟩
theorem loopF_run {V O : Type} {B : V → Option (V ⊕ O)} (f : Nat → V) (n : Nat) (R : O) {fuel : Nat} {v : V} (hv : v = f 0) (h : ∀ i, i < n → B (f i) = some (.inl (f (i + 1)))) (he : B (f n) = some (.inr R)) (hf : n < fuel) : loopF B fuel v = some R := by
  subst hv
  have key : ∀ (m fuel i : Nat), n - i = m → i ≤ n → m < fuel → loopF B fuel (f i) = some R := by
    intro m
    induction m with
    | zero =>
      intro fuel i hm hi hf
      obtain rfl : i = n := by omega
      cases fuel with
      | zero => omega
      | succ fuel => unfold loopF; rw [he]
    | succ m ih =>
      intro fuel i hm hi hf
      cases fuel with
      | zero => omega
      | succ fuel => unfold loopF; rw [h i (by omega)]; exact ih fuel (i + 1) (by omega) (by omega) (by omega)
  exact key n fuel 0 rfl (Nat.zero_le _) hf
theorem loopF_scan {V O : Type} {B : V → Option (V ⊕ O)} (f : Nat → V) (n : Nat) (bad : Nat → Bool) (R E : O) {fuel : Nat} {v : V} (hv : v = f 0) (h : ∀ i, i < n → B (f i) = if bad i then some (.inr R) else some (.inl (f (i + 1)))) (he : B (f n) = some (.inr E)) (hf : n < fuel) :
    loopF B fuel v = some (if (List.range n).any bad then R else E) := by
  refine loopF_any f (List.range n) bad R E hv (fun i x hx => ?_) (by rw [List.length_range]; exact he) (by rw [List.length_range]; exact hf)
  have hi : i < n := by have := (List.getElem?_eq_some_iff.1 hx).1; simpa using this
  rw [List.getElem?_range hi] at hx
  cases hx
  exact h i hi
theorem roomB_of {k : K} {n : Nat} (h1 : n ≤ 2097152) (h2 : byt k ≤ 1000) : roomB k n := by
  refine ⟨by omega, ?_⟩
  have : n * byt k ≤ 2097152 * 1000 := Nat.mul_le_mul h1 h2
  omega
theorem take_succ_get {α : Type} {l : List α} {i : Nat} {x : α} (h : l[i]? = some x) : l.take (i + 1) = l.take i ++ [x] := by
  rw [List.take_add_one, h]; rfl
theorem drop_get {α : Type} {l : List α} {i : Nat} {x : α} (h : l[i]? = some x) : l.drop i = x :: l.drop (i + 1) := by
  obtain ⟨hi, e⟩ := List.getElem?_eq_some_iff.1 h
  rw [List.drop_eq_getElem_cons hi, e]
end Go.Px
namespace Go.Px
inductive Tre where
  | leaf (x : INode)
  | node (x : INode) (a b : Tre)
def Tre.flat : Tre → List INode
  | .leaf x => [x]
  | .node x a b => x :: (a.flat ++ b.flat)
def leafOk (x : INode) : Bool := (decide (1 ≤ x.Pane) && decide (x.Pane ≤ 1000000)) && (!x.Down && x.First == 0)
def splitOk (x : INode) : Bool := x.Pane == 0 && (decide (1 ≤ x.First) && decide (x.First ≤ 120))
def Tre.ok : Tre → Prop
  | .leaf x => x.Pane ≠ 0 ∧ leafOk x = true
  | .node x a b => splitOk x = true ∧ a.ok ∧ b.ok
def prs : Nat → List INode → Option (Tre × List INode)
  | 0, _ => none
  | _ + 1, [] => none
  | n + 1, x :: l => if x.Pane = 0 then (if splitOk x = true then (match prs n l with
      | some (a, l1) => (match prs n l1 with
        | some (b, l2) => some (.node x a b, l2)
        | none => none)
      | none => none) else none) else (if leafOk x = true then some (.leaf x, l) else none)
theorem Tre.flat_pos (T : Tre) : 0 < T.flat.length := by cases T <;> simp [Tre.flat]
theorem prs_sound : ∀ {n : Nat} {l : List INode} {T : Tre} {r : List INode}, prs n l = some (T, r) → l = T.flat ++ r ∧ T.ok
  | 0, _, _, _, h => by cases h
  | n + 1, [], _, _, h => by cases h
  | n + 1, x :: l, T, r, h => by
    unfold prs at h
    split at h
    · rename_i h0
      split at h
      · rename_i hs
        split at h
        · rename_i a l1 h1
          split at h
          · rename_i b l2 h2
            cases h
            obtain ⟨e1, o1⟩ := prs_sound h1
            obtain ⟨e2, o2⟩ := prs_sound h2
            exact ⟨by simp [Tre.flat, e1, e2], hs, o1, o2⟩
          · cases h
        · cases h
      · cases h
    · rename_i h0
      split at h
      · rename_i hl
        cases h
        exact ⟨rfl, h0, hl⟩
      · cases h
theorem prs_complete : ∀ {T : Tre} {r : List INode} {n : Nat}, T.ok → T.flat.length ≤ n → prs n (T.flat ++ r) = some (T, r)
  | .leaf x, r, 0, _, hn => by simp [Tre.flat] at hn
  | .leaf x, r, n + 1, h, hn => by
    show prs (n + 1) (x :: r) = _
    unfold prs
    rw [if_neg h.1, if_pos h.2]
  | .node x a b, r, 0, _, hn => by simp [Tre.flat] at hn
  | .node x a b, r, n + 1, h, hn => by
    have hl : (Tre.node x a b).flat.length = a.flat.length + b.flat.length + 1 := by simp [Tre.flat]
    have h0 : x.Pane = 0 := by have := h.1; unfold splitOk at this; simp at this; exact this.1
    show prs (n + 1) (x :: (a.flat ++ b.flat) ++ r) = _
    rw [List.cons_append, List.append_assoc]
    unfold prs
    rw [if_pos h0, if_pos h.1, prs_complete h.2.1 (by omega)]
    simp only
    rw [prs_complete h.2.2 (by omega)]
theorem drop_suf {α : Type} {p r t : List α} (h : t = p ++ r) : t.drop (t.length - r.length) = r := by
  subst h
  simp
def endV (n : Nat) (t l : List INode) : Int := match prs n l with
  | some (_, r) => (t.length : Int) - (r.length : Int)
  | none => -1
theorem endOf_neg (fuel n : Nat) (t : List INode) : recF (pI_endOf fuel) (n + 1) (t, -1) = some (-1) := by
  show pI_endOf fuel _ (t, -1) = _
  unfold pI_endOf
  simp
theorem endOf_at (fuel : Nat) (t : List INode) (ht : t.length ≤ 1048576) : ∀ (n at_ : Nat), at_ ≤ t.length → t.length - at_ < n → recF (pI_endOf fuel) n (t, (at_ : Int)) = some (endV n t (t.drop at_))
  | 0, at_, _, h => by omega
  | n + 1, at_, ha, hn => by
    show pI_endOf fuel (recF (pI_endOf fuel) n) (t, (at_ : Int)) = _
    have ih : ∀ a : Nat, a ≤ t.length → t.length - a < n → recF (pI_endOf fuel) n (t, (a : Int)) = some (endV n t (t.drop a)) := endOf_at fuel t ht n
    have ng : 0 < n → recF (pI_endOf fuel) n (t, -1) = some (-1) := fun h => by
      obtain ⟨m, rfl⟩ : ∃ m, n = m + 1 := ⟨n - 1, by omega⟩
      exact endOf_neg fuel m t
    generalize recF (pI_endOf fuel) n = slf at ih ng ⊢
    unfold pI_endOf endV
    have e1 : decide ((at_ : Int) < 0) = false := by simp
    simp only [e1, br_f, bd_s]
    by_cases hlt : at_ < t.length
    · have hx : t[at_]? = some t[at_] := List.getElem?_eq_getElem hlt
      obtain ⟨h1, h2, h3, h4, h5⟩ := idx_facts hx (by omega)
      have e2 : decide ((t.length : Int) ≤ (at_ : Int)) = false := by simp; omega
      rw [drop_get hx]
      simp only [e2, br_f, gd_t h2, h3, bd_s]
      generalize t[at_] = x at hx
      unfold pI_Node_isLeaf
      simp only [bd_s, pI_isId_eq, pI_within_eq]
      unfold prs
      by_cases h0 : x.Pane = 0
      · have e3 : (x.Pane != 0) = false := by simp [h0]
        rw [e3, if_pos h0]
        simp only [br_f]
        by_cases hs : splitOk x = true
        · have e4 : (decide (1 ≤ x.First) && decide (x.First ≤ 120)) = true := by unfold splitOk at hs; simp at hs; simp [hs.2]
          rw [e4, if_pos hs]
          simp only [Bool.not_true, br_f]
          rw [h5, gd_t h4, ih (at_ + 1) (by omega) (by omega), bd_s]
          unfold endV
          cases hp : prs n (t.drop (at_ + 1)) with
          | none =>
            simp only
            rw [ng (by omega), bd_s]
          | some p =>
            obtain ⟨a, r1⟩ := p
            obtain ⟨e5, _⟩ := prs_sound hp
            have hrl : r1.length + a.flat.length = t.length - (at_ + 1) := by
              have := congrArg List.length e5; rw [List.length_drop, List.length_append] at this; omega
            have hap := a.flat_pos
            have hdr : t.drop (t.length - r1.length) = r1 := drop_suf (p := t.take (at_ + 1) ++ a.flat) (by rw [List.append_assoc, ← e5, List.take_append_drop])
            have hcast : (t.length : Int) - (r1.length : Int) = ((t.length - r1.length : Nat) : Int) := by omega
            simp only
            rw [hcast, ih (t.length - r1.length) (by omega) (by omega), hdr, bd_s]
            unfold endV
            cases hq : prs n r1 with
            | none => rfl
            | some q => rfl
        · have e4 : (decide (1 ≤ x.First) && decide (x.First ≤ 120)) = false := by
            unfold splitOk at hs
            simp only [h0, beq_self_eq_true, Bool.true_and] at hs
            simpa using hs
          rw [e4, if_neg hs]
          simp
      · have e3 : (x.Pane != 0) = true := by simp [h0]
        rw [e3, if_neg h0]
        simp only [br_t]
        by_cases hl : leafOk x = true
        · rw [if_pos hl]
          unfold leafOk at hl
          simp only [Bool.and_eq_true] at hl
          obtain ⟨⟨p1, p2⟩, p3, p4⟩ := hl
          have p3 : x.Down = false := by simpa using p3
          have p5 : (x.First != 0) = false := by simp at p4; simp [p4]
          simp only [p1, p2, p3, p5, Bool.and_self, Bool.not_true, br_f, bd_s]
          rw [h5, gd_t h4]
          simp only [List.length_drop]
          congr 1
          omega
        · rw [if_neg hl]
          unfold leafOk at hl
          by_cases p1 : (decide (1 ≤ x.Pane) && decide (x.Pane ≤ 1000000)) = true
          · rw [p1] at hl ⊢
            cases hd : x.Down with
            | true => simp
            | false =>
              rw [hd] at hl
              have p4 : (x.First == 0) = false := by simpa using hl
              have p5 : (x.First != 0) = true := by simp at p4; simp [p4]
              simp [p5]
          · have p1 : (decide (1 ≤ x.Pane) && decide (x.Pane ≤ 1000000)) = false := by simpa using p1
            rw [p1]
            simp
    · obtain rfl : at_ = t.length := by omega
      have e2 : decide ((t.length : Int) ≤ (t.length : Int)) = true := by simp
      rw [e2, List.drop_length]
      simp [prs]
end Go.Px
