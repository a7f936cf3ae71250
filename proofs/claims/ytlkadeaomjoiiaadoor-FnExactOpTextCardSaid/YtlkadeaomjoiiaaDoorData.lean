/- The struct types of the program as Lean structures, and how each lies in memory. -/
import Derived.Test.YtlkadeaomjoiiaaDoorBase
set_option linter.unusedSimpArgs false
set_option linter.unusedVariables false
namespace Go.Mux
open Go.RowKit
structure DAttr where
  Fg : Int
  Bg : Int
  Bold : Bool
  Under : Bool
  Turn : Bool
@[reducible] def DAttr.prod (x : DAttr) : Int × Int × Bool × Bool × Bool := (x.Fg, x.Bg, x.Bold, x.Under, x.Turn)
instance : Rep DAttr := Rep.via 64 DAttr.prod
theorem DAttr.rep_iff {w : World} {cs : List Value} {x : DAttr} : Rep.rep w cs x ↔ cs = [.int .i64 x.Fg, .int .i64 x.Bg, .bool x.Bold, .bool x.Under, .bool x.Turn] ∧ I64 x.Fg ∧ I64 x.Bg := by
  constructor
  · rintro ⟨_, _, rfl, ⟨rfl, h0⟩, ⟨_, _, rfl, ⟨rfl, h1⟩, ⟨_, _, rfl, rfl, ⟨_, _, rfl, rfl, rfl⟩⟩⟩⟩
    exact ⟨rfl, h0, h1⟩
  · rintro ⟨rfl, h0, h1⟩
    exact ⟨[_], _, rfl, ⟨rfl, h0⟩, ⟨[_], _, rfl, ⟨rfl, h1⟩, ⟨[_], _, rfl, rfl, ⟨[_], _, rfl, rfl, rfl⟩⟩⟩⟩
theorem DAttr.own_iff {w : World} {cs : List Value} {x : DAttr} {fp : List Nat} : Rep.own w cs x fp ↔ cs = [.int .i64 x.Fg, .int .i64 x.Bg, .bool x.Bold, .bool x.Under, .bool x.Turn] ∧ I64 x.Fg ∧ I64 x.Bg ∧ fp = [] := by
  constructor
  · rintro ⟨_, _, _, _, rfl, ⟨⟨rfl, h0⟩, rfl⟩, ⟨_, _, _, _, rfl, ⟨⟨rfl, h1⟩, rfl⟩, ⟨_, _, _, _, rfl, ⟨rfl, rfl⟩, ⟨_, _, _, _, rfl, ⟨rfl, rfl⟩, ⟨rfl, rfl⟩, rfl⟩, rfl⟩, rfl⟩, rfl⟩
    exact ⟨rfl, h0, h1, by simp⟩
  · rintro ⟨rfl, h0, h1, rfl⟩
    exact ⟨[_], _, [], [], rfl, ⟨⟨rfl, h0⟩, rfl⟩, ⟨[_], _, [], [], rfl, ⟨⟨rfl, h1⟩, rfl⟩, ⟨[_], _, [], [], rfl, ⟨rfl, rfl⟩, ⟨[_], _, [], [], rfl, ⟨rfl, rfl⟩, ⟨rfl, rfl⟩, by simp⟩, by simp⟩, by simp⟩, by simp⟩
theorem DAttr.shape {w : World} {cs : List Value} {x : DAttr} (h : Rep.rep w cs x) : cs = [.int .i64 x.Fg, .int .i64 x.Bg, .bool x.Bold, .bool x.Under, .bool x.Turn] := by
  obtain ⟨rfl, h0, h1⟩ := DAttr.rep_iff.1 h
  exact rfl
structure DCell where
  R : Int
  A : DAttr
@[reducible] def DCell.prod (x : DCell) : Int × DAttr := (x.R, x.A)
instance : Rep DCell := Rep.via 66 DCell.prod
theorem DCell.rep_iff {w : World} {cs : List Value} {x : DCell} : Rep.rep w cs x ↔ cs = [.int .i64 x.R, .int .i64 x.A.Fg, .int .i64 x.A.Bg, .bool x.A.Bold, .bool x.A.Under, .bool x.A.Turn] ∧ I64 x.R ∧ I64 x.A.Fg ∧ I64 x.A.Bg := by
  constructor
  · rintro ⟨_, _, rfl, ⟨rfl, h0⟩, ⟨_, _, rfl, ⟨rfl, h1⟩, ⟨_, _, rfl, ⟨rfl, h2⟩, ⟨_, _, rfl, rfl, ⟨_, _, rfl, rfl, rfl⟩⟩⟩⟩⟩
    exact ⟨rfl, h0, h1, h2⟩
  · rintro ⟨rfl, h0, h1, h2⟩
    exact ⟨[_], _, rfl, ⟨rfl, h0⟩, ⟨[_], _, rfl, ⟨rfl, h1⟩, ⟨[_], _, rfl, ⟨rfl, h2⟩, ⟨[_], _, rfl, rfl, ⟨[_], _, rfl, rfl, rfl⟩⟩⟩⟩⟩
theorem DCell.own_iff {w : World} {cs : List Value} {x : DCell} {fp : List Nat} : Rep.own w cs x fp ↔ cs = [.int .i64 x.R, .int .i64 x.A.Fg, .int .i64 x.A.Bg, .bool x.A.Bold, .bool x.A.Under, .bool x.A.Turn] ∧ I64 x.R ∧ I64 x.A.Fg ∧ I64 x.A.Bg ∧ fp = [] := by
  constructor
  · rintro ⟨_, _, _, _, rfl, ⟨⟨rfl, h0⟩, rfl⟩, ⟨_, _, _, _, rfl, ⟨⟨rfl, h1⟩, rfl⟩, ⟨_, _, _, _, rfl, ⟨⟨rfl, h2⟩, rfl⟩, ⟨_, _, _, _, rfl, ⟨rfl, rfl⟩, ⟨_, _, _, _, rfl, ⟨rfl, rfl⟩, ⟨rfl, rfl⟩, rfl⟩, rfl⟩, rfl⟩, rfl⟩, rfl⟩
    exact ⟨rfl, h0, h1, h2, by simp⟩
  · rintro ⟨rfl, h0, h1, h2, rfl⟩
    exact ⟨[_], _, [], [], rfl, ⟨⟨rfl, h0⟩, rfl⟩, ⟨[_], _, [], [], rfl, ⟨⟨rfl, h1⟩, rfl⟩, ⟨[_], _, [], [], rfl, ⟨⟨rfl, h2⟩, rfl⟩, ⟨[_], _, [], [], rfl, ⟨rfl, rfl⟩, ⟨[_], _, [], [], rfl, ⟨rfl, rfl⟩, ⟨rfl, rfl⟩, by simp⟩, by simp⟩, by simp⟩, by simp⟩, by simp⟩
theorem DCell.shape {w : World} {cs : List Value} {x : DCell} (h : Rep.rep w cs x) : cs = [.int .i64 x.R, .int .i64 x.A.Fg, .int .i64 x.A.Bg, .bool x.A.Bold, .bool x.A.Under, .bool x.A.Turn] := by
  obtain ⟨rfl, h0, h1, h2⟩ := DCell.rep_iff.1 h
  exact rfl
structure DGrid where
  W : Int
  H : Int
  Cells : List DCell
@[reducible] def DGrid.prod (x : DGrid) : Int × Int × (List DCell) := (x.W, x.H, x.Cells)
instance : Rep DGrid := Rep.via 32 DGrid.prod
theorem DGrid.rep_iff {w : World} {cs : List Value} {x : DGrid} : Rep.rep w cs x ↔ ∃ v0 : Value, cs = [.int .i64 x.W, .int .i64 x.H, v0] ∧ I64 x.W ∧ I64 x.H ∧ RepS w v0 x.Cells := by
  constructor
  · rintro ⟨_, _, rfl, ⟨rfl, h0⟩, ⟨_, _, rfl, ⟨rfl, h1⟩, ⟨v0, rfl, h2⟩⟩⟩
    exact ⟨v0, rfl, h0, h1, h2⟩
  · rintro ⟨v0, rfl, h0, h1, h2⟩
    exact ⟨[_], _, rfl, ⟨rfl, h0⟩, ⟨[_], _, rfl, ⟨rfl, h1⟩, ⟨v0, rfl, h2⟩⟩⟩
theorem DGrid.own_iff {w : World} {cs : List Value} {x : DGrid} {fp : List Nat} : Rep.own w cs x fp ↔ ∃ v0 : Value, cs = [.int .i64 x.W, .int .i64 x.H, v0] ∧ I64 x.W ∧ I64 x.H ∧ OwnS w v0 x.Cells fp := by
  constructor
  · rintro ⟨_, _, _, _, rfl, ⟨⟨rfl, h0⟩, rfl⟩, ⟨_, _, _, _, rfl, ⟨⟨rfl, h1⟩, rfl⟩, ⟨v0, rfl, h2⟩, rfl⟩, rfl⟩
    exact ⟨v0, rfl, h0, h1, (by simpa using h2)⟩
  · rintro ⟨v0, rfl, h0, h1, h2⟩
    exact ⟨[_], _, [], fp, rfl, ⟨⟨rfl, h0⟩, rfl⟩, ⟨[_], _, [], fp, rfl, ⟨⟨rfl, h1⟩, rfl⟩, ⟨v0, rfl, h2⟩, by simp⟩, by simp⟩
theorem DGrid.shape {w : World} {cs : List Value} {x : DGrid} (h : Rep.rep w cs x) : ∃ a0 : Option Addr, ∃ n0 c0 : Nat, cs = [.int .i64 x.W, .int .i64 x.H, .slice a0 n0 c0] := by
  obtain ⟨v0, rfl, h0, h1, h2⟩ := DGrid.rep_iff.1 h
  obtain ⟨a0, n0, c0, rfl⟩ := h2.shape
  exact ⟨a0, n0, c0, rfl⟩
structure DOp where
  Kind : Int
  A : Int
  B : Int
  C : Int
  Name : ByteArray
  Text : ByteArray
  Dir : ByteArray
  Data : List UInt8
@[reducible] def DOp.prod (x : DOp) : Int × Int × Int × Int × ByteArray × ByteArray × ByteArray × (List UInt8) := (x.Kind, x.A, x.B, x.C, x.Name, x.Text, x.Dir, x.Data)
instance : Rep DOp := Rep.via 57 DOp.prod
theorem DOp.rep_iff {w : World} {cs : List Value} {x : DOp} : Rep.rep w cs x ↔ ∃ v0 : Value, cs = [.int .i64 x.Kind, .int .i64 x.A, .int .i64 x.B, .int .i64 x.C, .string x.Name, .string x.Text, .string x.Dir, v0] ∧ I64 x.Kind ∧ I64 x.A ∧ I64 x.B ∧ I64 x.C ∧ x.Name.size ≤ 9223372036854775807 ∧ x.Text.size ≤ 9223372036854775807 ∧ x.Dir.size ≤ 9223372036854775807 ∧ RepS w v0 x.Data := by
  constructor
  · rintro ⟨_, _, rfl, ⟨rfl, h0⟩, ⟨_, _, rfl, ⟨rfl, h1⟩, ⟨_, _, rfl, ⟨rfl, h2⟩, ⟨_, _, rfl, ⟨rfl, h3⟩, ⟨_, _, rfl, ⟨rfl, h4⟩, ⟨_, _, rfl, ⟨rfl, h5⟩, ⟨_, _, rfl, ⟨rfl, h6⟩, ⟨v0, rfl, h7⟩⟩⟩⟩⟩⟩⟩⟩
    exact ⟨v0, rfl, h0, h1, h2, h3, h4, h5, h6, h7⟩
  · rintro ⟨v0, rfl, h0, h1, h2, h3, h4, h5, h6, h7⟩
    exact ⟨[_], _, rfl, ⟨rfl, h0⟩, ⟨[_], _, rfl, ⟨rfl, h1⟩, ⟨[_], _, rfl, ⟨rfl, h2⟩, ⟨[_], _, rfl, ⟨rfl, h3⟩, ⟨[_], _, rfl, ⟨rfl, h4⟩, ⟨[_], _, rfl, ⟨rfl, h5⟩, ⟨[_], _, rfl, ⟨rfl, h6⟩, ⟨v0, rfl, h7⟩⟩⟩⟩⟩⟩⟩⟩
theorem DOp.own_iff {w : World} {cs : List Value} {x : DOp} {fp : List Nat} : Rep.own w cs x fp ↔ ∃ v0 : Value, cs = [.int .i64 x.Kind, .int .i64 x.A, .int .i64 x.B, .int .i64 x.C, .string x.Name, .string x.Text, .string x.Dir, v0] ∧ I64 x.Kind ∧ I64 x.A ∧ I64 x.B ∧ I64 x.C ∧ x.Name.size ≤ 9223372036854775807 ∧ x.Text.size ≤ 9223372036854775807 ∧ x.Dir.size ≤ 9223372036854775807 ∧ OwnS w v0 x.Data fp := by
  constructor
  · rintro ⟨_, _, _, _, rfl, ⟨⟨rfl, h0⟩, rfl⟩, ⟨_, _, _, _, rfl, ⟨⟨rfl, h1⟩, rfl⟩, ⟨_, _, _, _, rfl, ⟨⟨rfl, h2⟩, rfl⟩, ⟨_, _, _, _, rfl, ⟨⟨rfl, h3⟩, rfl⟩, ⟨_, _, _, _, rfl, ⟨⟨rfl, h4⟩, rfl⟩, ⟨_, _, _, _, rfl, ⟨⟨rfl, h5⟩, rfl⟩, ⟨_, _, _, _, rfl, ⟨⟨rfl, h6⟩, rfl⟩, ⟨v0, rfl, h7⟩, rfl⟩, rfl⟩, rfl⟩, rfl⟩, rfl⟩, rfl⟩, rfl⟩
    exact ⟨v0, rfl, h0, h1, h2, h3, h4, h5, h6, (by simpa using h7)⟩
  · rintro ⟨v0, rfl, h0, h1, h2, h3, h4, h5, h6, h7⟩
    exact ⟨[_], _, [], fp, rfl, ⟨⟨rfl, h0⟩, rfl⟩, ⟨[_], _, [], fp, rfl, ⟨⟨rfl, h1⟩, rfl⟩, ⟨[_], _, [], fp, rfl, ⟨⟨rfl, h2⟩, rfl⟩, ⟨[_], _, [], fp, rfl, ⟨⟨rfl, h3⟩, rfl⟩, ⟨[_], _, [], fp, rfl, ⟨⟨rfl, h4⟩, rfl⟩, ⟨[_], _, [], fp, rfl, ⟨⟨rfl, h5⟩, rfl⟩, ⟨[_], _, [], fp, rfl, ⟨⟨rfl, h6⟩, rfl⟩, ⟨v0, rfl, h7⟩, by simp⟩, by simp⟩, by simp⟩, by simp⟩, by simp⟩, by simp⟩, by simp⟩
theorem DOp.shape {w : World} {cs : List Value} {x : DOp} (h : Rep.rep w cs x) : ∃ a0 : Option Addr, ∃ n0 c0 : Nat, cs = [.int .i64 x.Kind, .int .i64 x.A, .int .i64 x.B, .int .i64 x.C, .string x.Name, .string x.Text, .string x.Dir, .slice a0 n0 c0] := by
  obtain ⟨v0, rfl, h0, h1, h2, h3, h4, h5, h6, h7⟩ := DOp.rep_iff.1 h
  obtain ⟨a0, n0, c0, rfl⟩ := h7.shape
  exact ⟨a0, n0, c0, rfl⟩
structure DView where
  Grid : DGrid
  X : Int
  Y : Int
  Hide : Bool
@[reducible] def DView.prod (x : DView) : DGrid × Int × Int × Bool := (x.Grid, x.X, x.Y, x.Hide)
instance : Rep DView := Rep.via 34 DView.prod
theorem DView.rep_iff {w : World} {cs : List Value} {x : DView} : Rep.rep w cs x ↔ ∃ v0 : Value, cs = [.int .i64 x.Grid.W, .int .i64 x.Grid.H, v0, .int .i64 x.X, .int .i64 x.Y, .bool x.Hide] ∧ I64 x.Grid.W ∧ I64 x.Grid.H ∧ RepS w v0 x.Grid.Cells ∧ I64 x.X ∧ I64 x.Y := by
  constructor
  · rintro ⟨_, _, rfl, ⟨_, _, rfl, ⟨rfl, h0⟩, ⟨_, _, rfl, ⟨rfl, h1⟩, ⟨v0, rfl, h2⟩⟩⟩, ⟨_, _, rfl, ⟨rfl, h3⟩, ⟨_, _, rfl, ⟨rfl, h4⟩, rfl⟩⟩⟩
    exact ⟨v0, rfl, h0, h1, h2, h3, h4⟩
  · rintro ⟨v0, rfl, h0, h1, h2, h3, h4⟩
    exact ⟨[_, _, _], _, rfl, ⟨[_], _, rfl, ⟨rfl, h0⟩, ⟨[_], _, rfl, ⟨rfl, h1⟩, ⟨v0, rfl, h2⟩⟩⟩, ⟨[_], _, rfl, ⟨rfl, h3⟩, ⟨[_], _, rfl, ⟨rfl, h4⟩, rfl⟩⟩⟩
theorem DView.own_iff {w : World} {cs : List Value} {x : DView} {fp : List Nat} : Rep.own w cs x fp ↔ ∃ v0 : Value, cs = [.int .i64 x.Grid.W, .int .i64 x.Grid.H, v0, .int .i64 x.X, .int .i64 x.Y, .bool x.Hide] ∧ I64 x.Grid.W ∧ I64 x.Grid.H ∧ OwnS w v0 x.Grid.Cells fp ∧ I64 x.X ∧ I64 x.Y := by
  constructor
  · rintro ⟨_, _, _, _, rfl, ⟨_, _, _, _, rfl, ⟨⟨rfl, h0⟩, rfl⟩, ⟨_, _, _, _, rfl, ⟨⟨rfl, h1⟩, rfl⟩, ⟨v0, rfl, h2⟩, rfl⟩, rfl⟩, ⟨_, _, _, _, rfl, ⟨⟨rfl, h3⟩, rfl⟩, ⟨_, _, _, _, rfl, ⟨⟨rfl, h4⟩, rfl⟩, ⟨rfl, rfl⟩, rfl⟩, rfl⟩, rfl⟩
    exact ⟨v0, rfl, h0, h1, (by simpa using h2), h3, h4⟩
  · rintro ⟨v0, rfl, h0, h1, h2, h3, h4⟩
    exact ⟨[_, _, _], _, fp, [], rfl, ⟨[_], _, [], fp, rfl, ⟨⟨rfl, h0⟩, rfl⟩, ⟨[_], _, [], fp, rfl, ⟨⟨rfl, h1⟩, rfl⟩, ⟨v0, rfl, h2⟩, by simp⟩, by simp⟩, ⟨[_], _, [], [], rfl, ⟨⟨rfl, h3⟩, rfl⟩, ⟨[_], _, [], [], rfl, ⟨⟨rfl, h4⟩, rfl⟩, ⟨rfl, rfl⟩, by simp⟩, by simp⟩, by simp⟩
theorem DView.shape {w : World} {cs : List Value} {x : DView} (h : Rep.rep w cs x) : ∃ a0 : Option Addr, ∃ n0 c0 : Nat, cs = [.int .i64 x.Grid.W, .int .i64 x.Grid.H, .slice a0 n0 c0, .int .i64 x.X, .int .i64 x.Y, .bool x.Hide] := by
  obtain ⟨v0, rfl, h0, h1, h2, h3, h4⟩ := DView.rep_iff.1 h
  obtain ⟨a0, n0, c0, rfl⟩ := h2.shape
  exact ⟨a0, n0, c0, rfl⟩
structure DStep where
  Kind : Int
  A : Int
  B : Int
  Text : ByteArray
  Data : List UInt8
  Cuts : List Int
@[reducible] def DStep.prod (x : DStep) : Int × Int × Int × ByteArray × (List UInt8) × (List Int) := (x.Kind, x.A, x.B, x.Text, x.Data, x.Cuts)
instance : Rep DStep := Rep.via 49 DStep.prod
theorem DStep.rep_iff {w : World} {cs : List Value} {x : DStep} : Rep.rep w cs x ↔ ∃ v0 v1 : Value, cs = [.int .i64 x.Kind, .int .i64 x.A, .int .i64 x.B, .string x.Text, v0, v1] ∧ I64 x.Kind ∧ I64 x.A ∧ I64 x.B ∧ x.Text.size ≤ 9223372036854775807 ∧ RepS w v0 x.Data ∧ RepS w v1 x.Cuts := by
  constructor
  · rintro ⟨_, _, rfl, ⟨rfl, h0⟩, ⟨_, _, rfl, ⟨rfl, h1⟩, ⟨_, _, rfl, ⟨rfl, h2⟩, ⟨_, _, rfl, ⟨rfl, h3⟩, ⟨_, _, rfl, ⟨v0, rfl, h4⟩, ⟨v1, rfl, h5⟩⟩⟩⟩⟩⟩
    exact ⟨v0, v1, rfl, h0, h1, h2, h3, h4, h5⟩
  · rintro ⟨v0, v1, rfl, h0, h1, h2, h3, h4, h5⟩
    exact ⟨[_], _, rfl, ⟨rfl, h0⟩, ⟨[_], _, rfl, ⟨rfl, h1⟩, ⟨[_], _, rfl, ⟨rfl, h2⟩, ⟨[_], _, rfl, ⟨rfl, h3⟩, ⟨[_], _, rfl, ⟨v0, rfl, h4⟩, ⟨v1, rfl, h5⟩⟩⟩⟩⟩⟩
theorem DStep.own_iff {w : World} {cs : List Value} {x : DStep} {fp : List Nat} : Rep.own w cs x fp ↔ ∃ v0 v1 : Value, ∃ f0 f1 : List Nat, cs = [.int .i64 x.Kind, .int .i64 x.A, .int .i64 x.B, .string x.Text, v0, v1] ∧ I64 x.Kind ∧ I64 x.A ∧ I64 x.B ∧ x.Text.size ≤ 9223372036854775807 ∧ OwnS w v0 x.Data f0 ∧ OwnS w v1 x.Cuts f1 ∧ fp = (f0 ++ f1) := by
  constructor
  · rintro ⟨_, _, _, _, rfl, ⟨⟨rfl, h0⟩, rfl⟩, ⟨_, _, _, _, rfl, ⟨⟨rfl, h1⟩, rfl⟩, ⟨_, _, _, _, rfl, ⟨⟨rfl, h2⟩, rfl⟩, ⟨_, _, _, _, rfl, ⟨⟨rfl, h3⟩, rfl⟩, ⟨_, _, _, _, rfl, ⟨v0, rfl, h4⟩, ⟨v1, rfl, h5⟩, rfl⟩, rfl⟩, rfl⟩, rfl⟩, rfl⟩
    exact ⟨v0, v1, _, _, rfl, h0, h1, h2, h3, h4, h5, by simp⟩
  · rintro ⟨v0, v1, f0, f1, rfl, h0, h1, h2, h3, h4, h5, rfl⟩
    exact ⟨[_], _, [], (f0 ++ f1), rfl, ⟨⟨rfl, h0⟩, rfl⟩, ⟨[_], _, [], (f0 ++ f1), rfl, ⟨⟨rfl, h1⟩, rfl⟩, ⟨[_], _, [], (f0 ++ f1), rfl, ⟨⟨rfl, h2⟩, rfl⟩, ⟨[_], _, [], (f0 ++ f1), rfl, ⟨⟨rfl, h3⟩, rfl⟩, ⟨[_], _, f0, f1, rfl, ⟨v0, rfl, h4⟩, ⟨v1, rfl, h5⟩, by simp⟩, by simp⟩, by simp⟩, by simp⟩, by simp⟩
theorem DStep.shape {w : World} {cs : List Value} {x : DStep} (h : Rep.rep w cs x) : ∃ a0 a1 : Option Addr, ∃ n0 c0 n1 c1 : Nat, cs = [.int .i64 x.Kind, .int .i64 x.A, .int .i64 x.B, .string x.Text, .slice a0 n0 c0, .slice a1 n1 c1] := by
  obtain ⟨v0, v1, rfl, h0, h1, h2, h3, h4, h5⟩ := DStep.rep_iff.1 h
  obtain ⟨a0, n0, c0, rfl⟩ := h4.shape
  obtain ⟨a1, n1, c1, rfl⟩ := h5.shape
  exact ⟨a0, a1, n0, c0, n1, c1, rfl⟩
end Go.Mux
