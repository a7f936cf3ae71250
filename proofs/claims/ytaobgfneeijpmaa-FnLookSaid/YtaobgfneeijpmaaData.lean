/- The struct types of the program as Lean structures, and how each lies in memory. -/
import Derived.Test.YtaobgfneeijpmaaBase
set_option linter.unusedSimpArgs false
set_option linter.unusedVariables false
namespace Go.Mux
open Go.RowKit
section
variable {α β : Type} [Rep α] [Rep β] {w : World} {cs : List Value} {y : β} {fp : List Nat}
theorem rp_int {n : Int} : Rep.rep w cs (n, y) ↔ ∃ t, cs = .int .i64 n :: t ∧ I64 n ∧ Rep.rep w t y :=
  ⟨fun ⟨_, t, e, ⟨e1, h⟩, h2⟩ => ⟨t, by rw [e, e1]; rfl, h, h2⟩, fun ⟨t, e, h, h2⟩ => ⟨[_], t, e, ⟨rfl, h⟩, h2⟩⟩
theorem rp_bool {n : Bool} : Rep.rep w cs (n, y) ↔ ∃ t, cs = .bool n :: t ∧ Rep.rep w t y :=
  ⟨fun ⟨_, t, e, e1, h2⟩ => ⟨t, by rw [e, e1]; rfl, h2⟩, fun ⟨t, e, h2⟩ => ⟨[_], t, e, rfl, h2⟩⟩
theorem rp_str {n : ByteArray} : Rep.rep w cs (n, y) ↔ ∃ t, cs = .string n :: t ∧ n.size ≤ 9223372036854775807 ∧ Rep.rep w t y :=
  ⟨fun ⟨_, t, e, ⟨e1, h⟩, h2⟩ => ⟨t, by rw [e, e1]; rfl, h, h2⟩, fun ⟨t, e, h, h2⟩ => ⟨[_], t, e, ⟨rfl, h⟩, h2⟩⟩
theorem rp_slice {l : List α} : Rep.rep w cs (l, y) ↔ ∃ v t, cs = v :: t ∧ RepS w v l ∧ Rep.rep w t y :=
  ⟨fun ⟨_, t, e, ⟨v, e1, h⟩, h2⟩ => ⟨v, t, by rw [e, e1]; rfl, h, h2⟩, fun ⟨v, t, e, h, h2⟩ => ⟨[_], t, e, ⟨v, rfl, h⟩, h2⟩⟩
theorem rp_struct {x : α} : Rep.rep w cs (x, y) ↔ ∃ c t, cs = c ++ t ∧ Rep.rep w c x ∧ Rep.rep w t y :=
  ⟨fun ⟨c, t, e, h, h2⟩ => ⟨c, t, e, h, h2⟩, fun ⟨c, t, e, h, h2⟩ => ⟨c, t, e, h, h2⟩⟩
theorem ro_int {n : Int} : Rep.own w cs (n, y) fp ↔ ∃ t, cs = .int .i64 n :: t ∧ I64 n ∧ Rep.own w t y fp :=
  ⟨fun ⟨_, t, f, g, e, ⟨⟨e1, h⟩, e2⟩, h2, e3⟩ => ⟨t, by rw [e, e1]; rfl, h, by rw [e3, e2]; exact h2⟩, fun ⟨t, e, h, h2⟩ => ⟨[_], t, [], fp, e, ⟨⟨rfl, h⟩, rfl⟩, h2, rfl⟩⟩
theorem ro_bool {n : Bool} : Rep.own w cs (n, y) fp ↔ ∃ t, cs = .bool n :: t ∧ Rep.own w t y fp :=
  ⟨fun ⟨_, t, f, g, e, ⟨e1, e2⟩, h2, e3⟩ => ⟨t, by rw [e, e1]; rfl, by rw [e3, e2]; exact h2⟩, fun ⟨t, e, h2⟩ => ⟨[_], t, [], fp, e, ⟨rfl, rfl⟩, h2, rfl⟩⟩
theorem ro_str {n : ByteArray} : Rep.own w cs (n, y) fp ↔ ∃ t, cs = .string n :: t ∧ n.size ≤ 9223372036854775807 ∧ Rep.own w t y fp :=
  ⟨fun ⟨_, t, f, g, e, ⟨⟨e1, h⟩, e2⟩, h2, e3⟩ => ⟨t, by rw [e, e1]; rfl, h, by rw [e3, e2]; exact h2⟩, fun ⟨t, e, h, h2⟩ => ⟨[_], t, [], fp, e, ⟨⟨rfl, h⟩, rfl⟩, h2, rfl⟩⟩
theorem ro_slice {l : List α} : Rep.own w cs (l, y) fp ↔ ∃ v t f g, cs = v :: t ∧ OwnS w v l f ∧ Rep.own w t y g ∧ fp = f ++ g :=
  ⟨fun ⟨_, t, f, g, e, ⟨v, e1, h⟩, h2, e3⟩ => ⟨v, t, f, g, by rw [e, e1]; rfl, h, h2, e3⟩, fun ⟨v, t, f, g, e, h, h2, e3⟩ => ⟨[_], t, f, g, e, ⟨v, rfl, h⟩, h2, e3⟩⟩
theorem ro_struct {x : α} : Rep.own w cs (x, y) fp ↔ ∃ c t f g, cs = c ++ t ∧ Rep.own w c x f ∧ Rep.own w t y g ∧ fp = f ++ g :=
  ⟨fun ⟨c, t, f, g, e, h, h2, e3⟩ => ⟨c, t, f, g, e, h, h2, e3⟩, fun ⟨c, t, f, g, e, h, h2, e3⟩ => ⟨c, t, f, g, e, h, h2, e3⟩⟩
end
structure DAttr where
  Fg : Int
  Bg : Int
  Bold : Bool
  Under : Bool
  Turn : Bool
@[reducible] def DAttr.prod (x : DAttr) : Int × Int × Bool × Bool × Bool := (x.Fg, x.Bg, x.Bold, x.Under, x.Turn)
instance : Rep DAttr := Rep.via 27 DAttr.prod
theorem DAttr.rep_iff {w : World} {cs : List Value} {x : DAttr} : Rep.rep w cs x ↔ cs = [.int .i64 x.Fg, .int .i64 x.Bg, .bool x.Bold, .bool x.Under, .bool x.Turn] ∧ I64 x.Fg ∧ I64 x.Bg := by
  constructor
  · rintro ⟨_, _, rfl, ⟨rfl, h0⟩, ⟨_, _, rfl, ⟨rfl, h1⟩, ⟨_, _, rfl, rfl, ⟨_, _, rfl, rfl, rfl⟩⟩⟩⟩
    exact ⟨rfl, h0, h1⟩
  · rintro ⟨rfl, h0, h1⟩
    exact ⟨[_], _, rfl, ⟨rfl, h0⟩, ⟨[_], _, rfl, ⟨rfl, h1⟩, ⟨[_], _, rfl, rfl, ⟨[_], _, rfl, rfl, rfl⟩⟩⟩⟩
theorem DAttr.own_iff {w : World} {cs : List Value} {x : DAttr} {fp : List Nat} : Rep.own w cs x fp ↔ cs = [.int .i64 x.Fg, .int .i64 x.Bg, .bool x.Bold, .bool x.Under, .bool x.Turn] ∧ I64 x.Fg ∧ I64 x.Bg ∧ fp = [] := by
  constructor
  · rintro ⟨_, _, _, _, rfl, ⟨⟨rfl, h0⟩, rfl⟩, ⟨_, _, _, _, rfl, ⟨⟨rfl, h1⟩, rfl⟩, ⟨_, _, _, _, rfl, ⟨rfl, rfl⟩, ⟨_, _, _, _, rfl, ⟨rfl, rfl⟩, ⟨rfl, rfl⟩, rfl⟩, rfl⟩, rfl⟩, rfl⟩
    exact ⟨rfl, h0, h1, by simp⟩
  · rintro ⟨rfl, h0, h1, rfl⟩
    exact ⟨[_], _, [], [], rfl, ⟨⟨rfl, h0⟩, rfl⟩, ⟨[_], _, [], [], rfl, ⟨⟨rfl, h1⟩, rfl⟩, ⟨[_], _, [], [], rfl, ⟨rfl, rfl⟩, ⟨[_], _, [], [], rfl, ⟨rfl, rfl⟩, ⟨rfl, rfl⟩, by simp⟩, by simp⟩, by simp⟩, by simp⟩
theorem DAttr.shape {w : World} {cs : List Value} {x : DAttr} (h : Rep.rep w cs x) : cs = [.int .i64 x.Fg, .int .i64 x.Bg, .bool x.Bold, .bool x.Under, .bool x.Turn] := by
  obtain ⟨rfl, h0, h1⟩ := DAttr.rep_iff.1 h
  exact rfl
structure DCell where
  R : Int
  A : DAttr
@[reducible] def DCell.prod (x : DCell) : Int × DAttr := (x.R, x.A)
instance : Rep DCell := Rep.via 37 DCell.prod
theorem DCell.rep_iff {w : World} {cs : List Value} {x : DCell} : Rep.rep w cs x ↔ cs = [.int .i64 x.R, .int .i64 x.A.Fg, .int .i64 x.A.Bg, .bool x.A.Bold, .bool x.A.Under, .bool x.A.Turn] ∧ I64 x.R ∧ I64 x.A.Fg ∧ I64 x.A.Bg := by
  constructor
  · rintro ⟨_, _, rfl, ⟨rfl, h0⟩, ⟨_, _, rfl, ⟨rfl, h1⟩, ⟨_, _, rfl, ⟨rfl, h2⟩, ⟨_, _, rfl, rfl, ⟨_, _, rfl, rfl, rfl⟩⟩⟩⟩⟩
    exact ⟨rfl, h0, h1, h2⟩
  · rintro ⟨rfl, h0, h1, h2⟩
    exact ⟨[_], _, rfl, ⟨rfl, h0⟩, ⟨[_], _, rfl, ⟨rfl, h1⟩, ⟨[_], _, rfl, ⟨rfl, h2⟩, ⟨[_], _, rfl, rfl, ⟨[_], _, rfl, rfl, rfl⟩⟩⟩⟩⟩
theorem DCell.own_iff {w : World} {cs : List Value} {x : DCell} {fp : List Nat} : Rep.own w cs x fp ↔ cs = [.int .i64 x.R, .int .i64 x.A.Fg, .int .i64 x.A.Bg, .bool x.A.Bold, .bool x.A.Under, .bool x.A.Turn] ∧ I64 x.R ∧ I64 x.A.Fg ∧ I64 x.A.Bg ∧ fp = [] := by
  constructor
  · rintro ⟨_, _, _, _, rfl, ⟨⟨rfl, h0⟩, rfl⟩, ⟨_, _, _, _, rfl, ⟨⟨rfl, h1⟩, rfl⟩, ⟨_, _, _, _, rfl, ⟨⟨rfl, h2⟩, rfl⟩, ⟨_, _, _, _, rfl, ⟨rfl, rfl⟩, ⟨_, _, _, _, rfl, ⟨rfl, rfl⟩, ⟨rfl, rfl⟩, rfl⟩, rfl⟩, rfl⟩, rfl⟩, rfl⟩
    exact ⟨rfl, h0, h1, h2, by simp⟩
  · rintro ⟨rfl, h0, h1, h2, rfl⟩
    exact ⟨[_], _, [], [], rfl, ⟨⟨rfl, h0⟩, rfl⟩, ⟨[_], _, [], [], rfl, ⟨⟨rfl, h1⟩, rfl⟩, ⟨[_], _, [], [], rfl, ⟨⟨rfl, h2⟩, rfl⟩, ⟨[_], _, [], [], rfl, ⟨rfl, rfl⟩, ⟨[_], _, [], [], rfl, ⟨rfl, rfl⟩, ⟨rfl, rfl⟩, by simp⟩, by simp⟩, by simp⟩, by simp⟩, by simp⟩
theorem DCell.shape {w : World} {cs : List Value} {x : DCell} (h : Rep.rep w cs x) : cs = [.int .i64 x.R, .int .i64 x.A.Fg, .int .i64 x.A.Bg, .bool x.A.Bold, .bool x.A.Under, .bool x.A.Turn] := by
  obtain ⟨rfl, h0, h1, h2⟩ := DCell.rep_iff.1 h
  exact rfl
structure DGrid where
  W : Int
  H : Int
  Cells : List DCell
@[reducible] def DGrid.prod (x : DGrid) : Int × Int × (List DCell) := (x.W, x.H, x.Cells)
instance : Rep DGrid := Rep.via 25 DGrid.prod
theorem DGrid.rep_iff {w : World} {cs : List Value} {x : DGrid} : Rep.rep w cs x ↔ ∃ v0 : Value, cs = [.int .i64 x.W, .int .i64 x.H, v0] ∧ I64 x.W ∧ I64 x.H ∧ RepS w v0 x.Cells := by
  constructor
  · rintro ⟨_, _, rfl, ⟨rfl, h0⟩, ⟨_, _, rfl, ⟨rfl, h1⟩, ⟨v0, rfl, h2⟩⟩⟩
    exact ⟨v0, rfl, h0, h1, h2⟩
  · rintro ⟨v0, rfl, h0, h1, h2⟩
    exact ⟨[_], _, rfl, ⟨rfl, h0⟩, ⟨[_], _, rfl, ⟨rfl, h1⟩, ⟨v0, rfl, h2⟩⟩⟩
theorem DGrid.own_iff {w : World} {cs : List Value} {x : DGrid} {fp : List Nat} : Rep.own w cs x fp ↔ ∃ v0 : Value, cs = [.int .i64 x.W, .int .i64 x.H, v0] ∧ I64 x.W ∧ I64 x.H ∧ OwnS w v0 x.Cells fp := by
  constructor
  · rintro ⟨_, _, _, _, rfl, ⟨⟨rfl, h0⟩, rfl⟩, ⟨_, _, _, _, rfl, ⟨⟨rfl, h1⟩, rfl⟩, ⟨v0, rfl, h2⟩, rfl⟩, rfl⟩
    exact ⟨v0, rfl, h0, h1, (by simpa using h2)⟩
  · rintro ⟨v0, rfl, h0, h1, h2⟩
    exact ⟨[_], _, [], fp, rfl, ⟨⟨rfl, h0⟩, rfl⟩, ⟨[_], _, [], fp, rfl, ⟨⟨rfl, h1⟩, rfl⟩, ⟨v0, rfl, h2⟩, by simp⟩, by simp⟩
theorem DGrid.shape {w : World} {cs : List Value} {x : DGrid} (h : Rep.rep w cs x) : ∃ a0 : Option Addr, ∃ n0 c0 : Nat, cs = [.int .i64 x.W, .int .i64 x.H, .slice a0 n0 c0] := by
  obtain ⟨v0, rfl, h0, h1, h2⟩ := DGrid.rep_iff.1 h
  obtain ⟨a0, n0, c0, rfl⟩ := h2.shape
  exact ⟨a0, n0, c0, rfl⟩
structure DRow where
  Cells : List DCell
@[reducible] def DRow.prod (x : DRow) : (List DCell) := x.Cells
instance : Rep DRow := Rep.via 39 DRow.prod
theorem DRow.rep_iff {w : World} {cs : List Value} {x : DRow} : Rep.rep w cs x ↔ ∃ v0 : Value, cs = [v0] ∧ RepS w v0 x.Cells := by
  constructor
  · rintro ⟨v0, rfl, h0⟩
    exact ⟨v0, rfl, h0⟩
  · rintro ⟨v0, rfl, h0⟩
    exact ⟨v0, rfl, h0⟩
theorem DRow.own_iff {w : World} {cs : List Value} {x : DRow} {fp : List Nat} : Rep.own w cs x fp ↔ ∃ v0 : Value, cs = [v0] ∧ OwnS w v0 x.Cells fp := by
  constructor
  · rintro ⟨v0, rfl, h0⟩
    exact ⟨v0, rfl, (by simpa using h0)⟩
  · rintro ⟨v0, rfl, h0⟩
    exact ⟨v0, rfl, h0⟩
theorem DRow.shape {w : World} {cs : List Value} {x : DRow} (h : Rep.rep w cs x) : ∃ a0 : Option Addr, ∃ n0 c0 : Nat, cs = [.slice a0 n0 c0] := by
  obtain ⟨v0, rfl, h0⟩ := DRow.rep_iff.1 h
  obtain ⟨a0, n0, c0, rfl⟩ := h0.shape
  exact ⟨a0, n0, c0, rfl⟩
structure DScr where
  W : Int
  H : Int
  Main : DGrid
  Alt : DGrid
  OnAlt : Bool
  X : Int
  Y : Int
  Wrap : Bool
  A : DAttr
  Top : Int
  Bot : Int
  NoWrap : Bool
  Hide : Bool
  SaveX : Int
  SaveY : Int
  SaveA : DAttr
  Tabs : List Int
  Limit : Int
  Back : List DRow
@[reducible] def DScr.prod (x : DScr) : Int × Int × DGrid × DGrid × Bool × Int × Int × Bool × DAttr × Int × Int × Bool × Bool × Int × Int × DAttr × (List Int) × Int × (List DRow) := (x.W, x.H, x.Main, x.Alt, x.OnAlt, x.X, x.Y, x.Wrap, x.A, x.Top, x.Bot, x.NoWrap, x.Hide, x.SaveX, x.SaveY, x.SaveA, x.Tabs, x.Limit, x.Back)
instance : Rep DScr := Rep.via 31 DScr.prod
theorem DScr.rep_iff {w : World} {cs : List Value} {x : DScr} : Rep.rep w cs x ↔ ∃ v0 v1 v2 v3 : Value, cs = [.int .i64 x.W, .int .i64 x.H, .int .i64 x.Main.W, .int .i64 x.Main.H, v0, .int .i64 x.Alt.W, .int .i64 x.Alt.H, v1, .bool x.OnAlt, .int .i64 x.X, .int .i64 x.Y, .bool x.Wrap, .int .i64 x.A.Fg, .int .i64 x.A.Bg, .bool x.A.Bold, .bool x.A.Under, .bool x.A.Turn, .int .i64 x.Top, .int .i64 x.Bot, .bool x.NoWrap, .bool x.Hide, .int .i64 x.SaveX, .int .i64 x.SaveY, .int .i64 x.SaveA.Fg, .int .i64 x.SaveA.Bg, .bool x.SaveA.Bold, .bool x.SaveA.Under, .bool x.SaveA.Turn, v2, .int .i64 x.Limit, v3] ∧ I64 x.W ∧ I64 x.H ∧ I64 x.Main.W ∧ I64 x.Main.H ∧ RepS w v0 x.Main.Cells ∧ I64 x.Alt.W ∧ I64 x.Alt.H ∧ RepS w v1 x.Alt.Cells ∧ I64 x.X ∧ I64 x.Y ∧ I64 x.A.Fg ∧ I64 x.A.Bg ∧ I64 x.Top ∧ I64 x.Bot ∧ I64 x.SaveX ∧ I64 x.SaveY ∧ I64 x.SaveA.Fg ∧ I64 x.SaveA.Bg ∧ RepS w v2 x.Tabs ∧ I64 x.Limit ∧ RepS w v3 x.Back := by
  constructor
  · intro k0
    replace k0 : Rep.rep w cs (x.W, x.H, x.Main, x.Alt, x.OnAlt, x.X, x.Y, x.Wrap, x.A, x.Top, x.Bot, x.NoWrap, x.Hide, x.SaveX, x.SaveY, x.SaveA, x.Tabs, x.Limit, x.Back) := k0
    obtain ⟨t, rfl, h0, k1⟩ := rp_int.1 k0
    obtain ⟨t, rfl, h1, k2⟩ := rp_int.1 k1
    obtain ⟨c, t, rfl, hs, k3⟩ := rp_struct.1 k2
    obtain ⟨v0, rfl, h2, h3, h4⟩ := DGrid.rep_iff.1 hs
    obtain ⟨c, t, rfl, hs, k4⟩ := rp_struct.1 k3
    obtain ⟨v1, rfl, h5, h6, h7⟩ := DGrid.rep_iff.1 hs
    obtain ⟨t, rfl, k5⟩ := rp_bool.1 k4
    obtain ⟨t, rfl, h8, k6⟩ := rp_int.1 k5
    obtain ⟨t, rfl, h9, k7⟩ := rp_int.1 k6
    obtain ⟨t, rfl, k8⟩ := rp_bool.1 k7
    obtain ⟨c, t, rfl, hs, k9⟩ := rp_struct.1 k8
    obtain ⟨rfl, h10, h11⟩ := DAttr.rep_iff.1 hs
    obtain ⟨t, rfl, h12, k10⟩ := rp_int.1 k9
    obtain ⟨t, rfl, h13, k11⟩ := rp_int.1 k10
    obtain ⟨t, rfl, k12⟩ := rp_bool.1 k11
    obtain ⟨t, rfl, k13⟩ := rp_bool.1 k12
    obtain ⟨t, rfl, h14, k14⟩ := rp_int.1 k13
    obtain ⟨t, rfl, h15, k15⟩ := rp_int.1 k14
    obtain ⟨c, t, rfl, hs, k16⟩ := rp_struct.1 k15
    obtain ⟨rfl, h16, h17⟩ := DAttr.rep_iff.1 hs
    obtain ⟨v2, t, rfl, h18, k17⟩ := rp_slice.1 k16
    obtain ⟨t, rfl, h19, k18⟩ := rp_int.1 k17
    obtain ⟨v3, rfl, h20⟩ := k18
    exact ⟨v0, v1, v2, v3, rfl, h0, h1, h2, h3, h4, h5, h6, h7, h8, h9, h10, h11, h12, h13, h14, h15, h16, h17, h18, h19, h20⟩
  · rintro ⟨v0, v1, v2, v3, rfl, h0, h1, h2, h3, h4, h5, h6, h7, h8, h9, h10, h11, h12, h13, h14, h15, h16, h17, h18, h19, h20⟩
    show Rep.rep w _ (x.W, x.H, x.Main, x.Alt, x.OnAlt, x.X, x.Y, x.Wrap, x.A, x.Top, x.Bot, x.NoWrap, x.Hide, x.SaveX, x.SaveY, x.SaveA, x.Tabs, x.Limit, x.Back)
    exact rp_int.2 ⟨_, rfl, h0, rp_int.2 ⟨_, rfl, h1, rp_struct.2 ⟨[_, _, _], _, rfl, DGrid.rep_iff.2 ⟨v0, rfl, h2, h3, h4⟩, rp_struct.2 ⟨[_, _, _], _, rfl, DGrid.rep_iff.2 ⟨v1, rfl, h5, h6, h7⟩, rp_bool.2 ⟨_, rfl, rp_int.2 ⟨_, rfl, h8, rp_int.2 ⟨_, rfl, h9, rp_bool.2 ⟨_, rfl, rp_struct.2 ⟨[_, _, _, _, _], _, rfl, DAttr.rep_iff.2 ⟨rfl, h10, h11⟩, rp_int.2 ⟨_, rfl, h12, rp_int.2 ⟨_, rfl, h13, rp_bool.2 ⟨_, rfl, rp_bool.2 ⟨_, rfl, rp_int.2 ⟨_, rfl, h14, rp_int.2 ⟨_, rfl, h15, rp_struct.2 ⟨[_, _, _, _, _], _, rfl, DAttr.rep_iff.2 ⟨rfl, h16, h17⟩, rp_slice.2 ⟨v2, _, rfl, h18, rp_int.2 ⟨_, rfl, h19, ⟨v3, rfl, h20⟩⟩⟩⟩⟩⟩⟩⟩⟩⟩⟩⟩⟩⟩⟩⟩⟩⟩⟩
theorem DScr.own_iff {w : World} {cs : List Value} {x : DScr} {fp : List Nat} : Rep.own w cs x fp ↔ ∃ v0 v1 v2 v3 : Value, ∃ f0 f1 f2 f3 : List Nat, cs = [.int .i64 x.W, .int .i64 x.H, .int .i64 x.Main.W, .int .i64 x.Main.H, v0, .int .i64 x.Alt.W, .int .i64 x.Alt.H, v1, .bool x.OnAlt, .int .i64 x.X, .int .i64 x.Y, .bool x.Wrap, .int .i64 x.A.Fg, .int .i64 x.A.Bg, .bool x.A.Bold, .bool x.A.Under, .bool x.A.Turn, .int .i64 x.Top, .int .i64 x.Bot, .bool x.NoWrap, .bool x.Hide, .int .i64 x.SaveX, .int .i64 x.SaveY, .int .i64 x.SaveA.Fg, .int .i64 x.SaveA.Bg, .bool x.SaveA.Bold, .bool x.SaveA.Under, .bool x.SaveA.Turn, v2, .int .i64 x.Limit, v3] ∧ I64 x.W ∧ I64 x.H ∧ I64 x.Main.W ∧ I64 x.Main.H ∧ OwnS w v0 x.Main.Cells f0 ∧ I64 x.Alt.W ∧ I64 x.Alt.H ∧ OwnS w v1 x.Alt.Cells f1 ∧ I64 x.X ∧ I64 x.Y ∧ I64 x.A.Fg ∧ I64 x.A.Bg ∧ I64 x.Top ∧ I64 x.Bot ∧ I64 x.SaveX ∧ I64 x.SaveY ∧ I64 x.SaveA.Fg ∧ I64 x.SaveA.Bg ∧ OwnS w v2 x.Tabs f2 ∧ I64 x.Limit ∧ OwnS w v3 x.Back f3 ∧ fp = (f0 ++ (f1 ++ (f2 ++ f3))) := by
  constructor
  · intro k0
    replace k0 : Rep.own w cs (x.W, x.H, x.Main, x.Alt, x.OnAlt, x.X, x.Y, x.Wrap, x.A, x.Top, x.Bot, x.NoWrap, x.Hide, x.SaveX, x.SaveY, x.SaveA, x.Tabs, x.Limit, x.Back) fp := k0
    obtain ⟨t, rfl, h0, k1⟩ := ro_int.1 k0
    obtain ⟨t, rfl, h1, k2⟩ := ro_int.1 k1
    obtain ⟨c, t, f0, g, rfl, hs, k3, rfl⟩ := ro_struct.1 k2
    obtain ⟨v0, rfl, h2, h3, h4⟩ := DGrid.own_iff.1 hs
    obtain ⟨c, t, f1, g, rfl, hs, k4, rfl⟩ := ro_struct.1 k3
    obtain ⟨v1, rfl, h5, h6, h7⟩ := DGrid.own_iff.1 hs
    obtain ⟨t, rfl, k5⟩ := ro_bool.1 k4
    obtain ⟨t, rfl, h8, k6⟩ := ro_int.1 k5
    obtain ⟨t, rfl, h9, k7⟩ := ro_int.1 k6
    obtain ⟨t, rfl, k8⟩ := ro_bool.1 k7
    obtain ⟨c, t, f, g, rfl, hs, k9, rfl⟩ := ro_struct.1 k8
    obtain ⟨rfl, h10, h11, rfl⟩ := DAttr.own_iff.1 hs
    obtain ⟨t, rfl, h12, k10⟩ := ro_int.1 k9
    obtain ⟨t, rfl, h13, k11⟩ := ro_int.1 k10
    obtain ⟨t, rfl, k12⟩ := ro_bool.1 k11
    obtain ⟨t, rfl, k13⟩ := ro_bool.1 k12
    obtain ⟨t, rfl, h14, k14⟩ := ro_int.1 k13
    obtain ⟨t, rfl, h15, k15⟩ := ro_int.1 k14
    obtain ⟨c, t, f, g, rfl, hs, k16, rfl⟩ := ro_struct.1 k15
    obtain ⟨rfl, h16, h17, rfl⟩ := DAttr.own_iff.1 hs
    obtain ⟨v2, t, f2, g, rfl, h18, k17, rfl⟩ := ro_slice.1 k16
    obtain ⟨t, rfl, h19, k18⟩ := ro_int.1 k17
    obtain ⟨v3, rfl, h20⟩ := k18
    exact ⟨v0, v1, v2, v3, _, _, _, _, rfl, h0, h1, h2, h3, h4, h5, h6, h7, h8, h9, h10, h11, h12, h13, h14, h15, h16, h17, h18, h19, h20, by simp⟩
  · rintro ⟨v0, v1, v2, v3, f0, f1, f2, f3, rfl, h0, h1, h2, h3, h4, h5, h6, h7, h8, h9, h10, h11, h12, h13, h14, h15, h16, h17, h18, h19, h20, rfl⟩
    show Rep.own w _ (x.W, x.H, x.Main, x.Alt, x.OnAlt, x.X, x.Y, x.Wrap, x.A, x.Top, x.Bot, x.NoWrap, x.Hide, x.SaveX, x.SaveY, x.SaveA, x.Tabs, x.Limit, x.Back) _
    exact ro_int.2 ⟨_, rfl, h0, ro_int.2 ⟨_, rfl, h1, ro_struct.2 ⟨[_, _, _], _, f0, (f1 ++ (f2 ++ f3)), rfl, DGrid.own_iff.2 ⟨v0, rfl, h2, h3, h4⟩, ro_struct.2 ⟨[_, _, _], _, f1, (f2 ++ f3), rfl, DGrid.own_iff.2 ⟨v1, rfl, h5, h6, h7⟩, ro_bool.2 ⟨_, rfl, ro_int.2 ⟨_, rfl, h8, ro_int.2 ⟨_, rfl, h9, ro_bool.2 ⟨_, rfl, ro_struct.2 ⟨[_, _, _, _, _], _, [], (f2 ++ f3), rfl, DAttr.own_iff.2 ⟨rfl, h10, h11, rfl⟩, ro_int.2 ⟨_, rfl, h12, ro_int.2 ⟨_, rfl, h13, ro_bool.2 ⟨_, rfl, ro_bool.2 ⟨_, rfl, ro_int.2 ⟨_, rfl, h14, ro_int.2 ⟨_, rfl, h15, ro_struct.2 ⟨[_, _, _, _, _], _, [], (f2 ++ f3), rfl, DAttr.own_iff.2 ⟨rfl, h16, h17, rfl⟩, ro_slice.2 ⟨v2, _, f2, f3, rfl, h18, ro_int.2 ⟨_, rfl, h19, ⟨v3, rfl, h20⟩⟩, by simp⟩, by simp⟩⟩⟩⟩⟩⟩⟩, by simp⟩⟩⟩⟩⟩, by simp⟩, by simp⟩⟩⟩
theorem DScr.shape {w : World} {cs : List Value} {x : DScr} (h : Rep.rep w cs x) : ∃ a0 a1 a2 a3 : Option Addr, ∃ n0 c0 n1 c1 n2 c2 n3 c3 : Nat, cs = [.int .i64 x.W, .int .i64 x.H, .int .i64 x.Main.W, .int .i64 x.Main.H, .slice a0 n0 c0, .int .i64 x.Alt.W, .int .i64 x.Alt.H, .slice a1 n1 c1, .bool x.OnAlt, .int .i64 x.X, .int .i64 x.Y, .bool x.Wrap, .int .i64 x.A.Fg, .int .i64 x.A.Bg, .bool x.A.Bold, .bool x.A.Under, .bool x.A.Turn, .int .i64 x.Top, .int .i64 x.Bot, .bool x.NoWrap, .bool x.Hide, .int .i64 x.SaveX, .int .i64 x.SaveY, .int .i64 x.SaveA.Fg, .int .i64 x.SaveA.Bg, .bool x.SaveA.Bold, .bool x.SaveA.Under, .bool x.SaveA.Turn, .slice a2 n2 c2, .int .i64 x.Limit, .slice a3 n3 c3] := by
  obtain ⟨v0, v1, v2, v3, rfl, h0, h1, h2, h3, h4, h5, h6, h7, h8, h9, h10, h11, h12, h13, h14, h15, h16, h17, h18, h19, h20⟩ := DScr.rep_iff.1 h
  obtain ⟨a0, n0, c0, rfl⟩ := h4.shape
  obtain ⟨a1, n1, c1, rfl⟩ := h7.shape
  obtain ⟨a2, n2, c2, rfl⟩ := h18.shape
  obtain ⟨a3, n3, c3, rfl⟩ := h20.shape
  exact ⟨a0, a1, a2, a3, n0, c0, n1, c1, n2, c2, n3, c3, rfl⟩
end Go.Mux
