/- The struct types of the program as Lean structures, and how each lies in memory. -/
import Derived.Test.YtjglknaojfnllaaDoorBase
set_option linter.unusedSimpArgs false
set_option linter.unusedVariables false
namespace Go.Mux
open Go.RowKit
section
variable {α β : Type} [Rep α] [Rep β] {w : World} {cs : List Value} {y : β} {fp : List Nat}
theorem rp_int {n : Int} : Rep.rep w cs (n, y) ↔ ∃ t, cs = .int .i64 n :: t ∧ I64 n ∧ Rep.rep w t y :=
  ⟨fun ⟨_, t, e, ⟨e1, h⟩, h2⟩ => ⟨t, by rw [e, e1]; rfl, h, h2⟩, fun ⟨t, e, h, h2⟩ => ⟨[_], t, e, ⟨rfl, h⟩, h2⟩⟩
theorem rp_bool {n : Bool} : Rep.rep w cs (n, y) ↔ ∃ t, cs = .bool n :: t ∧ Rep.rep w t y :=
  ⟨fun ⟨_, t, e, e1, h2⟩ => ⟨t, by rw [e, e1]; rfl, h2⟩, fun ⟨t, e, h2⟩ => ⟨[_], t, e, rfl, h2⟩⟩
theorem rp_str {n : ByteArray} : Rep.rep w cs (n, y) ↔ ∃ t, cs = .string n :: t ∧ n.size ≤ 9223372036854775807 ∧ Rep.rep w t y :=
  ⟨fun ⟨_, t, e, ⟨e1, h⟩, h2⟩ => ⟨t, by rw [e, e1]; rfl, h, h2⟩, fun ⟨t, e, h, h2⟩ => ⟨[_], t, e, ⟨rfl, h⟩, h2⟩⟩
theorem rp_slice {l : List α} : Rep.rep w cs (l, y) ↔ ∃ v t, cs = v :: t ∧ RepS w v l ∧ Rep.rep w t y :=
  ⟨fun ⟨_, t, e, ⟨v, e1, h⟩, h2⟩ => ⟨v, t, by rw [e, e1]; rfl, h, h2⟩, fun ⟨v, t, e, h, h2⟩ => ⟨[_], t, e, ⟨v, rfl, h⟩, h2⟩⟩
theorem rp_struct {x : α} : Rep.rep w cs (x, y) ↔ ∃ c t, cs = c ++ t ∧ Rep.rep w c x ∧ Rep.rep w t y :=
  ⟨fun ⟨c, t, e, h, h2⟩ => ⟨c, t, e, h, h2⟩, fun ⟨c, t, e, h, h2⟩ => ⟨c, t, e, h, h2⟩⟩
theorem ro_int {n : Int} : Rep.own w cs (n, y) fp ↔ ∃ t, cs = .int .i64 n :: t ∧ I64 n ∧ Rep.own w t y fp :=
  ⟨fun ⟨_, t, f, g, e, ⟨⟨e1, h⟩, e2⟩, h2, e3⟩ => ⟨t, by rw [e, e1]; rfl, h, by rw [e3, e2]; exact h2⟩, fun ⟨t, e, h, h2⟩ => ⟨[_], t, [], fp, e, ⟨⟨rfl, h⟩, rfl⟩, h2, rfl⟩⟩
theorem ro_bool {n : Bool} : Rep.own w cs (n, y) fp ↔ ∃ t, cs = .bool n :: t ∧ Rep.own w t y fp :=
  ⟨fun ⟨_, t, f, g, e, ⟨e1, e2⟩, h2, e3⟩ => ⟨t, by rw [e, e1]; rfl, by rw [e3, e2]; exact h2⟩, fun ⟨t, e, h2⟩ => ⟨[_], t, [], fp, e, ⟨rfl, rfl⟩, h2, rfl⟩⟩
theorem ro_str {n : ByteArray} : Rep.own w cs (n, y) fp ↔ ∃ t, cs = .string n :: t ∧ n.size ≤ 9223372036854775807 ∧ Rep.own w t y fp :=
  ⟨fun ⟨_, t, f, g, e, ⟨⟨e1, h⟩, e2⟩, h2, e3⟩ => ⟨t, by rw [e, e1]; rfl, h, by rw [e3, e2]; exact h2⟩, fun ⟨t, e, h, h2⟩ => ⟨[_], t, [], fp, e, ⟨⟨rfl, h⟩, rfl⟩, h2, rfl⟩⟩
theorem ro_slice {l : List α} : Rep.own w cs (l, y) fp ↔ ∃ v t f g, cs = v :: t ∧ OwnS w v l f ∧ Rep.own w t y g ∧ fp = f ++ g :=
  ⟨fun ⟨_, t, f, g, e, ⟨v, e1, h⟩, h2, e3⟩ => ⟨v, t, f, g, by rw [e, e1]; rfl, h, h2, e3⟩, fun ⟨v, t, f, g, e, h, h2, e3⟩ => ⟨[_], t, f, g, e, ⟨v, rfl, h⟩, h2, e3⟩⟩
theorem ro_struct {x : α} : Rep.own w cs (x, y) fp ↔ ∃ c t f g, cs = c ++ t ∧ Rep.own w c x f ∧ Rep.own w t y g ∧ fp = f ++ g :=
  ⟨fun ⟨c, t, f, g, e, h, h2, e3⟩ => ⟨c, t, f, g, e, h, h2, e3⟩, fun ⟨c, t, f, g, e, h, h2, e3⟩ => ⟨c, t, f, g, e, h, h2, e3⟩⟩
end
structure DOp where
  Kind : Int
  A : Int
  B : Int
  C : Int
  Name : ByteArray
  Text : ByteArray
  Dir : ByteArray
  Data : List UInt8
@[reducible] def DOp.prod (x : DOp) : Int × Int × Int × Int × ByteArray × ByteArray × ByteArray × (List UInt8) := (x.Kind, x.A, x.B, x.C, x.Name, x.Text, x.Dir, x.Data)
instance : Rep DOp := Rep.via 32 DOp.prod
theorem DOp.rep_iff {w : World} {cs : List Value} {x : DOp} : Rep.rep w cs x ↔ ∃ v0 : Value, cs = [.int .i64 x.Kind, .int .i64 x.A, .int .i64 x.B, .int .i64 x.C, .string x.Name, .string x.Text, .string x.Dir, v0] ∧ I64 x.Kind ∧ I64 x.A ∧ I64 x.B ∧ I64 x.C ∧ x.Name.size ≤ 9223372036854775807 ∧ x.Text.size ≤ 9223372036854775807 ∧ x.Dir.size ≤ 9223372036854775807 ∧ RepS w v0 x.Data := by
  constructor
  · rintro ⟨_, _, rfl, ⟨rfl, h0⟩, ⟨_, _, rfl, ⟨rfl, h1⟩, ⟨_, _, rfl, ⟨rfl, h2⟩, ⟨_, _, rfl, ⟨rfl, h3⟩, ⟨_, _, rfl, ⟨rfl, h4⟩, ⟨_, _, rfl, ⟨rfl, h5⟩, ⟨_, _, rfl, ⟨rfl, h6⟩, ⟨v0, rfl, h7⟩⟩⟩⟩⟩⟩⟩⟩
    exact ⟨v0, rfl, h0, h1, h2, h3, h4, h5, h6, h7⟩
  · rintro ⟨v0, rfl, h0, h1, h2, h3, h4, h5, h6, h7⟩
    exact ⟨[_], _, rfl, ⟨rfl, h0⟩, ⟨[_], _, rfl, ⟨rfl, h1⟩, ⟨[_], _, rfl, ⟨rfl, h2⟩, ⟨[_], _, rfl, ⟨rfl, h3⟩, ⟨[_], _, rfl, ⟨rfl, h4⟩, ⟨[_], _, rfl, ⟨rfl, h5⟩, ⟨[_], _, rfl, ⟨rfl, h6⟩, ⟨v0, rfl, h7⟩⟩⟩⟩⟩⟩⟩⟩
theorem DOp.own_iff {w : World} {cs : List Value} {x : DOp} {fp : List Nat} : Rep.own w cs x fp ↔ ∃ v0 : Value, cs = [.int .i64 x.Kind, .int .i64 x.A, .int .i64 x.B, .int .i64 x.C, .string x.Name, .string x.Text, .string x.Dir, v0] ∧ I64 x.Kind ∧ I64 x.A ∧ I64 x.B ∧ I64 x.C ∧ x.Name.size ≤ 9223372036854775807 ∧ x.Text.size ≤ 9223372036854775807 ∧ x.Dir.size ≤ 9223372036854775807 ∧ OwnS w v0 x.Data fp := by
  constructor
  · rintro ⟨_, _, _, _, rfl, ⟨⟨rfl, h0⟩, rfl⟩, ⟨_, _, _, _, rfl, ⟨⟨rfl, h1⟩, rfl⟩, ⟨_, _, _, _, rfl, ⟨⟨rfl, h2⟩, rfl⟩, ⟨_, _, _, _, rfl, ⟨⟨rfl, h3⟩, rfl⟩, ⟨_, _, _, _, rfl, ⟨⟨rfl, h4⟩, rfl⟩, ⟨_, _, _, _, rfl, ⟨⟨rfl, h5⟩, rfl⟩, ⟨_, _, _, _, rfl, ⟨⟨rfl, h6⟩, rfl⟩, ⟨v0, rfl, h7⟩, rfl⟩, rfl⟩, rfl⟩, rfl⟩, rfl⟩, rfl⟩, rfl⟩
    exact ⟨v0, rfl, h0, h1, h2, h3, h4, h5, h6, (by simpa using h7)⟩
  · rintro ⟨v0, rfl, h0, h1, h2, h3, h4, h5, h6, h7⟩
    exact ⟨[_], _, [], fp, rfl, ⟨⟨rfl, h0⟩, rfl⟩, ⟨[_], _, [], fp, rfl, ⟨⟨rfl, h1⟩, rfl⟩, ⟨[_], _, [], fp, rfl, ⟨⟨rfl, h2⟩, rfl⟩, ⟨[_], _, [], fp, rfl, ⟨⟨rfl, h3⟩, rfl⟩, ⟨[_], _, [], fp, rfl, ⟨⟨rfl, h4⟩, rfl⟩, ⟨[_], _, [], fp, rfl, ⟨⟨rfl, h5⟩, rfl⟩, ⟨[_], _, [], fp, rfl, ⟨⟨rfl, h6⟩, rfl⟩, ⟨v0, rfl, h7⟩, by simp⟩, by simp⟩, by simp⟩, by simp⟩, by simp⟩, by simp⟩, by simp⟩
theorem DOp.shape {w : World} {cs : List Value} {x : DOp} (h : Rep.rep w cs x) : ∃ a0 : Option Addr, ∃ n0 c0 : Nat, cs = [.int .i64 x.Kind, .int .i64 x.A, .int .i64 x.B, .int .i64 x.C, .string x.Name, .string x.Text, .string x.Dir, .slice a0 n0 c0] := by
  obtain ⟨v0, rfl, h0, h1, h2, h3, h4, h5, h6, h7⟩ := DOp.rep_iff.1 h
  obtain ⟨a0, n0, c0, rfl⟩ := h7.shape
  exact ⟨a0, n0, c0, rfl⟩
structure DStep where
  Kind : Int
  A : Int
  B : Int
  Text : ByteArray
  Data : List UInt8
  Cuts : List Int
@[reducible] def DStep.prod (x : DStep) : Int × Int × Int × ByteArray × (List UInt8) × (List Int) := (x.Kind, x.A, x.B, x.Text, x.Data, x.Cuts)
instance : Rep DStep := Rep.via 25 DStep.prod
theorem DStep.rep_iff {w : World} {cs : List Value} {x : DStep} : Rep.rep w cs x ↔ ∃ v0 v1 : Value, cs = [.int .i64 x.Kind, .int .i64 x.A, .int .i64 x.B, .string x.Text, v0, v1] ∧ I64 x.Kind ∧ I64 x.A ∧ I64 x.B ∧ x.Text.size ≤ 9223372036854775807 ∧ RepS w v0 x.Data ∧ RepS w v1 x.Cuts := by
  constructor
  · rintro ⟨_, _, rfl, ⟨rfl, h0⟩, ⟨_, _, rfl, ⟨rfl, h1⟩, ⟨_, _, rfl, ⟨rfl, h2⟩, ⟨_, _, rfl, ⟨rfl, h3⟩, ⟨_, _, rfl, ⟨v0, rfl, h4⟩, ⟨v1, rfl, h5⟩⟩⟩⟩⟩⟩
    exact ⟨v0, v1, rfl, h0, h1, h2, h3, h4, h5⟩
  · rintro ⟨v0, v1, rfl, h0, h1, h2, h3, h4, h5⟩
    exact ⟨[_], _, rfl, ⟨rfl, h0⟩, ⟨[_], _, rfl, ⟨rfl, h1⟩, ⟨[_], _, rfl, ⟨rfl, h2⟩, ⟨[_], _, rfl, ⟨rfl, h3⟩, ⟨[_], _, rfl, ⟨v0, rfl, h4⟩, ⟨v1, rfl, h5⟩⟩⟩⟩⟩⟩
theorem DStep.own_iff {w : World} {cs : List Value} {x : DStep} {fp : List Nat} : Rep.own w cs x fp ↔ ∃ v0 v1 : Value, ∃ f0 f1 : List Nat, cs = [.int .i64 x.Kind, .int .i64 x.A, .int .i64 x.B, .string x.Text, v0, v1] ∧ I64 x.Kind ∧ I64 x.A ∧ I64 x.B ∧ x.Text.size ≤ 9223372036854775807 ∧ OwnS w v0 x.Data f0 ∧ OwnS w v1 x.Cuts f1 ∧ fp = (f0 ++ f1) := by
  constructor
  · rintro ⟨_, _, _, _, rfl, ⟨⟨rfl, h0⟩, rfl⟩, ⟨_, _, _, _, rfl, ⟨⟨rfl, h1⟩, rfl⟩, ⟨_, _, _, _, rfl, ⟨⟨rfl, h2⟩, rfl⟩, ⟨_, _, _, _, rfl, ⟨⟨rfl, h3⟩, rfl⟩, ⟨_, _, _, _, rfl, ⟨v0, rfl, h4⟩, ⟨v1, rfl, h5⟩, rfl⟩, rfl⟩, rfl⟩, rfl⟩, rfl⟩
    exact ⟨v0, v1, _, _, rfl, h0, h1, h2, h3, h4, h5, by simp⟩
  · rintro ⟨v0, v1, f0, f1, rfl, h0, h1, h2, h3, h4, h5, rfl⟩
    exact ⟨[_], _, [], (f0 ++ f1), rfl, ⟨⟨rfl, h0⟩, rfl⟩, ⟨[_], _, [], (f0 ++ f1), rfl, ⟨⟨rfl, h1⟩, rfl⟩, ⟨[_], _, [], (f0 ++ f1), rfl, ⟨⟨rfl, h2⟩, rfl⟩, ⟨[_], _, [], (f0 ++ f1), rfl, ⟨⟨rfl, h3⟩, rfl⟩, ⟨[_], _, f0, f1, rfl, ⟨v0, rfl, h4⟩, ⟨v1, rfl, h5⟩, by simp⟩, by simp⟩, by simp⟩, by simp⟩, by simp⟩
theorem DStep.shape {w : World} {cs : List Value} {x : DStep} (h : Rep.rep w cs x) : ∃ a0 a1 : Option Addr, ∃ n0 c0 n1 c1 : Nat, cs = [.int .i64 x.Kind, .int .i64 x.A, .int .i64 x.B, .string x.Text, .slice a0 n0 c0, .slice a1 n1 c1] := by
  obtain ⟨v0, v1, rfl, h0, h1, h2, h3, h4, h5⟩ := DStep.rep_iff.1 h
  obtain ⟨a0, n0, c0, rfl⟩ := h4.shape
  obtain ⟨a1, n1, c1, rfl⟩ := h5.shape
  exact ⟨a0, a1, n0, c0, n1, c1, rfl⟩
end Go.Mux
