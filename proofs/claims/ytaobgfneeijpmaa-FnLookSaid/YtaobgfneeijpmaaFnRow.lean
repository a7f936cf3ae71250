/- A grid's row: the walk of the program's (Grid).row. -/
import Derived.Test.YtaobgfneeijpmaaFnGrid
import Derived.Test.YtaobgfneeijpmaaLawBase
set_option linter.unusedSimpArgs false
set_option linter.unusedVariables false
namespace Go.Mux
open Go.RowKit
/-- A stretch of a slice. -/
theorem RepS.sub {α : Type} [Rep α] {w : World} {b off n cap : Nat} {l : List α} (h : RepS w (.slice (some ⟨b, off, none⟩) n cap) l) {i m : Nat} (hm : i + m ≤ l.length) : RepS w (.slice (some ⟨b, off + i * Rep.size α, none⟩) m (cap - i)) ((l.drop i).take m) := by
  obtain ⟨a', cap', e, ⟨h1, h2⟩, hc⟩ := h
  cases e
  have hl : ((l.drop i).take m).length = m := by simp; omega
  refine ⟨_, cap - i, by rw [hl], ⟨by omega, by omega⟩, fun hne => ?_⟩
  obtain ⟨b', off', e, hr⟩ := hc (fun e => hne (by rw [e]; simp))
  cases e
  refine ⟨b, off + i * Rep.size α, rfl, fun j x hx => ?_⟩
  have hj : j < ((l.drop i).take m).length := by rw [List.getElem?_eq_some_iff] at hx; exact hx.1
  rw [List.getElem?_take_of_lt (by omega), List.getElem?_drop] at hx
  obtain ⟨r, hr1, hr2⟩ := hr (i + j) x hx
  refine ⟨r, hr1, fun t u hu => ?_⟩
  have := hr2 t u hu
  rw [Nat.add_mul, ← Nat.add_assoc] at this
  exact this
/-- The y-th row of a grid. -/
@[irreducible] def rowOf (x : DGrid) (y : Int) : List DCell := (x.Cells.drop (y.toNat * x.W.toNat)).take x.W.toNat
theorem row_arith {x : DGrid} {y : Int} (hg : gridOkB x = true) (h0 : 0 ≤ y) (h1 : y < x.H) : ∃ lo m : Nat, x.W = (m : Int) ∧ y * x.W = (lo : Int) ∧ (y + 1) * x.W = ((lo + m : Nat) : Int) ∧ lo + m ≤ x.Cells.length ∧ x.Cells.length ≤ 4000 ∧ 1 ≤ m ∧ m ≤ 120 ∧ rowOf x y = (x.Cells.drop lo).take m := by
  obtain ⟨s1, s2, s3, s4, s5, s6, s7⟩ := gridOkB_size hg
  obtain ⟨j, rfl⟩ : ∃ j : Nat, y = j := ⟨y.toNat, by omega⟩
  obtain ⟨m, hm⟩ : ∃ m : Nat, x.W = m := ⟨x.W.toNat, by omega⟩
  obtain ⟨hh, hh'⟩ : ∃ h : Nat, x.H = h := ⟨x.H.toNat, by omega⟩
  rw [hm, hh'] at s6 s7
  have e7 : x.Cells.length = m * hh := by have h := s7; rw [← Int.natCast_mul] at h; exact Int.ofNat.inj h
  have e6 : m * hh ≤ 4000 := by have h := s6; rw [← Int.natCast_mul] at h; omega
  have hle : (j + 1) * m ≤ hh * m := Nat.mul_le_mul_right _ (by omega)
  rw [Nat.add_mul, Nat.one_mul, Nat.mul_comm hh m] at hle
  refine ⟨j * m, m, hm, by rw [hm, Int.natCast_mul], ?_, by omega, by omega, by omega, by omega, ?_⟩
  · rw [hm, Int.natCast_add, Int.natCast_mul, Int.add_mul, Int.one_mul]
  · unfold rowOf
    rw [hm, Int.toNat_natCast, Int.toNat_natCast]
end Go.Mux
namespace Go.Proofs.Ytaobgfneeijpmaa
open Go.RowKit Go.Mux
set_option maxRecDepth 100000 in
set_option maxHeartbeats 1000000 in
theorem impl_Grid_row (w0 w : World) (cs : List Value) (x : DGrid) (y : Int) (h : Rep.rep w0 cs x) (hg : gridOkB x = true) (h0 : 0 ≤ y) (h1 : y < x.H) : Calls Try.prog 32 #[.agg cs.toArray, .int .i64 y] w (Gives w fun r _ => RepS w0 r (rowOf x y)) := by
  obtain ⟨lo, m, e0, e1, e2, e3, e4, e5, e6, e7⟩ := row_arith hg h0 h1
  obtain ⟨v0, rfl, i0, i1, hc⟩ := DGrid.rep_iff.1 h
  have HS := Lib.hid hc
  obtain ⟨a, cap, rfl, ⟨hl1, hl2⟩, hcc⟩ := hc
  obtain ⟨b, off, rfl, _⟩ := hcc (by intro e; rw [e] at e3; simp at e3; omega)
  obtain ⟨s1, s2, s3, s4, _⟩ := gridOkB_size hg
  have E7 := Lib.hid e7
  have E0 := Lib.hid e0
  have hw1 : IntKind.i64.wrap (y + 1) = y + 1 := by rw [IntKind.wrap_i64]; omega
  have hw2 : IntKind.i64.wrap (y * x.W) = (lo : Int) := by rw [e1, IntKind.wrap_i64]; omega
  have hw3 : IntKind.i64.wrap ((y + 1) * x.W) = ((lo + m : Nat) : Int) := by rw [e2, IntKind.wrap_i64]; omega
  have b1 : lo ≤ lo + m := by omega
  have b2 : lo + m ≤ cap := by omega
  clear h hcc hl1 e0 e1 e2 e7 i0 i1 h0 h1 hg
  go_enter Try.func32, Try.ntmps32
  go_wp2_with fail
  go_ret
  refine ⟨_, rfl, ?_, (by repeat (first | (with_reducible exact Below.refl _ _) | (with_reducible assumption) | (with_reducible refine bel_alloc ?_ _) | ((with_reducible refine bel_set ?_ ?_ _); rotate_left; (focus first | (simp; done) | (simp; omega)))))⟩
  rw [E7.out]
  have hr := HS.out.sub (i := lo) (m := m) e3
  have e : lo + m - lo = m := by omega
  show RepS _ (.slice (some ⟨b, off + lo * 6, none⟩) (lo + m - lo) (cap - lo)) _
  rw [e]
  exact hr
end Go.Proofs.Ytaobgfneeijpmaa
