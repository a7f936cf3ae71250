/- The walks of Ends, the program's and the reference's. -/
import Derived.Test.YtlkadeaomjoiiaaDoorFnView
import Derived.Test.YtlkadeaomjoiiaaDoorFnNum
import Derived.Test.YtlkadeaomjoiiaaDoorConv
import Derived.Test.YtlkadeaomjoiiaaDoorLawBase
set_option linter.unusedSimpArgs false
set_option linter.unusedVariables false
namespace Go.Mux
open Go.RowKit
@[irreducible] def gotoText (x y : Int) : ByteArray := ((((⟨#[27, 91]⟩ : ByteArray) ++ numText (y + 1)) ++ ⟨#[59]⟩) ++ numText (x + 1)) ++ ⟨#[72]⟩
theorem size_lit (a : Array UInt8) : (⟨a⟩ : ByteArray).size = a.size := rfl
theorem gotoText_size (x y : Int) : (gotoText x y).size ≤ 24 := by
  have h1 := numText_size (y + 1)
  have h2 := numText_size (x + 1)
  unfold gotoText
  simp only [ByteArray.size_append, size_lit, List.size_toArray, List.length_cons, List.length_nil]
  omega
@[irreducible] def viewEnds (x : DView) : ByteArray := ((⟨#[27, 91, 48, 109]⟩ : ByteArray) ++ gotoText x.X x.Y) ++ (if x.Hide then ⟨#[27, 91, 63, 50, 53, 108]⟩ else ⟨#[27, 91, 63, 50, 53, 104]⟩)
theorem viewEnds_size (x : DView) : (viewEnds x).size ≤ 40 := by
  have h1 := gotoText_size x.X x.Y
  unfold viewEnds
  split <;> simp only [ByteArray.size_append, size_lit, List.size_toArray, List.length_cons, List.length_nil] <;> omega
@[irreducible] def ends (x : DView) : List UInt8 := if viewOk x then (viewEnds x).data.toList else []
theorem viewOk_at {x : DView} (h : viewOk x = true) : (0 ≤ x.X ∧ x.X ≤ 1000) ∧ 0 ≤ x.Y ∧ x.Y ≤ 1000 := by
  unfold viewOk at h
  simp only [Bool.and_eq_true] at h
  obtain ⟨hg, hh⟩ := h
  obtain ⟨s1, s2, s3, s4, _⟩ := gridOkB_size hg
  unfold gridHasB at hh
  simp only [Bool.and_eq_true] at hh
  have a := withinB_true.1 hh.1
  have b := withinB_true.1 hh.2
  omega
end Go.Mux
namespace Go.Proofs.YtlkadeaomjoiiaaDoor
open Go.RowKit Go.Mux
set_option maxHeartbeats 400000 in
theorem impl_goText (w : World) (x y : Int) (ht : Tab Tryd.prog w) (hx : 0 ≤ x ∧ x ≤ 1000) (hy : 0 ≤ y ∧ y ≤ 1000) : Calls Tryd.prog 70 #[.int .i64 x, .int .i64 y] w (Gives w fun r _ => r = .string (gotoText x y)) := by
  have hz1 := numText_size (y + 1)
  have hz2 := numText_size (x + 1)
  have hyw : IntKind.i64.wrap (y + 1) = y + 1 := by rw [IntKind.wrap_i64]; omega
  have hxw : IntKind.i64.wrap (x + 1) = x + 1 := by rw [IntKind.wrap_i64]; omega
  have HT := Lib.hid ht
  clear ht
  go_enter Tryd.func70, Tryd.ntmps70
  go_wp2_with fail
  refine (impl_NumText _ _ HT.out).mono ?_
  rintro e W1 ⟨_, rfl, rfl, hb⟩
  have HB1 := Lib.hid hb
  have HT1 := Lib.hid (HT.out.mono hb)
  clear hb
  go_wp2_with fail
  refine (impl_NumText _ _ HT1.out).mono ?_
  rintro e W2 ⟨_, rfl, rfl, hb⟩
  have HB2 := Lib.hid (bel_next HB1.out hb)
  clear hb
  go_wp2_with fail
  go_ret
  exact ⟨_, rfl, (by show _ = _; unfold gotoText; rfl), HB2.out⟩
set_option maxHeartbeats 400000 in
theorem spec_l20Goto (w : World) (x y : Int) (hx : 0 ≤ x ∧ x ≤ 1000) (hy : 0 ≤ y ∧ y ≤ 1000) : Calls Tryd.prog 64 #[.int .i64 x, .int .i64 y] w (Gives w fun r _ => r = .string (gotoText x y)) := by
  have hz1 := numText_size (y + 1)
  have hz2 := numText_size (x + 1)
  have hyw : IntKind.i64.wrap (y + 1) = y + 1 := by rw [IntKind.wrap_i64]; omega
  have hxw : IntKind.i64.wrap (x + 1) = x + 1 := by rw [IntKind.wrap_i64]; omega
  go_enter Tryd.func64, Tryd.ntmps64
  go_wp2_with fail
  refine (spec_NumText _ _).mono ?_
  rintro e W1 ⟨_, rfl, rfl, hb⟩
  have HB1 := Lib.hid hb
  clear hb
  go_wp2_with fail
  refine (spec_NumText _ _).mono ?_
  rintro e W2 ⟨_, rfl, rfl, hb⟩
  have HB2 := Lib.hid (bel_next HB1.out hb)
  clear hb
  go_wp2_with fail
  go_ret
  exact ⟨_, rfl, (by show _ = _; unfold gotoText; rfl), HB2.out⟩
set_option maxHeartbeats 400000 in
theorem impl_View_ends (w : World) (cs : List Value) (x : DView) (h : Rep.rep w cs x) (ht : Tab Tryd.prog w) (hx : 0 ≤ x.X ∧ x.X ≤ 1000) (hy : 0 ≤ x.Y ∧ x.Y ≤ 1000) : Calls Tryd.prog 38 #[.agg cs.toArray] w (Gives w fun r _ => r = .string (viewEnds x)) := by
  obtain ⟨a0, n0, c0, rfl⟩ := DView.shape h
  have hz1 := gotoText_size x.X x.Y
  have HT := Lib.hid ht
  clear ht h
  cases hh : x.Hide
  all_goals
    have HH := Lib.hid hh
    clear hh
    go_enter Tryd.func38, Tryd.ntmps38
    go_wp2_with fail
    refine (impl_goText _ _ _ (HT.out.mono (by repeat (first | (with_reducible exact Below.refl _ _) | (with_reducible assumption) | (with_reducible refine bel_alloc ?_ _) | ((with_reducible refine bel_set ?_ ?_ _); rotate_left; (focus first | (simp; done) | (simp; omega)))))) hx hy).mono ?_
    rintro e W1 ⟨_, rfl, rfl, hb⟩
    have HB1 := Lib.hid (bel_next (show Below w.heap.size w _ from (by repeat (first | (with_reducible exact Below.refl _ _) | (with_reducible assumption) | (with_reducible refine bel_alloc ?_ _) | ((with_reducible refine bel_set ?_ ?_ _); rotate_left; (focus first | (simp; done) | (simp; omega)))))) hb)
    clear hb
    go_wp2_with fail
    go_ret
    exact ⟨_, rfl, (by show _ = _; unfold viewEnds; simp only [HH.out]; rfl), HB1.out⟩
set_option maxRecDepth 100000 in
set_option maxHeartbeats 1000000 in
theorem spec_Ends' (w : World) (cs : List Value) (x : DView) (h : Rep.rep w cs x) : Calls Tryd.prog 32 #[.agg cs.toArray] w (Gives w fun r w' => FreshS w.heap.size w' r (ends x)) := by
  have HP := Lib.hid h
  obtain ⟨a0, n0, c0, rfl⟩ := DView.shape h
  clear h
  have hz1 := gotoText_size x.X x.Y
  have kc := fun (w : World) (s : ByteArray) => Lib.run_convert_string_bytes (P := Tryd.prog) w 9 28 5 s Tryd.underlying9 Tryd.underlying28 Tryd.underlying5
  cases hv : viewOk x
  case false =>
    have HV := Lib.hid hv
    clear hv
    go_enter Tryd.func32, Tryd.ntmps32
    go_wp2_with fail
    refine (spec_ViewOk _ [_, _, _, _, _, _] x (Rep.mono HP.out (by repeat (first | (with_reducible exact Below.refl _ _) | (with_reducible assumption) | (with_reducible refine bel_alloc ?_ _) | ((with_reducible refine bel_set ?_ ?_ _); rotate_left; (focus first | (simp; done) | (simp; omega))))))).mono ?_
    rintro e W1 ⟨_, rfl, rfl, hb⟩
    rw [HV.out]
    have HB1 := Lib.hid (bel_next (show Below w.heap.size w _ from (by repeat (first | (with_reducible exact Below.refl _ _) | (with_reducible assumption) | (with_reducible refine bel_alloc ?_ _) | ((with_reducible refine bel_set ?_ ?_ _); rotate_left; (focus first | (simp; done) | (simp; omega)))))) hb)
    clear hb
    go_wp2_with fail
    go_ret
    exact ⟨_, rfl, ⟨[], (by rw [show ends x = [] by unfold ends; simp [HV.out]]; exact ⟨[], [], ⟨by simp, .inl ⟨rfl, rfl⟩⟩, by simp, rfl, rfl, by simp, by simp [Value.ownBlock]⟩), by simp, by simp⟩, HB1.out⟩
  case true =>
    obtain ⟨hx, hy⟩ := viewOk_at hv
    have HV := Lib.hid hv
    clear hv
    cases hh : x.Hide
    all_goals
      have HE := Lib.hid (show viewEnds x = ((⟨#[27, 91, 48, 109]⟩ : ByteArray) ++ gotoText x.X x.Y) ++ (if x.Hide then ⟨#[27, 91, 63, 50, 53, 108]⟩ else ⟨#[27, 91, 63, 50, 53, 104]⟩) from by unfold viewEnds; rfl)
      rw [hh] at HE
      simp only [if_true, Bool.false_eq_true, if_false] at HE
      rw [hh] at HP
      clear hh
      go_enter Tryd.func32, Tryd.ntmps32
      go_wp2_with fail
      refine (spec_ViewOk _ [_, _, _, _, _, _] x (Rep.mono HP.out (by repeat (first | (with_reducible exact Below.refl _ _) | (with_reducible assumption) | (with_reducible refine bel_alloc ?_ _) | ((with_reducible refine bel_set ?_ ?_ _); rotate_left; (focus first | (simp; done) | (simp; omega))))))).mono ?_
      rintro e W1 ⟨_, rfl, rfl, hb⟩
      rw [HV.out]
      have HB1 := Lib.hid (bel_next (show Below w.heap.size w _ from (by repeat (first | (with_reducible exact Below.refl _ _) | (with_reducible assumption) | (with_reducible refine bel_alloc ?_ _) | ((with_reducible refine bel_set ?_ ?_ _); rotate_left; (focus first | (simp; done) | (simp; omega)))))) hb)
      have cA := fun o => hb.cell (p := ⟨w.heap.size, o, none⟩) (by simp)
      clear hb
      go_wp2_with fail
      refine (spec_l20Goto _ _ _ hx hy).mono ?_
      rintro e W2 ⟨_, rfl, rfl, hb⟩
      have HB2 := Lib.hid (bel_next HB1.out hb)
      clear hb
      go_wp2_with fail
      go_ret
      refine ⟨_, rfl, ?_, bel_next HB2.out (below_bytes _ _ _)⟩
      rw [show ends x = (viewEnds x).data.toList by unfold ends; simp [HV.out]]
      have hF := freshS_bytes W2 (viewEnds x) (by have := viewEnds_size x; omega)
      have hs : (viewEnds x).size = 4 + (gotoText x.X x.Y).size + 6 := by
        rw [HE.out]
        simp only [ByteArray.size_append, size_lit, List.size_toArray, List.length_cons, List.length_nil]
      rw [hs] at hF
      rw [HE.out] at hF ⊢
      obtain ⟨fp, ho, hn, hb⟩ := hF
      exact ⟨fp, ho, hn, fun b hbf => Nat.le_trans HB2.out.size (hb b hbf)⟩
end Go.Proofs.YtlkadeaomjoiiaaDoor
