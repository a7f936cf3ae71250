/- The walks of SgrText, the program's and the reference's. -/
import Derived.Test.YtlkadeaomjoiiaaDoorFnBase
import Derived.Test.YtlkadeaomjoiiaaDoorFnNum
import Derived.Test.YtlkadeaomjoiiaaDoorLawBase
import Derived.Test.YtlkadeaomjoiiaaDoorApp
import Derived.Deep.RegionHeld3
import Derived.Deep.DeepCutAuto
import Derived.Deep.CutRange
import Derived.Deep.Cut
set_option linter.unusedSimpArgs false
set_option linter.unusedVariables false
namespace Go.Mux
open Go.RowKit
@[irreducible] def sgrAdd (s : ByteArray) (p : Bool × ByteArray) : ByteArray := if p.1 then s ++ p.2 else s
@[irreducible] def sgrParts (x : DAttr) : List (Bool × ByteArray) :=
  [(x.Bold, ⟨#[59, 49]⟩), (x.Under, ⟨#[59, 52]⟩), (x.Turn, ⟨#[59, 55]⟩), (decide (0 < x.Fg), (⟨#[59]⟩ : ByteArray) ++ numText (x.Fg + 29)), (decide (0 < x.Bg), (⟨#[59]⟩ : ByteArray) ++ numText (x.Bg + 39))]
@[irreducible] def sgrFold (x : DAttr) (k : Nat) : ByteArray := ((sgrParts x).take k).foldl sgrAdd ⟨#[27, 91, 48]⟩
@[irreducible] def sgrText (x : DAttr) : ByteArray := if attrOkB x then sgrFold x 5 ++ ⟨#[109]⟩ else ByteArray.empty
theorem sgrFold_succ {x : DAttr} {k : Nat} {p : Bool × ByteArray} (h : (sgrParts x)[k]? = some p) : sgrFold x (k + 1) = sgrAdd (sgrFold x k) p := by
  unfold sgrFold
  rw [List.take_add_one, h, List.foldl_append]
  rfl
theorem sgrParts_size {x : DAttr} {k : Nat} {p : Bool × ByteArray} (h : (sgrParts x)[k]? = some p) : p.2.size ≤ 11 := by
  unfold sgrParts at h
  have h1 := numText_size (x.Fg + 29)
  have h2 := numText_size (x.Bg + 39)
  match k, h with
  | 0, h => cases h; show (2 : Nat) ≤ 11; omega
  | 1, h => cases h; show (2 : Nat) ≤ 11; omega
  | 2, h => cases h; show (2 : Nat) ≤ 11; omega
  | 3, h => cases h; simp only [ByteArray.size_append]; show 1 + _ ≤ _; omega
  | 4, h => cases h; simp only [ByteArray.size_append]; show 1 + _ ≤ _; omega
  | k + 5, h => simp at h
theorem sgrFold_size (x : DAttr) : ∀ k, (sgrFold x k).size ≤ 3 + k * 11
  | 0 => by unfold sgrFold; show (3 : Nat) ≤ _; omega
  | k + 1 => by
    have ih := sgrFold_size x k
    cases h : (sgrParts x)[k]? with
    | none =>
      have e : sgrFold x (k + 1) = sgrFold x k := by unfold sgrFold; rw [List.take_add_one, h]; simp
      rw [e]; omega
    | some p =>
      have hp := sgrParts_size h
      rw [sgrFold_succ h]
      unfold sgrAdd
      split
      · rw [ByteArray.size_append]; omega
      · omega
theorem sgr0 (x : DAttr) : sgrFold x 0 = ⟨#[27, 91, 48]⟩ := by unfold sgrFold; rfl
theorem sgr1 (x : DAttr) : sgrFold x 1 = sgrAdd (sgrFold x 0) (x.Bold, ⟨#[59, 49]⟩) := sgrFold_succ (by unfold sgrParts; rfl)
theorem sgr2 (x : DAttr) : sgrFold x 2 = sgrAdd (sgrFold x 1) (x.Under, ⟨#[59, 52]⟩) := sgrFold_succ (by unfold sgrParts; rfl)
theorem sgr3 (x : DAttr) : sgrFold x 3 = sgrAdd (sgrFold x 2) (x.Turn, ⟨#[59, 55]⟩) := sgrFold_succ (by unfold sgrParts; rfl)
theorem sgr4 (x : DAttr) : sgrFold x 4 = sgrAdd (sgrFold x 3) (decide (0 < x.Fg), (⟨#[59]⟩ : ByteArray) ++ numText (x.Fg + 29)) := sgrFold_succ (by unfold sgrParts; rfl)
theorem sgr5 (x : DAttr) : sgrFold x 5 = sgrAdd (sgrFold x 4) (decide (0 < x.Bg), (⟨#[59]⟩ : ByteArray) ++ numText (x.Bg + 39)) := sgrFold_succ (by unfold sgrParts; rfl)
theorem sgrAdd_yes (s t : ByteArray) : sgrAdd s (true, t) = s ++ t := by unfold sgrAdd; rfl
theorem sgrAdd_no (s t : ByteArray) : sgrAdd s (false, t) = s := by unfold sgrAdd; rfl
theorem sgrText_size (x : DAttr) : (sgrText x).size ≤ 64 := by
  have h := sgrFold_size x 5
  unfold sgrText
  split
  · rw [ByteArray.size_append]; show _ + 1 ≤ _; omega
  · exact Nat.zero_le _
theorem attrOk_at {x : DAttr} (h : attrOkB x = true) : (0 ≤ x.Fg ∧ x.Fg ≤ 8) ∧ 0 ≤ x.Bg ∧ x.Bg ≤ 8 := by
  unfold attrOkB at h
  simp only [Bool.and_eq_true] at h
  exact ⟨withinB_true.1 h.1, withinB_true.1 h.2⟩
theorem sgrText_eq {x : DAttr} (h : attrOkB x = true) : sgrText x = sgrFold x 5 ++ ⟨#[109]⟩ := by unfold sgrText; rw [if_pos h]
end Go.Mux
namespace Go.Proofs.YtlkadeaomjoiiaaDoor
open Go.RowKit Go.Mux
set_option maxRecDepth 100000 in
set_option maxHeartbeats 4000000 in
theorem spec_SgrText (w : World) (cs : List Value) (x : DAttr) (h : Rep.rep w cs x) : Calls Tryd.prog 65 #[.agg cs.toArray] w (Gives w fun r _ => r = .string (sgrText x)) := by
  have HP := Lib.hid h
  obtain rfl := DAttr.shape h
  clear h
  cases hA : attrOkB x
  · have HA := Lib.hid hA
    clear hA
    go_enter Tryd.func65, Tryd.ntmps65
    go_wp2_with (go_at_call 96; refine (spec_AttrOk _ [_, _, _, _, _] x (Rep.mono HP.out (by repeat (first | (with_reducible exact Below.refl _ _) | (with_reducible assumption) | (with_reducible refine bel_alloc ?_ _) | ((with_reducible refine bel_set ?_ ?_ _); rotate_left; (focus first | (simp; done) | (simp; omega))))))).mono ?_; rintro e W1 ⟨_, rfl, rfl, hb⟩; rw [HA.out]; have HB1 := Lib.hid (bel_next (show Below w.heap.size w _ from (by repeat (first | (with_reducible exact Below.refl _ _) | (with_reducible assumption) | (with_reducible refine bel_alloc ?_ _) | ((with_reducible refine bel_set ?_ ?_ _); rotate_left; (focus first | (simp; done) | (simp; omega)))))) hb); clear hb)
    go_ret
    exact ⟨_, rfl, (by show _ = _; unfold sgrText; simp [HA.out]; rfl), HB1.out⟩
  · obtain ⟨hf, hg⟩ := attrOk_at hA
    have HE := Lib.hid (sgrText_eq hA)
    have HA := Lib.hid hA
    clear hA
    have hz1 := numText_size (x.Fg + 29)
    have hz2 := numText_size (x.Bg + 39)
    have hw1 : IntKind.i64.wrap (x.Fg + 29) = x.Fg + 29 := by rw [IntKind.wrap_i64]; omega
    have hw2 : IntKind.i64.wrap (x.Bg + 39) = x.Bg + 39 := by rw [IntKind.wrap_i64]; omega
    have hs0 := sgrFold_size x 0
    have hs1 := sgrFold_size x 1
    have hs2 := sgrFold_size x 2
    have hs3 := sgrFold_size x 3
    have hs4 := sgrFold_size x 4
    have hs5 := sgrFold_size x 5
    go_enter Tryd.func65, Tryd.ntmps65
    go_wp2_with fail
    refine (spec_AttrOk _ [_, _, _, _, _] x (Rep.mono HP.out (by repeat (first | (with_reducible exact Below.refl _ _) | (with_reducible assumption) | (with_reducible refine bel_alloc ?_ _) | ((with_reducible refine bel_set ?_ ?_ _); rotate_left; (focus first | (simp; done) | (simp; omega))))))).mono ?_
    rintro e W1 ⟨_, rfl, rfl, hb⟩
    rw [HA.out]
    have HB1 := Lib.hid (bel_next (show Below w.heap.size w _ from (by repeat (first | (with_reducible exact Below.refl _ _) | (with_reducible assumption) | (with_reducible refine bel_alloc ?_ _) | ((with_reducible refine bel_set ?_ ?_ _); rotate_left; (focus first | (simp; done) | (simp; omega)))))) hb)
    have hlt : w.heap.size < W1.heap.size := (by have := hb.size; simp at this; omega)
    obtain ⟨bo, hbo⟩ : ∃ b, b = x.Bold := ⟨_, rfl⟩
    obtain ⟨un, hun⟩ : ∃ b, b = x.Under := ⟨_, rfl⟩
    obtain ⟨tu, htu⟩ : ∃ b, b = x.Turn := ⟨_, rfl⟩
    obtain ⟨fg, hfg⟩ : ∃ b, b = x.Fg := ⟨_, rfl⟩
    obtain ⟨bg, hbg⟩ : ∃ b, b = x.Bg := ⟨_, rfl⟩
    have HB_bo := Lib.hid hbo
    have HB_un := Lib.hid hun
    have HB_tu := Lib.hid htu
    have HB_fg := Lib.hid hfg
    have HB_bg := Lib.hid hbg
    rw [← hfg] at hf hz1 hw1
    rw [← hbg] at hg hz2 hw2
    have c0 : W1.cell? ⟨w.heap.size, 0, none⟩ = some (.int .i64 fg) := by rw [hfg]; exact (hb.cell (p := ⟨w.heap.size, 0, none⟩) (by simp)).trans (by simp)
    have c1 : W1.cell? ⟨w.heap.size, 1, none⟩ = some (.int .i64 bg) := by rw [hbg]; exact (hb.cell (p := ⟨w.heap.size, 1, none⟩) (by simp)).trans (by simp)
    have c2 : W1.cell? ⟨w.heap.size, 2, none⟩ = some (.bool bo) := by rw [hbo]; exact (hb.cell (p := ⟨w.heap.size, 2, none⟩) (by simp)).trans (by simp)
    have c3 : W1.cell? ⟨w.heap.size, 3, none⟩ = some (.bool un) := by rw [hun]; exact (hb.cell (p := ⟨w.heap.size, 3, none⟩) (by simp)).trans (by simp)
    have c4 : W1.cell? ⟨w.heap.size, 4, none⟩ = some (.bool tu) := by rw [htu]; exact (hb.cell (p := ⟨w.heap.size, 4, none⟩) (by simp)).trans (by simp)
    clear hb hbo hun htu hfg hbg
    go_upto_if 8 with fail
    rw [← sgr0 x]
    go_cut [3] from 8 to 10 (fun s wx => s = .string (sgrFold x 1) ∧ W1 = wx)
    case first =>
      cases bo
      all_goals
        go_wp2_with fail
        go_meet
        exact ⟨(by rw [sgr1, ← HB_bo.out]; first | rw [sgrAdd_yes] | rw [sgrAdd_no]), rfl⟩
    case rest =>
    obtain ⟨rfl, rfl⟩ := hcut
    go_upto_if 12 with fail
    skip
    go_cut [3] from 12 to 14 (fun s wx => s = .string (sgrFold x 2) ∧ W1 = wx)
    case first =>
      cases un
      all_goals
        go_wp2_with fail
        go_meet
        exact ⟨(by rw [sgr2, ← HB_un.out]; first | rw [sgrAdd_yes] | rw [sgrAdd_no]), rfl⟩
    case rest =>
    obtain ⟨rfl, rfl⟩ := hcut
    go_upto_if 16 with fail
    skip
    go_cut [3] from 16 to 18 (fun s wx => s = .string (sgrFold x 3) ∧ W1 = wx)
    case first =>
      cases tu
      all_goals
        go_wp2_with fail
        go_meet
        exact ⟨(by rw [sgr3, ← HB_tu.out]; first | rw [sgrAdd_yes] | rw [sgrAdd_no]), rfl⟩
    case rest =>
    obtain ⟨rfl, rfl⟩ := hcut
    go_upto_if 21 with fail
    go_cut [3] from 21 to 28 (fun s wx => s = .string (sgrFold x 4) ∧ Below W1.heap.size W1 wx)
    case first =>
      by_cases h1 : 0 < fg
      · have H1 := Lib.hid h1
        have d1 : decide (0 < fg) = true := decide_eq_true h1
        go_wp2_with fail
        refine (spec_NumText _ _).mono ?_
        rintro e W9 ⟨_, rfl, rfl, hb⟩
        have HB9 := Lib.hid hb
        clear hb
        go_wp2_with fail
        go_meet
        exact ⟨(by rw [sgr4, ← HB_fg.out, decide_eq_true H1.out, sgrAdd_yes, ByteArray.append_assoc]), HB9.out⟩
      · have H1 := Lib.hid h1
        have d1 : decide (0 < fg) = false := decide_eq_false h1
        go_wp2_with fail
        go_meet
        exact ⟨(by rw [sgr4, ← HB_fg.out, decide_eq_false (by have := H1.out; omega), sgrAdd_no]), Below.refl _ _⟩
    case rest =>
    obtain ⟨rfl, hbc⟩ := hcut
    have HBc := Lib.hid hbc
    have hlt2 : w.heap.size < wc.heap.size := by have := hbc.size; omega
    have c1' : wc.cell? ⟨w.heap.size, 1, none⟩ = some (.int .i64 bg) := (hbc.cell (p := ⟨w.heap.size, 1, none⟩) hlt).trans c1
    clear hbc
    obtain ⟨W3, rfl⟩ : ∃ W, W = wc := ⟨_, rfl⟩
    go_upto_if 31 with fail
    go_cut [3] from 31 to 38 (fun s wx => s = .string (sgrFold x 5) ∧ Below W3.heap.size W3 wx)
    case first =>
      by_cases h1 : 0 < bg
      · have H1 := Lib.hid h1
        have d1 : decide (0 < bg) = true := decide_eq_true h1
        go_wp2_with fail
        refine (spec_NumText _ _).mono ?_
        rintro e W9 ⟨_, rfl, rfl, hb⟩
        have HB9 := Lib.hid hb
        clear hb
        go_wp2_with fail
        go_meet
        exact ⟨(by rw [sgr5, ← HB_bg.out, decide_eq_true H1.out, sgrAdd_yes, ByteArray.append_assoc]), HB9.out⟩
      · have H1 := Lib.hid h1
        have d1 : decide (0 < bg) = false := decide_eq_false h1
        go_wp2_with fail
        go_meet
        exact ⟨(by rw [sgr5, ← HB_bg.out, decide_eq_false (by have := H1.out; omega), sgrAdd_no]), Below.refl _ _⟩
    case rest =>
    obtain ⟨rfl, hbc⟩ := hcut
    have HBd := Lib.hid hbc
    clear hbc
    go_wp2_with fail
    go_ret
    exact ⟨_, rfl, (by show _ = _; rw [HE.out]; rfl), bel_next (bel_next HB1.out HBc.out) HBd.out⟩
end Go.Proofs.YtlkadeaomjoiiaaDoor
