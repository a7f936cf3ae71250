/- The walk of the program's Look. -/
import Derived.Test.YtaobgfneeijpmaaFnScrI
import Derived.Test.YtaobgfneeijpmaaFnGridOf
import Derived.Test.YtaobgfneeijpmaaFlatApp
import Derived.Test.YtaobgfneeijpmaaExt
import Derived.Deep.RegionHeld3
set_option linter.unusedSimpArgs false
set_option linter.unusedVariables false
namespace Go.Mux
open Go.RowKit
/-- A slice of cells as an element, whatever it points to. -/
structure VS where
  v : Value
instance : Rep VS where
  tid := 23
  size := 1
  rep _ cs x := cs = [x.v] ∧ x.v.oneCell' = true
  own _ cs x fp := (cs = [x.v] ∧ x.v.oneCell' = true) ∧ fp = []
  len := by rintro w cs x ⟨rfl, _⟩; rfl
  one := by rintro w cs x ⟨rfl, h⟩ u hu; rw [List.mem_singleton] at hu; rw [hu]; exact h
  mono := fun h _ => h
  ownRep := fun h => h.1
  ownMono := fun h _ => h
  ownLt := by rintro w cs x fp ⟨_, rfl⟩ b hb; cases hb
instance : Flat VS := ⟨fun h => ⟨h, rfl⟩⟩
theorem fresh_moved {α : Type} [Rep α] {B g : Nat} {W W1 : World} {cs : List Value} {x : α} (h : Fresh B W cs x) (hM : Moved g W W1) (hg : g < B) : Fresh B W1 cs x := by
  obtain ⟨fp, ho, hn, hb⟩ := h
  exact ⟨fp, Rep.ownMono ho (fun b hbf => hM.other b (by have := hb b hbf; omega)), hn, hb⟩
theorem fresh_le {α : Type} [Rep α] {B B' : Nat} {W : World} {cs : List Value} {x : α} (h : Fresh B W cs x) (hB : B' ≤ B) : Fresh B' W cs x := by
  obtain ⟨fp, ho, hn, hb⟩ := h
  exact ⟨fp, ho, hn, fun b hbf => Nat.le_trans hB (hb b hbf)⟩
theorem vs_lit (w : World) (u : Value) (h : u.oneCell' = true) : RepS (w.alloc (.cells #[u] 23)) (.slice (some ⟨w.heap.size, 0, none⟩) 1 1) [VS.mk u] :=
  (freshS_lit (α := VS) rfl w [⟨u⟩] [u] 23 rfl rfl (by simp) (fun i x v hx hv w' => by
    cases i with
    | zero => simp at hx hv; subst hx hv; exact ⟨rfl, h⟩
    | succ i => simp at hx)).repS
theorem vs_lit_at {w : World} {u : Value} {g : Nat} (hg : g = w.heap.size) (h : u.oneCell' = true) : RepS (w.alloc (.cells #[u] 23)) (.slice (some ⟨g, 0, none⟩) 1 1) [VS.mk u] := by
  subst hg
  exact vs_lit w u h
/-- A row, as wide as is asked: cut, or filled with blanks. -/
@[irreducible] def fillRow (n : Nat) (l : List DCell) : List DCell := l.take n ++ List.replicate (n - l.length) blankC
/-- All rows of a screen, those that scrolled out first. -/
@[irreducible] def lookAll (x : DScr) : List DCell := (x.Back.map fun r => fillRow x.W.toNat r.Cells).flatten ++ x.Main.Cells
@[irreducible] def lookFrom (x : DScr) (back : Int) : Nat := x.Back.length - min back.toNat x.Back.length
def shownG (x : DScr) : DGrid := if x.OnAlt then x.Alt else x.Main
@[irreducible] def lookBack (x : DScr) (back : Int) : DGrid := { W := x.W, H := x.H, Cells := ((lookAll x).drop (lookFrom x back * x.W.toNat)).take (x.W.toNat * x.H.toNat) }
@[irreducible] def lookG (x : DScr) (back : Int) : DGrid := if scrOkB x then (if x.OnAlt || decide (back ≤ 0) then shownG x else lookBack x back) else { W := 0, H := 0, Cells := [] }
end Go.Mux
namespace Go.Proofs.Ytaobgfneeijpmaa
open Go.RowKit Go.Mux
set_option maxRecDepth 100000 in
set_option maxHeartbeats 1000000 in
theorem impl_copyGrid (w : World) (cs : List Value) (x : DGrid) (h : Rep.rep w cs x) (hl : x.Cells.length ≤ 2097152) : Calls Try.prog 25 #[.agg cs.toArray] w (Gives w fun r w' => ∃ cs', r = .agg cs'.toArray ∧ Fresh w.heap.size w' cs' x) := by
  obtain ⟨v0, rfl, h0, h1, h2⟩ := DGrid.rep_iff.1 h
  clear h
  have HR1 := Lib.hid h2
  have HI := Lib.hid h0
  have HJ := Lib.hid h1
  obtain ⟨p0, m0, q0, rfl⟩ := h2.shape
  clear h0 h1 h2
  go_enter Try.func25, Try.ntmps25
  go_wp2_with fail
  go_region_held3 (fun w' => w'.cell? ⟨w.heap.size, 0, none⟩ = some (.int .i64 x.W) ∧ w'.cell? ⟨w.heap.size, 1, none⟩ = some (.int .i64 x.H) ∧ w'.cell? ⟨w.heap.size, 2, none⟩ = some (.slice p0 m0 q0)) ((first | (with_reducible exact ⟨kA0, kA1, kA2⟩) | go_keep))
    (first
      | (go_at_call 63; refine (clone_Cell _ _ x.Cells (HR1.out.mono (show Below w.heap.size w _ from Below.drew (by repeat (first | (with_reducible exact Below.refl _ _) | (with_reducible assumption) | (with_reducible refine bel_alloc ?_ _) | ((with_reducible refine bel_set ?_ ?_ _); rotate_left; (focus first | (simp; done) | (simp; omega))))))) (by omega)).mono ?_; rintro e W0 ⟨_, rfl, HF, hb⟩; have kA0 : W0.cell? ⟨w.heap.size, 0, none⟩ = some (.int .i64 x.W) := (hb.cell (p := ⟨w.heap.size, 0, none⟩) (by simp; omega)).trans (by simp); have kA1 : W0.cell? ⟨w.heap.size, 1, none⟩ = some (.int .i64 x.H) := (hb.cell (p := ⟨w.heap.size, 1, none⟩) (by simp; omega)).trans (by simp); have kA2 : W0.cell? ⟨w.heap.size, 2, none⟩ = some (.slice p0 m0 q0) := (hb.cell (p := ⟨w.heap.size, 2, none⟩) (by simp; omega)).trans (by simp); obtain ⟨a0, n0, c0, rfl⟩ := HF.repS.shape; have HF0 := Lib.hid (HF.frIn.wide (lo' := w.heap.size + 2) (hi' := W0.heap.size) (by first | (simp; done) | (simp; omega) | omega) (Nat.le_refl _)); have HB0 := Lib.hid (bel_next (show Below w.heap.size w _ from Below.drew (by repeat (first | (with_reducible exact Below.refl _ _) | (with_reducible assumption) | (with_reducible refine bel_alloc ?_ _) | ((with_reducible refine bel_set ?_ ?_ _); rotate_left; (focus first | (simp; done) | (simp; omega)))))) hb); have hc0 := bel_cell hb; have hf0 := bel_frozen hb; have hz0 := hb.size; simp only [World.size_alloc, drew_size] at hz0; have hy0 : w.heap.size + 1 < W0.heap.size := (by omega); have hx0 : w.heap.size < W0.heap.size := (by omega); clear hb HF))
  go_wp2_with fail
  refine bodyPost_ret (v := .agg #[.int .i64 x.W, .int .i64 x.H, .slice a0 n0 c0]) (by simp [results, Try.results25, go_sem, hc0, hf0, hy0, hx0]) rfl ⟨_, rfl, ⟨_, rfl, ?_⟩, (by have hB := HB0.out; repeat (first | (with_reducible assumption) | ((with_reducible refine bel_set ?_ ?_ _); rotate_left; (focus first | (simp; done) | (simp; omega)))))⟩
  exact FrIn.fresh (lo := w.heap.size + 2) (hi := W0.heap.size) (FrIn.consFlat (c1 := [_]) ⟨⟨rfl, HI.out⟩, rfl⟩ (FrIn.consFlat (c1 := [_]) ⟨⟨rfl, HJ.out⟩, rfl⟩ (show FrIn (α := List DCell) (w.heap.size + 2) W0.heap.size _ [_] x.Cells from by repeat (first | (with_reducible exact HF0.out) | ((with_reducible refine FrIn.set ?_ (Or.inl ?_) _); rotate_left; (focus first | (simp; done) | (simp; omega) | omega)))))) (by first | (simp; done) | (simp; omega) | omega)
set_option maxHeartbeats 400000 in
theorem impl_shown (w : World) (g : Nat) (b : Bool) (h : w.cell? ⟨g, 8, none⟩ = some (.bool b)) : Calls Try.prog 26 #[.pointer (some ⟨g, 0, none⟩)] w (Pure w (.pointer (some ⟨g, if b then 5 else 2, none⟩))) := by
  cases b
  all_goals
    go_enter Try.func26, Try.ntmps26
    go_wp2
    go_ret
    exact ⟨rfl, rfl⟩
set_option maxRecDepth 100000 in
set_option maxHeartbeats 1000000 in
theorem impl_look_shown (w : World) (g : Nat) (cs : List Value) (x : DScr) (back : Int) (h : Rep.rep w cs x) (hbox : w.heap[g]? = some (.cells cs.toArray 31 (0, 0))) (hg : scrOkB x = true) (hs : (x.OnAlt || decide (back ≤ 0)) = true) :
    Calls Try.prog 24 #[.pointer (some ⟨g, 0, none⟩), .int .i64 back] w (Gives w fun r w' => ∃ cs', r = .agg cs'.toArray ∧ Fresh w.heap.size w' cs' (shownG x)) := by
  obtain ⟨v0, v1, v2, v3, rfl, h0, h1, h2, h3, h4, h5, h6, h7, h8, h9, h10, h11, h12, h13, h14, h15, h16, h17, h18, h19, h20⟩ := DScr.rep_iff.1 h
  have HM := Lib.hid (fun (W : World) (hb : Below w.heap.size w W) => (DGrid.rep_iff (w := W) (x := x.Main)).2 ⟨v0, rfl, h2, h3, h4.mono hb⟩)
  have HA := Lib.hid (fun (W : World) (hb : Below w.heap.size w W) => (DGrid.rep_iff (w := W) (x := x.Alt)).2 ⟨v1, rfl, h5, h6, h7.mono hb⟩)
  obtain ⟨a0, n0, c0, rfl⟩ := h4.shape
  obtain ⟨a1, n1, c1, rfl⟩ := h7.shape
  clear h h0 h1 h2 h3 h4 h5 h6 h7 h8 h9 h10 h11 h12 h13 h14 h15 h16 h17 h18 h19 h20
  have q := scrOkB_true hg
  obtain ⟨_, _, _, _, _, m6, m7⟩ := gridOkB_size q.2.2.2.2.1
  obtain ⟨_, _, _, _, _, n6, n7⟩ := gridOkB_size q.2.2.2.2.2.1
  have hlM : x.Main.Cells.length ≤ 2097152 := by omega
  have hlA : x.Alt.Cells.length ≤ 2097152 := by omega
  have hgl : g < w.heap.size := (Array.getElem?_eq_some_iff.1 hbox).1
  have b2 : w.cell? ⟨g, 2, none⟩ = some (.int .i64 x.Main.W) := by simp only [World.cell?, hbox]; rfl
  have b3 : w.cell? ⟨g, 3, none⟩ = some (.int .i64 x.Main.H) := by simp only [World.cell?, hbox]; rfl
  have b4 : w.cell? ⟨g, 4, none⟩ = some (.slice a0 n0 c0) := by simp only [World.cell?, hbox]; rfl
  have b5 : w.cell? ⟨g, 5, none⟩ = some (.int .i64 x.Alt.W) := by simp only [World.cell?, hbox]; rfl
  have b6 : w.cell? ⟨g, 6, none⟩ = some (.int .i64 x.Alt.H) := by simp only [World.cell?, hbox]; rfl
  have b7 : w.cell? ⟨g, 7, none⟩ = some (.slice a1 n1 c1) := by simp only [World.cell?, hbox]; rfl
  have b8 : w.cell? ⟨g, 8, none⟩ = some (.bool x.OnAlt) := by simp only [World.cell?, hbox]; rfl
  clear q m6 m7 n6 n7 hbox hg
  cases ho : x.OnAlt
  · rw [ho] at hs b8
    have hd : decide (back ≤ 0) = true := by simpa using hs
    have HS := Lib.hid (show shownG x = x.Main from by unfold shownG; rw [ho]; rfl)
    clear hs ho
    go_enter Try.func24, Try.ntmps24
    go_wp2_with fail
    generalize hwb : World.alloc w _ = W0
    have HB0 := Lib.hid (show Below w.heap.size w W0 from by rw [← hwb]; exact bel_alloc (Below.refl _ _) _)
    have hz0 : w.heap.size < W0.heap.size := by rw [← hwb]; simp
    have hr0 : W0.heap[w.heap.size]? = some (.cells #[.int .i64 0, .int .i64 0, .slice none 0 0] 25 (0, 0)) := by rw [← hwb]; exact new_at _ _ rfl
    have kA := fun o => HB0.out.cell (p := ⟨g, o, none⟩) hgl
    clear hwb
    refine (impl_shown _ g false ((kA 8).trans b8)).mono ?_
    rintro e w' ⟨rfl, rfl⟩
    go_wp2_with fail
    refine (impl_copyGrid _ [_, _, _] x.Main (HM.out _ HB0.out) hlM).mono ?_
    rintro e W1 ⟨_, rfl, ⟨cs1, rfl, HF⟩, hb⟩
    obtain ⟨a2, n2, c2, rfl⟩ := DGrid.shape HF.rep
    have HF1 := Lib.hid HF
    have HB1 := Lib.hid (bel_next HB0.out hb)
    have hr1 := (hb.block w.heap.size hz0).trans hr0
    clear hb HF hr0 kA
    go_wp2_with ((with_reducible (show wpList _ _ _ (Oper.mk _ (Op.store 25 _ _) _ _ _ _ :: _) _ _)); refine wpList_store_at rfl 25 _ _ rfl w.heap.size 0 rfl _ rfl [.int .i64 x.Main.W, .int .i64 x.Main.H, .slice a2 n2 c2] rfl #[.int .i64 0, .int .i64 0, .slice none 0 0] 25 hr1 (Nat.le_of_ble_eq_true rfl) (by simp [Value.oneCell']) size_implGrid ?_; intro W3 hW; have hM := Moved.row hW; have hr3 : W3.heap[w.heap.size]? = some (.cells #[.int .i64 x.Main.W, .int .i64 x.Main.H, .slice a2 n2 c2] 25 (0, 0)) := (by rw [hW, setRow_heap _ _ _ _ _ _ hr1]; rfl); clear hW)
    exact bodyPost_ret (results_cell_row Try.results24 _ _ w.heap.size 25 #[.int .i64 x.Main.W, .int .i64 x.Main.H, .slice a2 n2 c2] (0, 0) _ rfl hr3 Try.underlying25 rfl size_implGrid) rfl ⟨_, rfl, ⟨_, rfl, by rw [HS.out]; exact fresh_le (fresh_moved HF1.out hM hz0) (Nat.le_of_lt hz0)⟩, hM.below HB1.out (Nat.le_refl _)⟩
  · rw [ho] at b8
    have HS := Lib.hid (show shownG x = x.Alt from by unfold shownG; rw [ho]; rfl)
    clear hs ho
    go_enter Try.func24, Try.ntmps24
    go_wp2_with fail
    generalize hwb : World.alloc w _ = W0
    have HB0 := Lib.hid (show Below w.heap.size w W0 from by rw [← hwb]; exact bel_alloc (Below.refl _ _) _)
    have hz0 : w.heap.size < W0.heap.size := by rw [← hwb]; simp
    have hr0 : W0.heap[w.heap.size]? = some (.cells #[.int .i64 0, .int .i64 0, .slice none 0 0] 25 (0, 0)) := by rw [← hwb]; exact new_at _ _ rfl
    have kA := fun o => HB0.out.cell (p := ⟨g, o, none⟩) hgl
    clear hwb
    refine (impl_shown _ g true ((kA 8).trans b8)).mono ?_
    rintro e w' ⟨rfl, rfl⟩
    go_wp2_with fail
    refine (impl_copyGrid _ [_, _, _] x.Alt (HA.out _ HB0.out) hlA).mono ?_
    rintro e W1 ⟨_, rfl, ⟨cs1, rfl, HF⟩, hb⟩
    obtain ⟨a2, n2, c2, rfl⟩ := DGrid.shape HF.rep
    have HF1 := Lib.hid HF
    have HB1 := Lib.hid (bel_next HB0.out hb)
    have hr1 := (hb.block w.heap.size hz0).trans hr0
    clear hb HF hr0 kA
    go_wp2_with ((with_reducible (show wpList _ _ _ (Oper.mk _ (Op.store 25 _ _) _ _ _ _ :: _) _ _)); refine wpList_store_at rfl 25 _ _ rfl w.heap.size 0 rfl _ rfl [.int .i64 x.Alt.W, .int .i64 x.Alt.H, .slice a2 n2 c2] rfl #[.int .i64 0, .int .i64 0, .slice none 0 0] 25 hr1 (Nat.le_of_ble_eq_true rfl) (by simp [Value.oneCell']) size_implGrid ?_; intro W3 hW; have hM := Moved.row hW; have hr3 : W3.heap[w.heap.size]? = some (.cells #[.int .i64 x.Alt.W, .int .i64 x.Alt.H, .slice a2 n2 c2] 25 (0, 0)) := (by rw [hW, setRow_heap _ _ _ _ _ _ hr1]; rfl); clear hW)
    exact bodyPost_ret (results_cell_row Try.results24 _ _ w.heap.size 25 #[.int .i64 x.Alt.W, .int .i64 x.Alt.H, .slice a2 n2 c2] (0, 0) _ rfl hr3 Try.underlying25 rfl size_implGrid) rfl ⟨_, rfl, ⟨_, rfl, by rw [HS.out]; exact fresh_le (fresh_moved HF1.out hM hz0) (Nat.le_of_lt hz0)⟩, hM.below HB1.out (Nat.le_refl _)⟩
end Go.Proofs.Ytaobgfneeijpmaa
