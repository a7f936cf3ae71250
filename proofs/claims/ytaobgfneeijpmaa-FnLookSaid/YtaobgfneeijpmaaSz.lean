/- How many places and letters a datum holds, as the laws' size functions count them; their walks. -/
import Derived.Test.YtaobgfneeijpmaaInts
set_option linter.unusedSimpArgs false
set_option linter.unusedVariables false
namespace Go.Mux
@[irreducible] def DGrid.bulk (x : DGrid) : Nat := x.Cells.length
@[irreducible] def DRow.bulk (x : DRow) : Nat := x.Cells.length
@[irreducible] def DScr.bulk (x : DScr) : Nat := x.Main.bulk + x.Alt.bulk + x.Tabs.length + (x.Back.length + (x.Back.map DRow.bulk).sum)
end Go.Mux
namespace Go.Proofs.Ytaobgfneeijpmaa
open Go.RowKit Go.Mux
theorem sum_take_le {α : Type} (f : α → Nat) (l : List α) (k : Nat) : ((l.take k).map f).sum ≤ (l.map f).sum := by
  rw [show (l.map f).sum = ((l.take k ++ l.drop k).map f).sum by rw [List.take_append_drop], List.map_append, List.sum_append]
  omega
theorem sum_take_succ {α : Type} (f : α → Nat) (l : List α) (k : Nat) (x : α) (hx : l[k]? = some x) : ((l.take (k + 1)).map f).sum = ((l.take k).map f).sum + f x := by
  rw [List.take_add_one, hx, List.map_append, List.sum_append]
  simp
theorem size_lawsAttr : (Try.prog.info? 45).map (·.size) = some 5 := by kernel_rfl
theorem size_implAttr : (Try.prog.info? 27).map (·.size) = some 5 := by kernel_rfl
theorem size_lawsCell : (Try.prog.info? 124).map (·.size) = some 6 := by kernel_rfl
theorem size_implCell : (Try.prog.info? 37).map (·.size) = some 6 := by kernel_rfl
theorem size_lawsGrid : (Try.prog.info? 44).map (·.size) = some 3 := by kernel_rfl
theorem size_implGrid : (Try.prog.info? 25).map (·.size) = some 3 := by kernel_rfl
theorem size_lawsRow : (Try.prog.info? 107).map (·.size) = some 1 := by kernel_rfl
theorem size_implRow : (Try.prog.info? 39).map (·.size) = some 1 := by kernel_rfl
theorem size_lawsScr : (Try.prog.info? 48).map (·.size) = some 31 := by kernel_rfl
theorem size_implScr : (Try.prog.info? 31).map (·.size) = some 31 := by kernel_rfl
set_option maxHeartbeats 400000 in
theorem szCellS_any (w : World) (v : Value) (l : List DCell) (left : Int) (h : RepS w v l) (g0 : 0 ≤ left) (g1 : left ≤ 1048576) :
    Calls Try.prog 69 #[v, .int .i64 left] w (GivesLeft w left l.length) := by
  obtain ⟨a, cap, rfl, hl, -⟩ := h
  go_enter Try.func69, Try.ntmps69
  go_wp2
  all_goals go_ret
  · exact ⟨_, rfl, ⟨_, rfl, .inl ⟨rfl, by omega⟩⟩, Below.refl _ _⟩
  · exact ⟨_, rfl, ⟨_, rfl, .inr ⟨rfl, by omega⟩⟩, Below.refl _ _⟩
set_option maxRecDepth 100000 in
set_option maxHeartbeats 1000000 in
theorem szGrid_any (w : World) (cs : List Value) (x : DGrid) (left : Int) (h : Rep.rep w cs x) (g0 : 0 ≤ left) (g1 : left ≤ 1048576) :
    Calls Try.prog 33 #[.agg cs.toArray, .int .i64 left] w (GivesLeft w left x.bulk) := by
  obtain ⟨v0, rfl, h0, h1, h2⟩ := DGrid.rep_iff.1 h
  clear h
  unfold DGrid.bulk
  have Hh2 := Lib.hid h2
  clear h2
  go_enter Try.func33, Try.ntmps33
  go_wp2_with (first | (go_at_call 69; refine (szCellS_any _ v0 x.Cells _ (Hh2.out.mono (by repeat (first | (with_reducible exact Below.refl _ _) | (with_reducible assumption) | (with_reducible refine bel_alloc ?_ _) | ((with_reducible refine bel_set ?_ ?_ _); rotate_left; (focus first | (simp; done) | (simp; omega)))))) (by omega) (by omega)).mono ?_; rintro e W1 ⟨_, rfl, ⟨r, rfl, hr⟩, hb⟩; have hB : Below w.heap.size w W1 := bel_next (by repeat (first | (with_reducible exact Below.refl _ _) | (with_reducible assumption) | (with_reducible refine bel_alloc ?_ _) | ((with_reducible refine bel_set ?_ ?_ _); rotate_left; (focus first | (simp; done) | (simp; omega))))) hb; have hc := bel_cell hb; clear hb; rcases hr with ⟨rfl, hlt⟩ | ⟨rfl, hge⟩))
  all_goals go_ret
  all_goals first
    | exact ⟨_, rfl, ⟨_, rfl, .inl ⟨rfl, by omega⟩⟩, (by repeat (first | (with_reducible exact Below.refl _ _) | (with_reducible assumption) | (with_reducible refine bel_alloc ?_ _) | ((with_reducible refine bel_set ?_ ?_ _); rotate_left; (focus first | (simp; done) | (simp; omega)))))⟩
    | exact ⟨_, rfl, ⟨_, rfl, .inr ⟨by omega, by omega⟩⟩, (by repeat (first | (with_reducible exact Below.refl _ _) | (with_reducible assumption) | (with_reducible refine bel_alloc ?_ _) | ((with_reducible refine bel_set ?_ ?_ _); rotate_left; (focus first | (simp; done) | (simp; omega)))))⟩
set_option maxRecDepth 100000 in
set_option maxHeartbeats 1000000 in
theorem szRow_any (w : World) (cs : List Value) (x : DRow) (left : Int) (h : Rep.rep w cs x) (g0 : 0 ≤ left) (g1 : left ≤ 1048576) :
    Calls Try.prog 70 #[.agg cs.toArray, .int .i64 left] w (GivesLeft w left x.bulk) := by
  obtain ⟨v0, rfl, h0⟩ := DRow.rep_iff.1 h
  clear h
  unfold DRow.bulk
  have Hh0 := Lib.hid h0
  clear h0
  go_enter Try.func70, Try.ntmps70
  go_wp2_with (first | (go_at_call 69; refine (szCellS_any _ v0 x.Cells _ (Hh0.out.mono (by repeat (first | (with_reducible exact Below.refl _ _) | (with_reducible assumption) | (with_reducible refine bel_alloc ?_ _) | ((with_reducible refine bel_set ?_ ?_ _); rotate_left; (focus first | (simp; done) | (simp; omega)))))) (by omega) (by omega)).mono ?_; rintro e W1 ⟨_, rfl, ⟨r, rfl, hr⟩, hb⟩; have hB : Below w.heap.size w W1 := bel_next (by repeat (first | (with_reducible exact Below.refl _ _) | (with_reducible assumption) | (with_reducible refine bel_alloc ?_ _) | ((with_reducible refine bel_set ?_ ?_ _); rotate_left; (focus first | (simp; done) | (simp; omega))))) hb; have hc := bel_cell hb; clear hb; rcases hr with ⟨rfl, hlt⟩ | ⟨rfl, hge⟩))
  all_goals go_ret
  all_goals first
    | exact ⟨_, rfl, ⟨_, rfl, .inl ⟨rfl, by omega⟩⟩, (by repeat (first | (with_reducible exact Below.refl _ _) | (with_reducible assumption) | (with_reducible refine bel_alloc ?_ _) | ((with_reducible refine bel_set ?_ ?_ _); rotate_left; (focus first | (simp; done) | (simp; omega)))))⟩
    | exact ⟨_, rfl, ⟨_, rfl, .inr ⟨by omega, by omega⟩⟩, (by repeat (first | (with_reducible exact Below.refl _ _) | (with_reducible assumption) | (with_reducible refine bel_alloc ?_ _) | ((with_reducible refine bel_set ?_ ?_ _); rotate_left; (focus first | (simp; done) | (simp; omega)))))⟩
set_option maxRecDepth 100000 in
set_option maxHeartbeats 1000000 in
theorem szRowS_any (w : World) (v : Value) (l : List DRow) (left : Int) (h : RepS w v l) (g0 : 0 ≤ left) (g1 : left ≤ 1048576) :
    Calls Try.prog 35 #[v, .int .i64 left] w (GivesLeft w left (l.length + (l.map DRow.bulk).sum)) := by
  obtain ⟨a, cap, rfl, hl, hc⟩ := h
  have HC := Lib.hid hc
  clear hc
  go_enter Try.func35, Try.ntmps35
  go_wp2
  · go_ret
    exact ⟨_, rfl, ⟨_, rfl, .inl ⟨rfl, by omega⟩⟩, Below.refl _ _⟩
  go_loopw [1, 5] (fun lv i wr => ∃ (k : Nat) (q : Int), k ≤ l.length ∧ i = .int .i64 k ∧ lv = .int .i64 q ∧ 0 ≤ q ∧ q ≤ left ∧ Hid (q = left - l.length - ((l.take k).map DRow.bulk).sum) ∧ Below w.heap.size w wr) (fun _ i _ => l.length - (intOf i).toNat)
  case atStart => exact ⟨0, _, Nat.zero_le _, rfl, rfl, by omega, by omega, by show _ = _; simp, Below.refl _ _⟩
  case round =>
    obtain ⟨k, q, hk, rfl, rfl, hq0, hq1, HQ, hB0⟩ := hrel
    by_cases hlt : k < l.length
    · have hne : l ≠ [] := by intro e; rw [e] at hlt; simp at hlt
      obtain ⟨b, off, rfl, hc⟩ := HC.out hne
      obtain ⟨x, hx⟩ : ∃ x, l[k]? = some x := ⟨l[k], by simp [hlt]⟩
      obtain ⟨rr, hrep, hcell⟩ := hc k x hx
      simp only [show k * Rep.size DRow = k from Nat.mul_one k] at hcell
      have HI := Lib.hid (show (Try.prog.info? 107).map (·.size) = some rr.length by rw [Rep.len hrep]; exact size_lawsRow)
      have HL := Lib.hid (show ∀ (j : Nat) u, rr[j]? = some u → wr.cell? ⟨b, off + k + j, none⟩ = some u from fun j u hu => (hB0.cell (p := ⟨b, _, none⟩) (World.block_lt_of_cell? w _ (hcell j u hu))).trans (hcell j u hu))
      have HR := Lib.hid hrep
      have HS := Lib.hid (show ((l.take (k + 1)).map DRow.bulk).sum = ((l.take k).map DRow.bulk).sum + x.bulk from sum_take_succ _ l k x hx)
      have HT := Lib.hid (sum_take_le (DRow.bulk) l (k + 1))
      clear hc hcell hrep hne hx
      go_wp2_with (first | (with_reducible (show wpList _ _ _ (Oper.mk _ (Op.load 107 _) _ _ _ _ :: _) _ _); refine wpList_load_agg rfl 107 _ rfl b _ rfl rr _ HL.out Try.underlying107 HI.out ?_) | (go_at_call 70; refine (szRow_any _ rr x _ (Rep.mono HR.out hB0) (by omega) (by omega)).mono ?_; rintro e W1 ⟨_, rfl, ⟨r, rfl, hr⟩, hb⟩; have hB : Below w.heap.size w W1 := bel_next hB0 hb; clear hb; rcases hr with ⟨rfl, hlt'⟩ | ⟨rfl, hge⟩))
      · go_ret
        have e1 := HQ.out
        have e2 := HS.out
        have e3 := HT.out
        exact ⟨_, rfl, ⟨_, rfl, .inl ⟨rfl, by omega⟩⟩, hB⟩
      · go_roundw
        case rel =>
          have e1 := HQ.out
          have e2 := HS.out
          exact ⟨k + 1, _, by omega, by go_num, rfl, by omega, by omega, by show _ = _; omega, hB⟩
        case measure => simp [intOf]; omega
    · obtain rfl : k = l.length := by omega
      go_wp2
      go_ret
      have e1 := HQ.out
      rw [List.take_length] at e1
      exact ⟨_, rfl, ⟨_, rfl, .inr ⟨by omega, by omega⟩⟩, hB0⟩
set_option maxRecDepth 100000 in
set_option maxHeartbeats 2000000 in
theorem szScr_any (w : World) (cs : List Value) (x : DScr) (left : Int) (h : Rep.rep w cs x) (g0 : 0 ≤ left) (g1 : left ≤ 1048576) :
    Calls Try.prog 11 #[.agg cs.toArray, .int .i64 left] w (GivesLeft w left x.bulk) := by
  obtain ⟨v0, v1, v2, v3, rfl, h0, h1, h2, h3, h4, h5, h6, h7, h8, h9, h10, h11, h12, h13, h14, h15, h16, h17, h18, h19, h20⟩ := DScr.rep_iff.1 h
  clear h
  unfold DScr.bulk
  have Hh4 := Lib.hid h4
  clear h4
  have Hh7 := Lib.hid h7
  clear h7
  have Hh18 := Lib.hid h18
  clear h18
  have Hh20 := Lib.hid h20
  clear h20
  go_enter Try.func11, Try.ntmps11
  go_wp2_with fail
  generalize hwb : World.alloc w _ = W0
  have HB0 := Lib.hid (show Below w.heap.size w W0 from by rw [← hwb]; exact bel_alloc (Below.refl _ _) _)
  have hz0 : w.heap.size < W0.heap.size := by rw [← hwb]; simp
  have b0_5 : W0.cell? ⟨w.heap.size, 5, none⟩ = some (.int .i64 x.Alt.W) := by rw [← hwb]; simp
  have b0_6 : W0.cell? ⟨w.heap.size, 6, none⟩ = some (.int .i64 x.Alt.H) := by rw [← hwb]; simp
  have b0_7 : W0.cell? ⟨w.heap.size, 7, none⟩ = some (v1) := by rw [← hwb]; simp
  have b0_28 : W0.cell? ⟨w.heap.size, 28, none⟩ = some (v2) := by rw [← hwb]; simp
  have b0_30 : W0.cell? ⟨w.heap.size, 30, none⟩ = some (v3) := by rw [← hwb]; simp
  clear hwb
  refine (szGrid_any _ [_, _, _] x.Main _ (DGrid.rep_iff.2 ⟨v0, rfl, h2, h3, (Hh4.out.mono HB0.out)⟩) (by omega) (by omega)).mono ?_
  rintro e W1 ⟨_, rfl, ⟨r0, rfl, hr⟩, hb⟩
  have HB1 := Lib.hid (bel_next HB0.out hb)
  have hz1 : w.heap.size < W1.heap.size := Nat.lt_of_lt_of_le hz0 hb.size
  have b1_5 := (hb.cell (p := ⟨w.heap.size, 5, none⟩) hz0).trans b0_5
  have b1_6 := (hb.cell (p := ⟨w.heap.size, 6, none⟩) hz0).trans b0_6
  have b1_7 := (hb.cell (p := ⟨w.heap.size, 7, none⟩) hz0).trans b0_7
  have b1_28 := (hb.cell (p := ⟨w.heap.size, 28, none⟩) hz0).trans b0_28
  have b1_30 := (hb.cell (p := ⟨w.heap.size, 30, none⟩) hz0).trans b0_30
  clear hb b0_5 b0_6 b0_7 b0_28 b0_30
  rcases hr with ⟨rfl, hlt0⟩ | ⟨rfl, hge0⟩
  · go_wp2_with fail
    go_ret
    exact ⟨_, rfl, ⟨_, rfl, .inl ⟨rfl, by omega⟩⟩, HB1.out⟩
  go_wp2_with fail
  refine (szGrid_any _ [_, _, _] x.Alt _ (DGrid.rep_iff.2 ⟨v1, rfl, h5, h6, (Hh7.out.mono HB1.out)⟩) (by omega) (by omega)).mono ?_
  rintro e W2 ⟨_, rfl, ⟨r1, rfl, hr⟩, hb⟩
  have HB2 := Lib.hid (bel_next HB1.out hb)
  have hz2 : w.heap.size < W2.heap.size := Nat.lt_of_lt_of_le hz1 hb.size
  have b2_28 := (hb.cell (p := ⟨w.heap.size, 28, none⟩) hz1).trans b1_28
  have b2_30 := (hb.cell (p := ⟨w.heap.size, 30, none⟩) hz1).trans b1_30
  clear hb b1_28 b1_30
  rcases hr with ⟨rfl, hlt1⟩ | ⟨rfl, hge1⟩
  · go_wp2_with fail
    go_ret
    exact ⟨_, rfl, ⟨_, rfl, .inl ⟨rfl, by omega⟩⟩, HB2.out⟩
  go_wp2_with fail
  refine (szIntS_any _ v2 x.Tabs _ (Hh18.out.mono HB2.out) (by omega) (by omega)).mono ?_
  rintro e W3 ⟨_, rfl, ⟨r2, rfl, hr⟩, hb⟩
  have HB3 := Lib.hid (bel_next HB2.out hb)
  have hz3 : w.heap.size < W3.heap.size := Nat.lt_of_lt_of_le hz2 hb.size
  have b3_30 := (hb.cell (p := ⟨w.heap.size, 30, none⟩) hz2).trans b2_30
  clear hb b2_30
  rcases hr with ⟨rfl, hlt2⟩ | ⟨rfl, hge2⟩
  · go_wp2_with fail
    go_ret
    exact ⟨_, rfl, ⟨_, rfl, .inl ⟨rfl, by omega⟩⟩, HB3.out⟩
  go_wp2_with fail
  refine (szRowS_any _ v3 x.Back _ (Hh20.out.mono HB3.out) (by omega) (by omega)).mono ?_
  rintro e W4 ⟨_, rfl, ⟨r3, rfl, hr⟩, hb⟩
  have HB4 := Lib.hid (bel_next HB3.out hb)
  have hz4 : w.heap.size < W4.heap.size := Nat.lt_of_lt_of_le hz3 hb.size
  clear hb 
  rcases hr with ⟨rfl, hlt3⟩ | ⟨rfl, hge3⟩
  · go_wp2_with fail
    go_ret
    exact ⟨_, rfl, ⟨_, rfl, .inl ⟨rfl, by omega⟩⟩, HB4.out⟩
  go_wp2_with fail
  go_ret
  exact ⟨_, rfl, ⟨_, rfl, .inr ⟨by omega, by omega⟩⟩, HB4.out⟩
end Go.Proofs.Ytaobgfneeijpmaa
