/- How many places and letters a datum holds, as the laws' size functions count them; their walks. -/
import Derived.Test.YtnidoeapoknhdaaBytes
set_option linter.unusedSimpArgs false
set_option linter.unusedVariables false
namespace Go.Mux
@[irreducible] def DGrid.bulk (x : DGrid) : Nat := x.Cells.length
@[irreducible] def DOp.bulk (x : DOp) : Nat := x.Name.size + x.Text.size + x.Dir.size + x.Data.length
@[irreducible] def DView.bulk (x : DView) : Nat := x.Grid.bulk
@[irreducible] def DAsk.bulk (x : DAsk) : Nat := x.Cmd.size + x.Dir.size
@[irreducible] def DTable.bulk (x : DTable) : Nat := x.Live.length + (x.Asked.length + (x.Asked.map DAsk.bulk).sum)
@[irreducible] def DHist.bulk (x : DHist) : Nat := x.Op.bulk
end Go.Mux
namespace Go.Proofs.Ytnidoeapoknhdaa
open Go.RowKit Go.Mux
theorem sum_take_le {α : Type} (f : α → Nat) (l : List α) (k : Nat) : ((l.take k).map f).sum ≤ (l.map f).sum := by
  rw [show (l.map f).sum = ((l.take k ++ l.drop k).map f).sum by rw [List.take_append_drop], List.map_append, List.sum_append]
  omega
theorem sum_take_succ {α : Type} (f : α → Nat) (l : List α) (k : Nat) (x : α) (hx : l[k]? = some x) : ((l.take (k + 1)).map f).sum = ((l.take k).map f).sum + f x := by
  rw [List.take_add_one, hx, List.map_append, List.sum_append]
  simp
theorem size_lawsAttr : (Try.prog.info? 130).map (·.size) = some 5 := by kernel_rfl
theorem size_implAttr : (Try.prog.info? 106).map (·.size) = some 5 := by kernel_rfl
theorem size_lawsCell : (Try.prog.info? 132).map (·.size) = some 6 := by kernel_rfl
theorem size_implCell : (Try.prog.info? 108).map (·.size) = some 6 := by kernel_rfl
theorem size_lawsGrid : (Try.prog.info? 31).map (·.size) = some 3 := by kernel_rfl
theorem size_implGrid : (Try.prog.info? 38).map (·.size) = some 3 := by kernel_rfl
theorem size_lawsOp : (Try.prog.info? 68).map (·.size) = some 8 := by kernel_rfl
theorem size_implOp : (Try.prog.info? 71).map (·.size) = some 8 := by kernel_rfl
theorem size_lawsView : (Try.prog.info? 33).map (·.size) = some 6 := by kernel_rfl
theorem size_implView : (Try.prog.info? 40).map (·.size) = some 6 := by kernel_rfl
theorem size_lawsProc : (Try.prog.info? 117).map (·.size) = some 2 := by kernel_rfl
theorem size_implProc : (Try.prog.info? 85).map (·.size) = some 2 := by kernel_rfl
theorem size_lawsAsk : (Try.prog.info? 115).map (·.size) = some 6 := by kernel_rfl
theorem size_implAsk : (Try.prog.info? 118).map (·.size) = some 6 := by kernel_rfl
theorem size_lawsTable : (Try.prog.info? 47).map (·.size) = some 3 := by kernel_rfl
theorem size_implTable : (Try.prog.info? 53).map (·.size) = some 3 := by kernel_rfl
theorem size_lawsHist : (Try.prog.info? 70).map (·.size) = some 9 := by kernel_rfl
theorem size_implHist : (Try.prog.info? 73).map (·.size) = some 9 := by kernel_rfl
set_option maxHeartbeats 400000 in
theorem szCellS_any (w : World) (v : Value) (l : List DCell) (left : Int) (h : RepS w v l) (g0 : 0 ≤ left) (g1 : left ≤ 1048576) :
    Calls Try.prog 69 #[v, .int .i64 left] w (GivesLeft w left l.length) := by
  obtain ⟨a, cap, rfl, hl, -⟩ := h
  go_enter Try.func69, Try.ntmps69
  go_wp2
  all_goals go_ret
  · exact ⟨_, rfl, ⟨_, rfl, .inl ⟨rfl, by omega⟩⟩, Below.refl _ _⟩
  · exact ⟨_, rfl, ⟨_, rfl, .inr ⟨rfl, by omega⟩⟩, Below.refl _ _⟩
set_option maxRecDepth 100000 in
set_option maxHeartbeats 1000000 in
theorem szGrid_any (w : World) (cs : List Value) (x : DGrid) (left : Int) (h : Rep.rep w cs x) (g0 : 0 ≤ left) (g1 : left ≤ 1048576) :
    Calls Try.prog 37 #[.agg cs.toArray, .int .i64 left] w (GivesLeft w left x.bulk) := by
  obtain ⟨v0, rfl, h0, h1, h2⟩ := DGrid.rep_iff.1 h
  clear h
  unfold DGrid.bulk
  have Hh2 := Lib.hid h2
  clear h2
  go_enter Try.func37, Try.ntmps37
  go_wp2_with (first | (go_at_call 69; refine (szCellS_any _ v0 x.Cells _ (Hh2.out.mono (by repeat (first | (with_reducible exact Below.refl _ _) | (with_reducible assumption) | (with_reducible refine bel_alloc ?_ _) | ((with_reducible refine bel_set ?_ ?_ _); rotate_left; (focus first | (simp; done) | (simp; omega)))))) (by omega) (by omega)).mono ?_; rintro e W1 ⟨_, rfl, ⟨r, rfl, hr⟩, hb⟩; have hB : Below w.heap.size w W1 := bel_next (by repeat (first | (with_reducible exact Below.refl _ _) | (with_reducible assumption) | (with_reducible refine bel_alloc ?_ _) | ((with_reducible refine bel_set ?_ ?_ _); rotate_left; (focus first | (simp; done) | (simp; omega))))) hb; have hc := bel_cell hb; clear hb; rcases hr with ⟨rfl, hlt⟩ | ⟨rfl, hge⟩))
  all_goals go_ret
  all_goals first
    | exact ⟨_, rfl, ⟨_, rfl, .inl ⟨rfl, by omega⟩⟩, (by repeat (first | (with_reducible exact Below.refl _ _) | (with_reducible assumption) | (with_reducible refine bel_alloc ?_ _) | ((with_reducible refine bel_set ?_ ?_ _); rotate_left; (focus first | (simp; done) | (simp; omega)))))⟩
    | exact ⟨_, rfl, ⟨_, rfl, .inr ⟨by omega, by omega⟩⟩, (by repeat (first | (with_reducible exact Below.refl _ _) | (with_reducible assumption) | (with_reducible refine bel_alloc ?_ _) | ((with_reducible refine bel_set ?_ ?_ _); rotate_left; (focus first | (simp; done) | (simp; omega)))))⟩
set_option maxRecDepth 100000 in
set_option maxHeartbeats 1000000 in
theorem szOp_any (w : World) (cs : List Value) (x : DOp) (left : Int) (h : Rep.rep w cs x) (g0 : 0 ≤ left) (g1 : left ≤ 1048576) :
    Calls Try.prog 66 #[.agg cs.toArray, .int .i64 left] w (GivesLeft w left x.bulk) := by
  obtain ⟨v0, rfl, h0, h1, h2, h3, h4, h5, h6, h7⟩ := DOp.rep_iff.1 h
  clear h
  unfold DOp.bulk
  have Hh7 := Lib.hid h7
  clear h7
  go_enter Try.func66, Try.ntmps66
  go_wp2_with (first | (go_at_call 86; refine (szByteS_any _ v0 x.Data _ (Hh7.out.mono (by repeat (first | (with_reducible exact Below.refl _ _) | (with_reducible assumption) | (with_reducible refine bel_alloc ?_ _) | ((with_reducible refine bel_set ?_ ?_ _); rotate_left; (focus first | (simp; done) | (simp; omega)))))) (by omega) (by omega)).mono ?_; rintro e W1 ⟨_, rfl, ⟨r, rfl, hr⟩, hb⟩; have hB : Below w.heap.size w W1 := bel_next (by repeat (first | (with_reducible exact Below.refl _ _) | (with_reducible assumption) | (with_reducible refine bel_alloc ?_ _) | ((with_reducible refine bel_set ?_ ?_ _); rotate_left; (focus first | (simp; done) | (simp; omega))))) hb; have hc := bel_cell hb; clear hb; rcases hr with ⟨rfl, hlt⟩ | ⟨rfl, hge⟩))
  all_goals go_ret
  all_goals first
    | exact ⟨_, rfl, ⟨_, rfl, .inl ⟨rfl, by omega⟩⟩, (by repeat (first | (with_reducible exact Below.refl _ _) | (with_reducible assumption) | (with_reducible refine bel_alloc ?_ _) | ((with_reducible refine bel_set ?_ ?_ _); rotate_left; (focus first | (simp; done) | (simp; omega)))))⟩
    | exact ⟨_, rfl, ⟨_, rfl, .inr ⟨by omega, by omega⟩⟩, (by repeat (first | (with_reducible exact Below.refl _ _) | (with_reducible assumption) | (with_reducible refine bel_alloc ?_ _) | ((with_reducible refine bel_set ?_ ?_ _); rotate_left; (focus first | (simp; done) | (simp; omega)))))⟩
set_option maxRecDepth 100000 in
set_option maxHeartbeats 1000000 in
theorem szView_any (w : World) (cs : List Value) (x : DView) (left : Int) (h : Rep.rep w cs x) (g0 : 0 ≤ left) (g1 : left ≤ 1048576) :
    Calls Try.prog 14 #[.agg cs.toArray, .int .i64 left] w (GivesLeft w left x.bulk) := by
  obtain ⟨v0, rfl, h0, h1, h2, h3, h4⟩ := DView.rep_iff.1 h
  clear h
  unfold DView.bulk
  have Hh2 := Lib.hid h2
  clear h2
  go_enter Try.func14, Try.ntmps14
  go_wp2_with (first | (go_at_call 37; refine (szGrid_any _ [_, _, _] x.Grid _ (DGrid.rep_iff.2 ⟨v0, rfl, h0, h1, (Hh2.out.mono (by repeat (first | (with_reducible exact Below.refl _ _) | (with_reducible assumption) | (with_reducible refine bel_alloc ?_ _) | ((with_reducible refine bel_set ?_ ?_ _); rotate_left; (focus first | (simp; done) | (simp; omega))))))⟩) (by omega) (by omega)).mono ?_; rintro e W1 ⟨_, rfl, ⟨r, rfl, hr⟩, hb⟩; have hB : Below w.heap.size w W1 := bel_next (by repeat (first | (with_reducible exact Below.refl _ _) | (with_reducible assumption) | (with_reducible refine bel_alloc ?_ _) | ((with_reducible refine bel_set ?_ ?_ _); rotate_left; (focus first | (simp; done) | (simp; omega))))) hb; have hc := bel_cell hb; clear hb; rcases hr with ⟨rfl, hlt⟩ | ⟨rfl, hge⟩))
  all_goals go_ret
  all_goals first
    | exact ⟨_, rfl, ⟨_, rfl, .inl ⟨rfl, by omega⟩⟩, (by repeat (first | (with_reducible exact Below.refl _ _) | (with_reducible assumption) | (with_reducible refine bel_alloc ?_ _) | ((with_reducible refine bel_set ?_ ?_ _); rotate_left; (focus first | (simp; done) | (simp; omega)))))⟩
    | exact ⟨_, rfl, ⟨_, rfl, .inr ⟨by omega, by omega⟩⟩, (by repeat (first | (with_reducible exact Below.refl _ _) | (with_reducible assumption) | (with_reducible refine bel_alloc ?_ _) | ((with_reducible refine bel_set ?_ ?_ _); rotate_left; (focus first | (simp; done) | (simp; omega)))))⟩
set_option maxHeartbeats 400000 in
theorem szProcS_any (w : World) (v : Value) (l : List DProc) (left : Int) (h : RepS w v l) (g0 : 0 ≤ left) (g1 : left ≤ 1048576) :
    Calls Try.prog 43 #[v, .int .i64 left] w (GivesLeft w left l.length) := by
  obtain ⟨a, cap, rfl, hl, -⟩ := h
  go_enter Try.func43, Try.ntmps43
  go_wp2
  all_goals go_ret
  · exact ⟨_, rfl, ⟨_, rfl, .inl ⟨rfl, by omega⟩⟩, Below.refl _ _⟩
  · exact ⟨_, rfl, ⟨_, rfl, .inr ⟨rfl, by omega⟩⟩, Below.refl _ _⟩
set_option maxRecDepth 100000 in
set_option maxHeartbeats 1000000 in
theorem szAsk_any (w : World) (cs : List Value) (x : DAsk) (left : Int) (h : Rep.rep w cs x) (g0 : 0 ≤ left) (g1 : left ≤ 1048576) :
    Calls Try.prog 75 #[.agg cs.toArray, .int .i64 left] w (GivesLeft w left x.bulk) := by
  obtain ⟨rfl, h0, h1, h2, h3, h4, h5⟩ := DAsk.rep_iff.1 h
  clear h
  unfold DAsk.bulk
  go_enter Try.func75, Try.ntmps75
  go_wp2
  all_goals go_ret
  all_goals first
    | exact ⟨_, rfl, ⟨_, rfl, .inl ⟨rfl, by omega⟩⟩, (by repeat (first | (with_reducible exact Below.refl _ _) | (with_reducible assumption) | (with_reducible refine bel_alloc ?_ _) | ((with_reducible refine bel_set ?_ ?_ _); rotate_left; (focus first | (simp; done) | (simp; omega)))))⟩
    | exact ⟨_, rfl, ⟨_, rfl, .inr ⟨by omega, by omega⟩⟩, (by repeat (first | (with_reducible exact Below.refl _ _) | (with_reducible assumption) | (with_reducible refine bel_alloc ?_ _) | ((with_reducible refine bel_set ?_ ?_ _); rotate_left; (focus first | (simp; done) | (simp; omega)))))⟩
set_option maxRecDepth 100000 in
set_option maxHeartbeats 1000000 in
theorem szAskS_any (w : World) (v : Value) (l : List DAsk) (left : Int) (h : RepS w v l) (g0 : 0 ≤ left) (g1 : left ≤ 1048576) :
    Calls Try.prog 44 #[v, .int .i64 left] w (GivesLeft w left (l.length + (l.map DAsk.bulk).sum)) := by
  obtain ⟨a, cap, rfl, hl, hc⟩ := h
  have HC := Lib.hid hc
  clear hc
  go_enter Try.func44, Try.ntmps44
  go_wp2
  · go_ret
    exact ⟨_, rfl, ⟨_, rfl, .inl ⟨rfl, by omega⟩⟩, Below.refl _ _⟩
  go_loopw [1, 5] (fun lv i wr => ∃ (k : Nat) (q : Int), k ≤ l.length ∧ i = .int .i64 k ∧ lv = .int .i64 q ∧ 0 ≤ q ∧ q ≤ left ∧ Hid (q = left - l.length - ((l.take k).map DAsk.bulk).sum) ∧ Below w.heap.size w wr) (fun _ i _ => l.length - (intOf i).toNat)
  case atStart => exact ⟨0, _, Nat.zero_le _, rfl, rfl, by omega, by omega, by show _ = _; simp, Below.refl _ _⟩
  case round =>
    obtain ⟨k, q, hk, rfl, rfl, hq0, hq1, HQ, hB0⟩ := hrel
    by_cases hlt : k < l.length
    · have hne : l ≠ [] := by intro e; rw [e] at hlt; simp at hlt
      obtain ⟨b, off, rfl, hc⟩ := HC.out hne
      obtain ⟨x, hx⟩ : ∃ x, l[k]? = some x := ⟨l[k], by simp [hlt]⟩
      obtain ⟨rr, hrep, hcell⟩ := hc k x hx
      have HI := Lib.hid (show (Try.prog.info? 115).map (·.size) = some rr.length by rw [Rep.len hrep]; exact size_lawsAsk)
      have HL := Lib.hid (show ∀ (j : Nat) u, rr[j]? = some u → wr.cell? ⟨b, off + k * 6 + j, none⟩ = some u from fun j u hu => (hB0.cell (p := ⟨b, _, none⟩) (World.block_lt_of_cell? w _ (hcell j u hu))).trans (hcell j u hu))
      have HR := Lib.hid hrep
      have HS := Lib.hid (show ((l.take (k + 1)).map DAsk.bulk).sum = ((l.take k).map DAsk.bulk).sum + x.bulk from sum_take_succ _ l k x hx)
      have HT := Lib.hid (sum_take_le (DAsk.bulk) l (k + 1))
      clear hc hcell hrep hne hx
      go_wp2_with (first | (with_reducible (show wpList _ _ _ (Oper.mk _ (Op.load 115 _) _ _ _ _ :: _) _ _); refine wpList_load_agg rfl 115 _ rfl b _ rfl rr _ HL.out Try.underlying115 HI.out ?_) | (go_at_call 75; refine (szAsk_any _ rr x _ (Rep.mono HR.out hB0) (by omega) (by omega)).mono ?_; rintro e W1 ⟨_, rfl, ⟨r, rfl, hr⟩, hb⟩; have hB : Below w.heap.size w W1 := bel_next hB0 hb; clear hb; rcases hr with ⟨rfl, hlt'⟩ | ⟨rfl, hge⟩))
      · go_ret
        have e1 := HQ.out
        have e2 := HS.out
        have e3 := HT.out
        exact ⟨_, rfl, ⟨_, rfl, .inl ⟨rfl, by omega⟩⟩, hB⟩
      · go_roundw
        case rel =>
          have e1 := HQ.out
          have e2 := HS.out
          exact ⟨k + 1, _, by omega, by go_num, rfl, by omega, by omega, by show _ = _; omega, hB⟩
        case measure => simp [intOf]; omega
    · obtain rfl : k = l.length := by omega
      go_wp2
      go_ret
      have e1 := HQ.out
      rw [List.take_length] at e1
      exact ⟨_, rfl, ⟨_, rfl, .inr ⟨by omega, by omega⟩⟩, hB0⟩
set_option maxRecDepth 100000 in
set_option maxHeartbeats 1000000 in
theorem szTable_any (w : World) (cs : List Value) (x : DTable) (left : Int) (h : Rep.rep w cs x) (g0 : 0 ≤ left) (g1 : left ≤ 1048576) :
    Calls Try.prog 19 #[.agg cs.toArray, .int .i64 left] w (GivesLeft w left x.bulk) := by
  obtain ⟨v0, v1, rfl, h0, h1, h2⟩ := DTable.rep_iff.1 h
  clear h
  unfold DTable.bulk
  have Hh1 := Lib.hid h1
  clear h1
  have Hh2 := Lib.hid h2
  clear h2
  go_enter Try.func19, Try.ntmps19
  go_wp2_with (first | (go_at_call 43; refine (szProcS_any _ v0 x.Live _ (Hh1.out.mono (by repeat (first | (with_reducible exact Below.refl _ _) | (with_reducible assumption) | (with_reducible refine bel_alloc ?_ _) | ((with_reducible refine bel_set ?_ ?_ _); rotate_left; (focus first | (simp; done) | (simp; omega)))))) (by omega) (by omega)).mono ?_; rintro e W1 ⟨_, rfl, ⟨r, rfl, hr⟩, hb⟩; have hB : Below w.heap.size w W1 := bel_next (by repeat (first | (with_reducible exact Below.refl _ _) | (with_reducible assumption) | (with_reducible refine bel_alloc ?_ _) | ((with_reducible refine bel_set ?_ ?_ _); rotate_left; (focus first | (simp; done) | (simp; omega))))) hb; have hc := bel_cell hb; clear hb; rcases hr with ⟨rfl, hlt⟩ | ⟨rfl, hge⟩) | (go_at_call 44; refine (szAskS_any _ v1 x.Asked _ (Hh2.out.mono (by repeat (first | (with_reducible exact Below.refl _ _) | (with_reducible assumption) | (with_reducible refine bel_alloc ?_ _) | ((with_reducible refine bel_set ?_ ?_ _); rotate_left; (focus first | (simp; done) | (simp; omega)))))) (by omega) (by omega)).mono ?_; rintro e W1 ⟨_, rfl, ⟨r, rfl, hr⟩, hb⟩; have hB : Below w.heap.size w W1 := bel_next (by repeat (first | (with_reducible exact Below.refl _ _) | (with_reducible assumption) | (with_reducible refine bel_alloc ?_ _) | ((with_reducible refine bel_set ?_ ?_ _); rotate_left; (focus first | (simp; done) | (simp; omega))))) hb; have hc := bel_cell hb; clear hb; rcases hr with ⟨rfl, hlt⟩ | ⟨rfl, hge⟩))
  all_goals go_ret
  all_goals first
    | exact ⟨_, rfl, ⟨_, rfl, .inl ⟨rfl, by omega⟩⟩, (by repeat (first | (with_reducible exact Below.refl _ _) | (with_reducible assumption) | (with_reducible refine bel_alloc ?_ _) | ((with_reducible refine bel_set ?_ ?_ _); rotate_left; (focus first | (simp; done) | (simp; omega)))))⟩
    | exact ⟨_, rfl, ⟨_, rfl, .inr ⟨by omega, by omega⟩⟩, (by repeat (first | (with_reducible exact Below.refl _ _) | (with_reducible assumption) | (with_reducible refine bel_alloc ?_ _) | ((with_reducible refine bel_set ?_ ?_ _); rotate_left; (focus first | (simp; done) | (simp; omega)))))⟩
set_option maxRecDepth 100000 in
set_option maxHeartbeats 1000000 in
theorem szHist_any (w : World) (cs : List Value) (x : DHist) (left : Int) (h : Rep.rep w cs x) (g0 : 0 ≤ left) (g1 : left ≤ 1048576) :
    Calls Try.prog 34 #[.agg cs.toArray, .int .i64 left] w (GivesLeft w left x.bulk) := by
  obtain ⟨v0, rfl, h0, h1, h2, h3, h4, h5, h6, h7⟩ := DHist.rep_iff.1 h
  clear h
  unfold DHist.bulk
  have Hh7 := Lib.hid h7
  clear h7
  go_enter Try.func34, Try.ntmps34
  go_wp2_with (first | (go_at_call 66; refine (szOp_any _ [_, _, _, _, _, _, _, _] x.Op _ (DOp.rep_iff.2 ⟨v0, rfl, h0, h1, h2, h3, h4, h5, h6, (Hh7.out.mono (by repeat (first | (with_reducible exact Below.refl _ _) | (with_reducible assumption) | (with_reducible refine bel_alloc ?_ _) | ((with_reducible refine bel_set ?_ ?_ _); rotate_left; (focus first | (simp; done) | (simp; omega))))))⟩) (by omega) (by omega)).mono ?_; rintro e W1 ⟨_, rfl, ⟨r, rfl, hr⟩, hb⟩; have hB : Below w.heap.size w W1 := bel_next (by repeat (first | (with_reducible exact Below.refl _ _) | (with_reducible assumption) | (with_reducible refine bel_alloc ?_ _) | ((with_reducible refine bel_set ?_ ?_ _); rotate_left; (focus first | (simp; done) | (simp; omega))))) hb; have hc := bel_cell hb; clear hb; rcases hr with ⟨rfl, hlt⟩ | ⟨rfl, hge⟩))
  all_goals go_ret
  all_goals first
    | exact ⟨_, rfl, ⟨_, rfl, .inl ⟨rfl, by omega⟩⟩, (by repeat (first | (with_reducible exact Below.refl _ _) | (with_reducible assumption) | (with_reducible refine bel_alloc ?_ _) | ((with_reducible refine bel_set ?_ ?_ _); rotate_left; (focus first | (simp; done) | (simp; omega)))))⟩
    | exact ⟨_, rfl, ⟨_, rfl, .inr ⟨by omega, by omega⟩⟩, (by repeat (first | (with_reducible exact Below.refl _ _) | (with_reducible assumption) | (with_reducible refine bel_alloc ?_ _) | ((with_reducible refine bel_set ?_ ?_ _); rotate_left; (focus first | (simp; done) | (simp; omega)))))⟩
set_option maxRecDepth 100000 in
set_option maxHeartbeats 1000000 in
theorem szHistS_any (w : World) (v : Value) (l : List DHist) (left : Int) (h : RepS w v l) (g0 : 0 ≤ left) (g1 : left ≤ 1048576) :
    Calls Try.prog 9 #[v, .int .i64 left] w (GivesLeft w left (l.length + (l.map DHist.bulk).sum)) := by
  obtain ⟨a, cap, rfl, hl, hc⟩ := h
  have HC := Lib.hid hc
  clear hc
  go_enter Try.func9, Try.ntmps9
  go_wp2
  · go_ret
    exact ⟨_, rfl, ⟨_, rfl, .inl ⟨rfl, by omega⟩⟩, Below.refl _ _⟩
  go_loopw [1, 5] (fun lv i wr => ∃ (k : Nat) (q : Int), k ≤ l.length ∧ i = .int .i64 k ∧ lv = .int .i64 q ∧ 0 ≤ q ∧ q ≤ left ∧ Hid (q = left - l.length - ((l.take k).map DHist.bulk).sum) ∧ Below w.heap.size w wr) (fun _ i _ => l.length - (intOf i).toNat)
  case atStart => exact ⟨0, _, Nat.zero_le _, rfl, rfl, by omega, by omega, by show _ = _; simp, Below.refl _ _⟩
  case round =>
    obtain ⟨k, q, hk, rfl, rfl, hq0, hq1, HQ, hB0⟩ := hrel
    by_cases hlt : k < l.length
    · have hne : l ≠ [] := by intro e; rw [e] at hlt; simp at hlt
      obtain ⟨b, off, rfl, hc⟩ := HC.out hne
      obtain ⟨x, hx⟩ : ∃ x, l[k]? = some x := ⟨l[k], by simp [hlt]⟩
      obtain ⟨rr, hrep, hcell⟩ := hc k x hx
      have HI := Lib.hid (show (Try.prog.info? 70).map (·.size) = some rr.length by rw [Rep.len hrep]; exact size_lawsHist)
      have HL := Lib.hid (show ∀ (j : Nat) u, rr[j]? = some u → wr.cell? ⟨b, off + k * 9 + j, none⟩ = some u from fun j u hu => (hB0.cell (p := ⟨b, _, none⟩) (World.block_lt_of_cell? w _ (hcell j u hu))).trans (hcell j u hu))
      have HR := Lib.hid hrep
      have HS := Lib.hid (show ((l.take (k + 1)).map DHist.bulk).sum = ((l.take k).map DHist.bulk).sum + x.bulk from sum_take_succ _ l k x hx)
      have HT := Lib.hid (sum_take_le (DHist.bulk) l (k + 1))
      clear hc hcell hrep hne hx
      go_wp2_with (first | (with_reducible (show wpList _ _ _ (Oper.mk _ (Op.load 70 _) _ _ _ _ :: _) _ _); refine wpList_load_agg rfl 70 _ rfl b _ rfl rr _ HL.out Try.underlying70 HI.out ?_) | (go_at_call 34; refine (szHist_any _ rr x _ (Rep.mono HR.out hB0) (by omega) (by omega)).mono ?_; rintro e W1 ⟨_, rfl, ⟨r, rfl, hr⟩, hb⟩; have hB : Below w.heap.size w W1 := bel_next hB0 hb; clear hb; rcases hr with ⟨rfl, hlt'⟩ | ⟨rfl, hge⟩))
      · go_ret
        have e1 := HQ.out
        have e2 := HS.out
        have e3 := HT.out
        exact ⟨_, rfl, ⟨_, rfl, .inl ⟨rfl, by omega⟩⟩, hB⟩
      · go_roundw
        case rel =>
          have e1 := HQ.out
          have e2 := HS.out
          exact ⟨k + 1, _, by omega, by go_num, rfl, by omega, by omega, by show _ = _; omega, hB⟩
        case measure => simp [intOf]; omega
    · obtain rfl : k = l.length := by omega
      go_wp2
      go_ret
      have e1 := HQ.out
      rw [List.take_length] at e1
      exact ⟨_, rfl, ⟨_, rfl, .inr ⟨by omega, by omega⟩⟩, hB0⟩
end Go.Proofs.Ytnidoeapoknhdaa
