/- The walks of the laws' copying functions: a value of the program's type in new memory, which reads as the argument. -/
import Derived.Test.YtlkadeaomjoiiaaDoorSz
set_option linter.unusedSimpArgs false
set_option linter.unusedVariables false
namespace Go.Proofs.YtlkadeaomjoiiaaDoor
open Go.RowKit Go.Mux
theorem bulk_le {α : Type} (f : α → Nat) (l : List α) (k : Nat) (x : α) (hx : l[k]? = some x) : f x ≤ (l.map f).sum := by
  have := sum_take_succ f l k x hx
  have := sum_take_le f l (k + 1)
  omega
set_option maxRecDepth 100000 in
set_option maxHeartbeats 2000000 in
theorem toAttr_any (w : World) (cs : List Value) (x : DAttr) (h : Rep.rep w cs x) :
    Calls Tryd.prog 110 #[.agg cs.toArray] w (Gives w fun r w' => ∃ cs', r = .agg cs'.toArray ∧ Fresh w.heap.size w' cs' x) := by
  obtain ⟨rfl, h0, h1⟩ := DAttr.rep_iff.1 h
  clear h
  go_enter Tryd.func110, Tryd.ntmps110
  go_wp2
  refine bodyPost_ret (v := .agg #[.int .i64 x.Fg, .int .i64 x.Bg, .bool x.Bold, .bool x.Under, .bool x.Turn]) (by simp [results, Tryd.results110, go_sem]) rfl ⟨_, rfl, ⟨_, rfl, ?_⟩, (by repeat (first | (with_reducible exact Below.refl _ _) | (with_reducible assumption) | (with_reducible refine bel_alloc ?_ _) | ((with_reducible refine bel_set ?_ ?_ _); rotate_left; (focus first | (simp; done) | (simp; omega)))))⟩
  exact ⟨[], ⟨[_], _, [], [], rfl, ⟨⟨rfl, h0⟩, rfl⟩, ⟨[_], _, [], [], rfl, ⟨⟨rfl, h1⟩, rfl⟩, ⟨[_], _, [], [], rfl, ⟨rfl, rfl⟩, ⟨[_], _, [], [], rfl, ⟨rfl, rfl⟩, ⟨rfl, rfl⟩, rfl⟩, rfl⟩, rfl⟩, rfl⟩, by simp, by simp⟩
set_option maxRecDepth 100000 in
set_option maxHeartbeats 2000000 in
theorem toCell_any (w : World) (cs : List Value) (x : DCell) (h : Rep.rep w cs x) :
    Calls Tryd.prog 98 #[.agg cs.toArray] w (Gives w fun r w' => ∃ cs', r = .agg cs'.toArray ∧ Fresh w.heap.size w' cs' x) := by
  obtain ⟨rfl, h0, h1, h2⟩ := DCell.rep_iff.1 h
  clear h
  go_enter Tryd.func98, Tryd.ntmps98
  go_wp2_with (first | (go_at_call 110; refine (toAttr_any _ [_, _, _, _, _] x.A (DAttr.rep_iff.2 ⟨rfl, h1, h2⟩)).mono ?_; rintro e W0 ⟨_, rfl, ⟨cs0, rfl, HF⟩, hb⟩; obtain rfl := DAttr.shape HF.rep; have HF0 := Lib.hid (HF.frIn.wide (lo' := w.heap.size + 3) (hi' := W0.heap.size) (by first | (simp; done) | (simp; omega) | omega) (Nat.le_refl _)); have hB0 : Below w.heap.size w W0 := bel_next (by repeat (first | (with_reducible exact Below.refl _ _) | (with_reducible assumption) | (with_reducible refine bel_alloc ?_ _) | ((with_reducible refine bel_set ?_ ?_ _); rotate_left; (focus first | (simp; done) | (simp; omega))))) hb; have hc0 := bel_cell hb; have hf0 := bel_frozen hb; have hz0 := hb.size; simp only [World.size_alloc, World.size_setCell] at hz0; have hy0 : w.heap.size + 1 + 1 < W0.heap.size := (by omega); have hx0 : w.heap.size + 1 < W0.heap.size := (by omega); have hw0 : w.heap.size < W0.heap.size := (by omega); have HB0 := Lib.hid hb; clear hb HF))
  refine bodyPost_ret (v := .agg #[.int .i64 x.R, .int .i64 x.A.Fg, .int .i64 x.A.Bg, .bool x.A.Bold, .bool x.A.Under, .bool x.A.Turn]) (by simp [results, Tryd.results98, go_sem, hc0, hf0, hy0, hx0, hw0]) rfl ⟨_, rfl, ⟨_, rfl, ?_⟩, (by repeat (first | (with_reducible exact Below.refl _ _) | (with_reducible assumption) | (with_reducible refine bel_alloc ?_ _) | ((with_reducible refine bel_set ?_ ?_ _); rotate_left; (focus first | (simp; done) | (simp; omega)))))⟩
  exact FrIn.fresh (lo := w.heap.size + 3) (hi := W0.heap.size) (FrIn.consFlat (c1 := [_]) ⟨⟨rfl, h0⟩, rfl⟩ (show FrIn (α := DAttr) (w.heap.size + 3) (W0.heap.size) _ [_, _, _, _, _] x.A from by repeat (first | (with_reducible exact HF0.out) | ((with_reducible refine FrIn.set ?_ (Or.inl ?_) _); rotate_left; (focus first | (simp; done) | (simp; omega) | omega)) | (with_reducible refine FrIn.alloc ?_ _)))) (by first | (simp; done) | (simp; omega) | omega)
theorem info_implCell : (Tryd.prog.info? 66).map (fun i => (i.zero, i.size, i.bytes)) = some (some (.agg #[.int .i64 0, .int .i64 0, .int .i64 0, .bool false, .bool false, .bool false]), 6, 32) := by kernel_rfl
set_option maxRecDepth 100000 in
set_option maxHeartbeats 1000000 in
theorem toCellS_any (w : World) (v : Value) (l : List DCell) (h : RepS w v l) (hsz : l.length ≤ 1048576) :
    Calls Tryd.prog 67 #[v] w (Gives w fun r w' => FreshS w.heap.size w' r l) := by
  obtain ⟨a, cap, rfl, hl, hc⟩ := h
  have HC := Lib.hid hc
  clear hc
  go_enter Tryd.func67, Tryd.ntmps67
  go_wp2_with (at_make; refine wpList_make_row rfl _ _ _ rfl l.length rfl rfl 66 _ _ _ Tryd.underlying30 info_implCell (by omega) (by omega) ?_)
  have hF := Filling.start (α := DCell) w.heap.size w l.length (Value.agg #[.int .i64 0, .int .i64 0, .int .i64 0, .bool false, .bool false, .bool false]).cells (Nat.le_refl _) hl.1
  go_loopw [4] (fun i wr => ∃ k fp, k ≤ l.length ∧ i = .int .i64 (k : Nat) ∧ Filling w.heap.size wr w.heap.size l.length (l.take k) fp ∧ Below w.heap.size w wr) (fun i _ => l.length - (intOf i).toNat)
  case atStart => exact ⟨0, [], Nat.zero_le _, rfl, by simpa [Rep.size, Rep.tid, Value.cells] using hF, (Below.refl _ _).alloc (Nat.le_refl _) _⟩
  case round =>
    clear hF
    obtain ⟨k, fp, hk, rfl, hF, hB0⟩ := hrel
    by_cases hlt : k < l.length
    · have hne : l ≠ [] := by intro e; rw [e] at hlt; simp at hlt
      obtain ⟨b, off, rfl, hc⟩ := HC.out hne
      obtain ⟨x, hx⟩ : ∃ x, l[k]? = some x := ⟨l[k], by simp [hlt]⟩
      obtain ⟨rr, hrep, hcell⟩ := hc k x hx
      have HI := Lib.hid (show (Tryd.prog.info? 125).map (·.size) = some rr.length by rw [Rep.len hrep]; exact size_lawsCell)
      have HL := Lib.hid (show ∀ (j : Nat) u, rr[j]? = some u → wr.cell? ⟨b, off + k * 6 + j, none⟩ = some u from fun j u hu => (hB0.cell (p := ⟨b, _, none⟩) (World.block_lt_of_cell? w _ (hcell j u hu))).trans (hcell j u hu))
      have HR := Lib.hid hrep
      have HT := Lib.hid (show l.take k ++ [x] = l.take (k + 1) by rw [List.take_add_one, hx]; rfl)
      have HK := Lib.hid (show (l.take k).length = k by simp; omega)
      have HF := Lib.hid hF
      clear hc hcell hrep hne hx hF
      go_wp2_with (first | (with_reducible (show wpList _ _ _ (Oper.mk _ (Op.load 125 _) _ _ _ _ :: _) _ _); refine wpList_load_agg rfl 125 _ rfl b _ rfl rr _ HL.out Tryd.underlying125 HI.out ?_) | (go_at_call 98; refine (toCell_any _ rr x (Rep.mono HR.out hB0)).mono ?_; rintro e W1 ⟨_, rfl, ⟨cs', rfl, f, ho, hn, hg⟩, hb⟩; have hB1 : Below w.heap.size w W1 := bel_next hB0 hb; obtain ⟨cur, hgg, hfit, hS⟩ := HF.out.step hb (by rw [HK.out]; omega) ho hn hg (k * 6) (by rw [HK.out]; rfl) _ HT.out 66 rfl; have HO := Lib.hid (Rep.one (Rep.ownRep ho)); have HJ := Lib.hid (show (Tryd.prog.info? 66).map (·.size) = some cs'.length by rw [Rep.len (Rep.ownRep ho)]; exact size_implCell); have HSt := Lib.hid hS; clear hS hb ho hn hg HF) | (with_reducible (show wpList _ _ _ (Oper.mk _ (Op.store 66 _ _) _ _ _ _ :: _) _ _); refine wpList_store_at rfl 66 _ _ rfl _ _ rfl _ rfl cs' rfl cur _ hgg hfit HO.out HJ.out ?_; intro W2 hW2; have HF2 := Lib.hid (HSt.out W2 hW2); have hB2 := below_row hB1 (Nat.le_refl _) hW2; clear hW2 HSt HO))
      go_roundw
      case rel => exact ⟨k + 1, _, by omega, by go_num, HF2.out, hB2⟩
      case measure => simp [intOf]; omega
    · obtain rfl : k = l.length := by omega
      rw [List.take_length] at hF
      go_wp2
      go_ret
      exact ⟨_, rfl, hF.finish rfl (by unfold maxLen; omega), hB0⟩
set_option maxRecDepth 100000 in
set_option maxHeartbeats 2000000 in
theorem toGrid_any (w : World) (cs : List Value) (x : DGrid) (h : Rep.rep w cs x) (hsz : x.bulk ≤ 1048576) :
    Calls Tryd.prog 33 #[.agg cs.toArray] w (Gives w fun r w' => ∃ cs', r = .agg cs'.toArray ∧ Fresh w.heap.size w' cs' x) := by
  obtain ⟨v0, rfl, h0, h1, h2⟩ := DGrid.rep_iff.1 h
  clear h
  unfold DGrid.bulk at hsz
  have Hh2 := Lib.hid h2
  clear h2
  go_enter Tryd.func33, Tryd.ntmps33
  go_wp2_with (first | (go_at_call 67; refine (toCellS_any _ v0 x.Cells (Hh2.out.mono (by repeat (first | (with_reducible exact Below.refl _ _) | (with_reducible assumption) | (with_reducible refine bel_alloc ?_ _) | ((with_reducible refine bel_set ?_ ?_ _); rotate_left; (focus first | (simp; done) | (simp; omega)))))) (by omega)).mono ?_; rintro e W0 ⟨_, rfl, HF, hb⟩; obtain ⟨a0, n0, c0, rfl⟩ := HF.repS.shape; have HF0 := Lib.hid (HF.frIn.wide (lo' := w.heap.size + 3) (hi' := W0.heap.size) (by first | (simp; done) | (simp; omega) | omega) (Nat.le_refl _)); have hB0 : Below w.heap.size w W0 := bel_next (by repeat (first | (with_reducible exact Below.refl _ _) | (with_reducible assumption) | (with_reducible refine bel_alloc ?_ _) | ((with_reducible refine bel_set ?_ ?_ _); rotate_left; (focus first | (simp; done) | (simp; omega))))) hb; have hc0 := bel_cell hb; have hf0 := bel_frozen hb; have hz0 := hb.size; simp only [World.size_alloc, World.size_setCell] at hz0; have hy0 : w.heap.size + 1 + 1 < W0.heap.size := (by omega); have hx0 : w.heap.size + 1 < W0.heap.size := (by omega); have hw0 : w.heap.size < W0.heap.size := (by omega); have HB0 := Lib.hid hb; clear hb HF))
  refine bodyPost_ret (v := .agg #[.int .i64 x.W, .int .i64 x.H, .slice a0 n0 c0]) (by simp [results, Tryd.results33, go_sem, hc0, hf0, hy0, hx0, hw0]) rfl ⟨_, rfl, ⟨_, rfl, ?_⟩, (by repeat (first | (with_reducible exact Below.refl _ _) | (with_reducible assumption) | (with_reducible refine bel_alloc ?_ _) | ((with_reducible refine bel_set ?_ ?_ _); rotate_left; (focus first | (simp; done) | (simp; omega)))))⟩
  exact FrIn.fresh (lo := w.heap.size + 3) (hi := W0.heap.size) (FrIn.consFlat (c1 := [_]) ⟨⟨rfl, h0⟩, rfl⟩ (FrIn.consFlat (c1 := [_]) ⟨⟨rfl, h1⟩, rfl⟩ (show FrIn (α := (List DCell)) (w.heap.size + 3) (W0.heap.size) _ [_] x.Cells from by repeat (first | (with_reducible exact HF0.out) | ((with_reducible refine FrIn.set ?_ (Or.inl ?_) _); rotate_left; (focus first | (simp; done) | (simp; omega) | omega)) | (with_reducible refine FrIn.alloc ?_ _))))) (by first | (simp; done) | (simp; omega) | omega)
set_option maxRecDepth 100000 in
set_option maxHeartbeats 2000000 in
theorem toOp_any (w : World) (cs : List Value) (x : DOp) (h : Rep.rep w cs x) (hsz : x.bulk ≤ 1048576) :
    Calls Tryd.prog 25 #[.agg cs.toArray] w (Gives w fun r w' => ∃ cs', r = .agg cs'.toArray ∧ Fresh w.heap.size w' cs' x) := by
  obtain ⟨v0, rfl, h0, h1, h2, h3, h4, h5, h6, h7⟩ := DOp.rep_iff.1 h
  clear h
  unfold DOp.bulk at hsz
  have Hh7 := Lib.hid h7
  clear h7
  go_enter Tryd.func25, Tryd.ntmps25
  go_wp2_with (first | (go_at_call 49; refine (toByteS_any _ v0 x.Data (Hh7.out.mono (by repeat (first | (with_reducible exact Below.refl _ _) | (with_reducible assumption) | (with_reducible refine bel_alloc ?_ _) | ((with_reducible refine bel_set ?_ ?_ _); rotate_left; (focus first | (simp; done) | (simp; omega)))))) (by omega)).mono ?_; rintro e W0 ⟨_, rfl, HF, hb⟩; obtain ⟨a0, n0, c0, rfl⟩ := HF.repS.shape; have HF0 := Lib.hid (HF.frIn.wide (lo' := w.heap.size + 3) (hi' := W0.heap.size) (by first | (simp; done) | (simp; omega) | omega) (Nat.le_refl _)); have hB0 : Below w.heap.size w W0 := bel_next (by repeat (first | (with_reducible exact Below.refl _ _) | (with_reducible assumption) | (with_reducible refine bel_alloc ?_ _) | ((with_reducible refine bel_set ?_ ?_ _); rotate_left; (focus first | (simp; done) | (simp; omega))))) hb; have hc0 := bel_cell hb; have hf0 := bel_frozen hb; have hz0 := hb.size; simp only [World.size_alloc, World.size_setCell] at hz0; have hy0 : w.heap.size + 1 + 1 < W0.heap.size := (by omega); have hx0 : w.heap.size + 1 < W0.heap.size := (by omega); have hw0 : w.heap.size < W0.heap.size := (by omega); have HB0 := Lib.hid hb; clear hb HF))
  refine bodyPost_ret (v := .agg #[.int .i64 x.Kind, .int .i64 x.A, .int .i64 x.B, .int .i64 x.C, .string x.Name, .string x.Text, .string x.Dir, .slice a0 n0 c0]) (by simp [results, Tryd.results25, go_sem, hc0, hf0, hy0, hx0, hw0]) rfl ⟨_, rfl, ⟨_, rfl, ?_⟩, (by repeat (first | (with_reducible exact Below.refl _ _) | (with_reducible assumption) | (with_reducible refine bel_alloc ?_ _) | ((with_reducible refine bel_set ?_ ?_ _); rotate_left; (focus first | (simp; done) | (simp; omega)))))⟩
  exact FrIn.fresh (lo := w.heap.size + 3) (hi := W0.heap.size) (FrIn.consFlat (c1 := [_]) ⟨⟨rfl, h0⟩, rfl⟩ (FrIn.consFlat (c1 := [_]) ⟨⟨rfl, h1⟩, rfl⟩ (FrIn.consFlat (c1 := [_]) ⟨⟨rfl, h2⟩, rfl⟩ (FrIn.consFlat (c1 := [_]) ⟨⟨rfl, h3⟩, rfl⟩ (FrIn.consFlat (c1 := [_]) ⟨⟨rfl, h4⟩, rfl⟩ (FrIn.consFlat (c1 := [_]) ⟨⟨rfl, h5⟩, rfl⟩ (FrIn.consFlat (c1 := [_]) ⟨⟨rfl, h6⟩, rfl⟩ (show FrIn (α := (List UInt8)) (w.heap.size + 3) (W0.heap.size) _ [_] x.Data from by repeat (first | (with_reducible exact HF0.out) | ((with_reducible refine FrIn.set ?_ (Or.inl ?_) _); rotate_left; (focus first | (simp; done) | (simp; omega) | omega)) | (with_reducible refine FrIn.alloc ?_ _)))))))))) (by first | (simp; done) | (simp; omega) | omega)
set_option maxRecDepth 100000 in
set_option maxHeartbeats 2000000 in
theorem toView_any (w : World) (cs : List Value) (x : DView) (h : Rep.rep w cs x) (hsz : x.bulk ≤ 1048576) :
    Calls Tryd.prog 9 #[.agg cs.toArray] w (Gives w fun r w' => ∃ cs', r = .agg cs'.toArray ∧ Fresh w.heap.size w' cs' x) := by
  obtain ⟨v0, rfl, h0, h1, h2, h3, h4⟩ := DView.rep_iff.1 h
  clear h
  unfold DView.bulk at hsz
  have Hh2 := Lib.hid h2
  clear h2
  go_enter Tryd.func9, Tryd.ntmps9
  go_wp2_with (first | (go_at_call 33; refine (toGrid_any _ [_, _, _] x.Grid (DGrid.rep_iff.2 ⟨v0, rfl, h0, h1, (Hh2.out.mono (by repeat (first | (with_reducible exact Below.refl _ _) | (with_reducible assumption) | (with_reducible refine bel_alloc ?_ _) | ((with_reducible refine bel_set ?_ ?_ _); rotate_left; (focus first | (simp; done) | (simp; omega))))))⟩) (by omega)).mono ?_; rintro e W0 ⟨_, rfl, ⟨cs0, rfl, HF⟩, hb⟩; obtain ⟨a0, n0, c0, rfl⟩ := DGrid.shape HF.rep; have HF0 := Lib.hid (HF.frIn.wide (lo' := w.heap.size + 3) (hi' := W0.heap.size) (by first | (simp; done) | (simp; omega) | omega) (Nat.le_refl _)); have hB0 : Below w.heap.size w W0 := bel_next (by repeat (first | (with_reducible exact Below.refl _ _) | (with_reducible assumption) | (with_reducible refine bel_alloc ?_ _) | ((with_reducible refine bel_set ?_ ?_ _); rotate_left; (focus first | (simp; done) | (simp; omega))))) hb; have hc0 := bel_cell hb; have hf0 := bel_frozen hb; have hz0 := hb.size; simp only [World.size_alloc, World.size_setCell] at hz0; have hy0 : w.heap.size + 1 + 1 < W0.heap.size := (by omega); have hx0 : w.heap.size + 1 < W0.heap.size := (by omega); have hw0 : w.heap.size < W0.heap.size := (by omega); have HB0 := Lib.hid hb; clear hb HF))
  refine bodyPost_ret (v := .agg #[.int .i64 x.Grid.W, .int .i64 x.Grid.H, .slice a0 n0 c0, .int .i64 x.X, .int .i64 x.Y, .bool x.Hide]) (by simp [results, Tryd.results9, go_sem, hc0, hf0, hy0, hx0, hw0]) rfl ⟨_, rfl, ⟨_, rfl, ?_⟩, (by repeat (first | (with_reducible exact Below.refl _ _) | (with_reducible assumption) | (with_reducible refine bel_alloc ?_ _) | ((with_reducible refine bel_set ?_ ?_ _); rotate_left; (focus first | (simp; done) | (simp; omega)))))⟩
  exact FrIn.fresh (lo := w.heap.size + 3) (hi := W0.heap.size) (FrIn.snocFlat (c1 := [_, _, _]) (show FrIn (α := DGrid) (w.heap.size + 3) (W0.heap.size) _ [_, _, _] x.Grid from by repeat (first | (with_reducible exact HF0.out) | ((with_reducible refine FrIn.set ?_ (Or.inl ?_) _); rotate_left; (focus first | (simp; done) | (simp; omega) | omega)) | (with_reducible refine FrIn.alloc ?_ _))) ⟨[_], _, [], [], rfl, ⟨⟨rfl, h3⟩, rfl⟩, ⟨[_], _, [], [], rfl, ⟨⟨rfl, h4⟩, rfl⟩, ⟨rfl, rfl⟩, rfl⟩, rfl⟩) (by first | (simp; done) | (simp; omega) | omega)
set_option maxRecDepth 100000 in
set_option maxHeartbeats 2000000 in
theorem toStep_any (w : World) (cs : List Value) (x : DStep) (h : Rep.rep w cs x) (hsz : x.bulk ≤ 1048576) :
    Calls Tryd.prog 20 #[.agg cs.toArray] w (Gives w fun r w' => ∃ cs', r = .agg cs'.toArray ∧ Fresh w.heap.size w' cs' x) := by
  obtain ⟨v0, v1, rfl, h0, h1, h2, h3, h4, h5⟩ := DStep.rep_iff.1 h
  clear h
  unfold DStep.bulk at hsz
  have Hh4 := Lib.hid h4
  clear h4
  have Hh5 := Lib.hid h5
  clear h5
  go_enter Tryd.func20, Tryd.ntmps20
  go_wp2_with (first | (go_at_call 49; refine (toByteS_any _ v0 x.Data (Hh4.out.mono (by repeat (first | (with_reducible exact Below.refl _ _) | (with_reducible assumption) | (with_reducible refine bel_alloc ?_ _) | ((with_reducible refine bel_set ?_ ?_ _); rotate_left; (focus first | (simp; done) | (simp; omega)))))) (by omega)).mono ?_; rintro e W0 ⟨_, rfl, HF, hb⟩; obtain ⟨a0, n0, c0, rfl⟩ := HF.repS.shape; have HF0 := Lib.hid (HF.frIn.wide (lo' := w.heap.size + 3) (hi' := W0.heap.size) (by first | (simp; done) | (simp; omega) | omega) (Nat.le_refl _)); have hB0 : Below w.heap.size w W0 := bel_next (by repeat (first | (with_reducible exact Below.refl _ _) | (with_reducible assumption) | (with_reducible refine bel_alloc ?_ _) | ((with_reducible refine bel_set ?_ ?_ _); rotate_left; (focus first | (simp; done) | (simp; omega))))) hb; have hc0 := bel_cell hb; have hf0 := bel_frozen hb; have hz0 := hb.size; simp only [World.size_alloc, World.size_setCell] at hz0; have hy0 : w.heap.size + 1 + 1 < W0.heap.size := (by omega); have hx0 : w.heap.size + 1 < W0.heap.size := (by omega); have hw0 : w.heap.size < W0.heap.size := (by omega); have HB0 := Lib.hid hb; clear hb HF) | (go_at_call 50; refine (toIntS_any _ v1 x.Cuts (Hh5.out.mono (by repeat (first | (with_reducible exact Below.refl _ _) | (with_reducible assumption) | (with_reducible refine bel_alloc ?_ _) | ((with_reducible refine bel_set ?_ ?_ _); rotate_left; (focus first | (simp; done) | (simp; omega)))))) (by omega)).mono ?_; rintro e W1 ⟨_, rfl, HF, hb⟩; obtain ⟨a1, n1, c1, rfl⟩ := HF.repS.shape; have HF1 := Lib.hid (HF.frIn.wide (lo' := W0.heap.size) (hi' := W1.heap.size) (by first | (simp; done) | (simp; omega) | omega) (Nat.le_refl _)); have hB1 : Below w.heap.size w W1 := bel_next (by repeat (first | (with_reducible exact Below.refl _ _) | (with_reducible assumption) | (with_reducible refine bel_alloc ?_ _) | ((with_reducible refine bel_set ?_ ?_ _); rotate_left; (focus first | (simp; done) | (simp; omega))))) hb; have hc1 := bel_cell hb; have hf1 := bel_frozen hb; have hz1 := hb.size; simp only [World.size_alloc, World.size_setCell] at hz1; have hy1 : w.heap.size + 1 + 1 < W1.heap.size := (by omega); have hx1 : w.heap.size + 1 < W1.heap.size := (by omega); have hw1 : w.heap.size < W1.heap.size := (by omega); have HB1 := Lib.hid hb; clear hb HF))
  refine bodyPost_ret (v := .agg #[.int .i64 x.Kind, .int .i64 x.A, .int .i64 x.B, .string x.Text, .slice a0 n0 c0, .slice a1 n1 c1]) (by simp [results, Tryd.results20, go_sem, hc0, hf0, hy0, hx0, hw0, hc1, hf1, hy1, hx1, hw1]) rfl ⟨_, rfl, ⟨_, rfl, ?_⟩, (by repeat (first | (with_reducible exact Below.refl _ _) | (with_reducible assumption) | (with_reducible refine bel_alloc ?_ _) | ((with_reducible refine bel_set ?_ ?_ _); rotate_left; (focus first | (simp; done) | (simp; omega)))))⟩
  exact FrIn.fresh (lo := w.heap.size + 3) (hi := W1.heap.size) (FrIn.consFlat (c1 := [_]) ⟨⟨rfl, h0⟩, rfl⟩ (FrIn.consFlat (c1 := [_]) ⟨⟨rfl, h1⟩, rfl⟩ (FrIn.consFlat (c1 := [_]) ⟨⟨rfl, h2⟩, rfl⟩ (FrIn.consFlat (c1 := [_]) ⟨⟨rfl, h3⟩, rfl⟩ (FrIn.pair (c1 := [_]) (show FrIn (α := (List UInt8)) (w.heap.size + 3) (W0.heap.size) _ [_] x.Data from by repeat (first | (with_reducible exact HF0.out) | ((with_reducible refine FrIn.set ?_ (Or.inl ?_) _); rotate_left; (focus first | (simp; done) | (simp; omega) | omega)) | (with_reducible refine FrIn.below HB1.out ?_) | (with_reducible refine FrIn.alloc ?_ _))) (show FrIn (α := (List Int)) (W0.heap.size) (W1.heap.size) _ [_] x.Cuts from by repeat (first | (with_reducible exact HF1.out) | ((with_reducible refine FrIn.set ?_ (Or.inl ?_) _); rotate_left; (focus first | (simp; done) | (simp; omega) | omega)) | (with_reducible refine FrIn.alloc ?_ _))) (by first | (simp; done) | (simp; omega) | omega) (by first | (simp; done) | (simp; omega) | omega) (by first | (simp; done) | (simp; omega) | omega)))))) (by first | (simp; done) | (simp; omega) | omega)
end Go.Proofs.YtlkadeaomjoiiaaDoor
