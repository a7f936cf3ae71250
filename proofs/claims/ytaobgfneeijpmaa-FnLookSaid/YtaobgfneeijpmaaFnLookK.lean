/- The walk of the program's Look, joined. -/
import Derived.Test.YtaobgfneeijpmaaFnLookJ
set_option linter.unusedSimpArgs false
set_option linter.unusedVariables false
namespace Go.Mux
open Go.RowKit
theorem look_no {x : DScr} {back : Int} (h : scrOkB x = false) : lookG x back = { W := 0, H := 0, Cells := [] } := by unfold lookG; rw [h]; rfl
theorem look_shown {x : DScr} {back : Int} (h : scrOkB x = true) (hs : (x.OnAlt || decide (back ≤ 0)) = true) : lookG x back = shownG x := by unfold lookG; rw [h, hs]; rfl
theorem look_back {x : DScr} {back : Int} (h : scrOkB x = true) (hs : (x.OnAlt || decide (back ≤ 0)) = false) : lookG x back = lookBack x back := by unfold lookG; rw [h, hs]; rfl
theorem empty_fresh (B : Nat) (w : World) : Fresh B w [.int .i64 0, .int .i64 0, .slice none 0 0] ({ W := 0, H := 0, Cells := [] } : DGrid) :=
  ⟨[], DGrid.own_iff.2 ⟨_, rfl, ⟨by decide, by decide⟩, ⟨by decide, by decide⟩, ⟨[], [], ⟨by simp, .inl ⟨rfl, rfl⟩⟩, by simp, rfl, rfl, by simp, by simp [Value.ownBlock]⟩⟩, by simp, by simp⟩
end Go.Mux
namespace Go.Proofs.Ytaobgfneeijpmaa
open Go.RowKit Go.Mux
theorem impl_look' (w : World) (g : Nat) (cs : List Value) (x : DScr) (back : Int) (h : Rep.rep w cs x) (hbox : w.heap[g]? = some (.cells cs.toArray 31 (0, 0))) (hg : scrOkB x = true) :
    Calls Try.prog 24 #[.pointer (some ⟨g, 0, none⟩), .int .i64 back] w (Gives w fun r w' => ∃ cs', r = .agg cs'.toArray ∧ Fresh w.heap.size w' cs' (lookG x back)) := by
  cases hs : (x.OnAlt || decide (back ≤ 0))
  · rw [look_back hg hs]
    simp only [Bool.or_eq_false_iff, decide_eq_false_iff_not] at hs
    exact impl_look_back w g cs x back h hbox hg hs.1 (by omega)
  · rw [look_shown hg hs]
    exact impl_look_shown w g cs x back h hbox hg hs
set_option maxRecDepth 100000 in
set_option maxHeartbeats 1000000 in
theorem impl_Look' (w : World) (cs : List Value) (x : DScr) (back : Int) (h : Rep.rep w cs x) : Calls Try.prog 7 #[.agg cs.toArray, .int .i64 back] w (Gives w fun r w' => ∃ cs', r = .agg cs'.toArray ∧ Fresh w.heap.size w' cs' (lookG x back)) := by
  have hl : (Try.prog.info? 31).map (·.size) = some cs.toArray.size := by rw [List.size_toArray, Rep.len h]; exact size_implScr
  have HP := Lib.hid h
  clear h
  cases hs : scrOkB x
  · have HS := Lib.hid hs
    clear hs
    go_enter Try.func7, Try.ntmps7
    go_wp2_with (first | ((with_reducible (show wpList _ _ _ (Oper.mk _ (Op.load 31 _) _ _ _ _ :: _) _ _)); generalize hwb : World.alloc (World.alloc w _) _ = W0; have HB0 := Lib.hid (show Below w.heap.size w W0 from (by rw [← hwb]; exact bel_alloc (bel_alloc (Below.refl _ _) _) _)); have hz0 : w.heap.size + 1 < W0.heap.size := (by rw [← hwb]; simp); have hr0 : W0.heap[w.heap.size]? = some (.cells cs.toArray 31 (0, 0)) := (by rw [← hwb]; exact (Below.heap_alloc _ _ _ (by simp)).trans (new_at _ _ rfl)); have hr1 : W0.heap[w.heap.size + 1]? = some (.cells #[.int .i64 0, .int .i64 0, .slice none 0 0] 25 (0, 0)) := (by rw [← hwb]; exact new_at _ _ (by simp)); clear hwb; refine wpList_load_row rfl 31 _ rfl w.heap.size rfl 31 cs.toArray (0, 0) _ hr0 Try.underlying31 rfl hl ?_) | (go_at_call 23; refine (impl_ScrOk _ cs x (Rep.mono HP.out HB0.out)).mono ?_; rintro e W1 ⟨_, rfl, rfl, hb⟩; rw [HS.out]; have HB1 := Lib.hid (bel_next HB0.out hb); have hr2 := (hb.block (w.heap.size + 1) hz0).trans hr1; clear hb) | ((with_reducible (show wpList _ _ _ (Oper.mk _ (Op.store 25 _ _) _ _ _ _ :: _) _ _)); refine wpList_store_at rfl 25 _ _ rfl (w.heap.size + 1) 0 rfl _ rfl [.int .i64 0, .int .i64 0, .slice none 0 0] rfl #[.int .i64 0, .int .i64 0, .slice none 0 0] 25 hr2 (Nat.le_of_ble_eq_true rfl) (by simp [Value.oneCell']) size_implGrid ?_; intro W3 hW; have hM := Moved.row hW; have hr3 : W3.heap[w.heap.size + 1]? = some (.cells #[.int .i64 0, .int .i64 0, .slice none 0 0] 25 (0, 0)) := (by rw [hW, setRow_heap _ _ _ _ _ _ hr2]; rfl); clear hW))
    exact bodyPost_ret (results_cell_row Try.results7 _ _ (w.heap.size + 1) 25 #[.int .i64 0, .int .i64 0, .slice none 0 0] (0, 0) _ rfl hr3 Try.underlying25 rfl size_implGrid) rfl ⟨_, rfl, ⟨[.int .i64 0, .int .i64 0, .slice none 0 0], rfl, by rw [look_no HS.out]; exact empty_fresh _ _⟩, hM.below HB1.out (by omega)⟩
  · have HS := Lib.hid hs
    clear hs
    go_enter Try.func7, Try.ntmps7
    go_wp2_with (first | ((with_reducible (show wpList _ _ _ (Oper.mk _ (Op.load 31 _) _ _ _ _ :: _) _ _)); generalize hwb : World.alloc (World.alloc w _) _ = W0; have HB0 := Lib.hid (show Below w.heap.size w W0 from (by rw [← hwb]; exact bel_alloc (bel_alloc (Below.refl _ _) _) _)); have hz0 : w.heap.size + 1 < W0.heap.size := (by rw [← hwb]; simp); have hr0 : W0.heap[w.heap.size]? = some (.cells cs.toArray 31 (0, 0)) := (by rw [← hwb]; exact (Below.heap_alloc _ _ _ (by simp)).trans (new_at _ _ rfl)); have hr1 : W0.heap[w.heap.size + 1]? = some (.cells #[.int .i64 0, .int .i64 0, .slice none 0 0] 25 (0, 0)) := (by rw [← hwb]; exact new_at _ _ (by simp)); clear hwb; refine wpList_load_row rfl 31 _ rfl w.heap.size rfl 31 cs.toArray (0, 0) _ hr0 Try.underlying31 rfl hl ?_) | (go_at_call 23; refine (impl_ScrOk _ cs x (Rep.mono HP.out HB0.out)).mono ?_; rintro e W1 ⟨_, rfl, rfl, hb⟩; rw [HS.out]; have HB1 := Lib.hid (bel_next HB0.out hb); have hr2 := (hb.block (w.heap.size + 1) hz0).trans hr1; have hrb := (hb.block w.heap.size (by omega)).trans hr0; have hz1 : w.heap.size + 1 < W1.heap.size := Nat.lt_of_lt_of_le hz0 hb.size; clear hb) | (go_at_call 24; refine (impl_look' _ w.heap.size cs x back (Rep.mono HP.out HB1.out) hrb HS.out).mono ?_; rintro e W2 ⟨_, rfl, ⟨cs2, rfl, HF⟩, hb⟩; obtain ⟨a2, n2, c2, rfl⟩ := DGrid.shape HF.rep; have HF2 := Lib.hid HF; have HB2 := Lib.hid (bel_next HB1.out hb); have hr2 := (hb.block (w.heap.size + 1) hz1).trans hr2; clear hb HF) | ((with_reducible (show wpList _ _ _ (Oper.mk _ (Op.store 25 _ _) _ _ _ _ :: _) _ _)); refine wpList_store_at rfl 25 _ _ rfl (w.heap.size + 1) 0 rfl _ rfl [.int .i64 (lookG x back).W, .int .i64 (lookG x back).H, .slice a2 n2 c2] rfl #[.int .i64 0, .int .i64 0, .slice none 0 0] 25 hr2 (Nat.le_of_ble_eq_true rfl) (by simp [Value.oneCell']) size_implGrid ?_; intro W3 hW; have hM := Moved.row hW; have hr3 : W3.heap[w.heap.size + 1]? = some (.cells #[.int .i64 (lookG x back).W, .int .i64 (lookG x back).H, .slice a2 n2 c2] 25 (0, 0)) := (by rw [hW, setRow_heap _ _ _ _ _ _ hr2]; rfl); clear hW))
    exact bodyPost_ret (results_cell_row Try.results7 _ _ (w.heap.size + 1) 25 #[.int .i64 (lookG x back).W, .int .i64 (lookG x back).H, .slice a2 n2 c2] (0, 0) _ rfl hr3 Try.underlying25 rfl size_implGrid) rfl ⟨_, rfl, ⟨[.int .i64 (lookG x back).W, .int .i64 (lookG x back).H, .slice a2 n2 c2], rfl, fresh_le (fresh_moved HF2.out hM hz1) (by omega)⟩, hM.below HB2.out (by omega)⟩
end Go.Proofs.Ytaobgfneeijpmaa
