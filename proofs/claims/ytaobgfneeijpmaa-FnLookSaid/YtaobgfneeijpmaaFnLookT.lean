/- The walk of the reference's Look. -/
import Derived.Test.YtaobgfneeijpmaaFnScrS
import Derived.Test.YtaobgfneeijpmaaFnLookS
import Derived.Test.YtaobgfneeijpmaaFnLookK
import Derived.Test.YtaobgfneeijpmaaStepApp
set_option linter.unusedSimpArgs false
set_option linter.unusedVariables false
namespace Go.Mux
open Go.RowKit
theorem shownG_len {x : DScr} (h : scrOkB x = true) : (shownG x).Cells.length ≤ 2097152 := by
  have q := scrOkB_true h
  obtain ⟨_, _, _, _, _, m6, m7⟩ := gridOkB_size q.2.2.2.2.1
  obtain ⟨_, _, _, _, _, n6, n7⟩ := gridOkB_size q.2.2.2.2.2.1
  unfold shownG
  split <;> omega
end Go.Mux
namespace Go.Proofs.Ytaobgfneeijpmaa
open Go.RowKit Go.Mux
set_option maxRecDepth 100000 in
set_option maxHeartbeats 1000000 in
theorem spec_Shown' (w : World) (cs : List Value) (x : DScr) (h : Rep.rep w cs x) (hg : scrOkB x = true) : Calls Try.prog 9 #[.agg cs.toArray] w (Gives w fun r w' => ∃ cs', r = .agg cs'.toArray ∧ Fresh w.heap.size w' cs' (shownG x)) := by
  have hl : (Try.prog.info? 31).map (·.size) = some cs.toArray.size := by rw [List.size_toArray, Rep.len h]; exact size_implScr
  have HP := Lib.hid h
  have HS := Lib.hid hg
  clear h hg
  go_enter Try.func9, Try.ntmps9
  go_wp2_with (first | ((with_reducible (show wpList _ _ _ (Oper.mk _ (Op.load 31 _) _ _ _ _ :: _) _ _)); refine wpList_load_row rfl 31 _ rfl w.heap.size rfl 31 cs.toArray (0, 0) _ hb1 Try.underlying31 rfl hl ?_) | ((with_reducible (show wpList _ _ _ (Oper.mk _ (Op.load 31 _) _ _ _ _ :: _) _ _)); generalize hwb : World.alloc (World.alloc w _) _ = W0; have HB0 := Lib.hid (show Below w.heap.size w W0 from (by rw [← hwb]; exact bel_alloc (bel_alloc (Below.refl _ _) _) _)); have hz0 : w.heap.size + 1 < W0.heap.size := (by rw [← hwb]; simp); have hr0 : W0.heap[w.heap.size]? = some (.cells cs.toArray 31 (0, 0)) := (by rw [← hwb]; exact (Below.heap_alloc _ _ _ (by simp)).trans (new_at _ _ rfl)); have hr1 : W0.heap[w.heap.size + 1]? = some (.cells #[.int .i64 0, .int .i64 0, .slice none 0 0] 25 (0, 0)) := (by rw [← hwb]; exact new_at _ _ (by simp)); clear hwb; refine wpList_load_row rfl 31 _ rfl w.heap.size rfl 31 cs.toArray (0, 0) _ hr0 Try.underlying31 rfl hl ?_) | (go_at_call 27; refine (spec_ScrOk _ cs x (Rep.mono HP.out HB0.out)).mono ?_; rintro e W1 ⟨_, rfl, rfl, hb⟩; rw [HS.out]; have HB1 := Lib.hid (bel_next HB0.out hb); have hs1 := (hb.block (w.heap.size + 1) hz0).trans hr1; have hb1 := (hb.block w.heap.size (by omega)).trans hr0; have hz1 : w.heap.size + 1 < W1.heap.size := Nat.lt_of_lt_of_le hz0 hb.size; clear hb) | (go_at_call 29; refine (spec_l09Shown _ cs x (Rep.mono HP.out HB1.out)).mono ?_; rintro e W2 ⟨_, rfl, ⟨cs2, rfl, hF⟩, hb⟩; have HF2 := Lib.hid hF; have HB2 := Lib.hid (bel_next HB1.out hb); have hs2 := (hb.block (w.heap.size + 1) hz1).trans hs1; have hz2 : w.heap.size + 1 < W2.heap.size := Nat.lt_of_lt_of_le hz1 hb.size; clear hb hF) | (go_at_call 28; refine (spec_l07Copy _ cs2 (shownG x) HF2.out (shownG_len HS.out)).mono ?_; rintro e W4 ⟨_, rfl, ⟨cs4, rfl, hF⟩, hb⟩; obtain ⟨a2, n2, c2, rfl⟩ := DGrid.shape hF.rep; have HF4 := Lib.hid hF; have HB4 := Lib.hid (bel_next HB2.out hb); have hs4 := (hb.block (w.heap.size + 1) hz2).trans hs2; clear hb hF) | ((with_reducible (show wpList _ _ _ (Oper.mk _ (Op.store 25 _ _) _ _ _ _ :: _) _ _)); refine wpList_store_at rfl 25 _ _ rfl (w.heap.size + 1) 0 rfl _ rfl [.int .i64 (shownG x).W, .int .i64 (shownG x).H, .slice a2 n2 c2] rfl #[.int .i64 0, .int .i64 0, .slice none 0 0] 25 hs4 (Nat.le_of_ble_eq_true rfl) (by simp [Value.oneCell']) size_implGrid ?_; intro W5 hW; have hM5 := Moved.row hW; have hr5 : W5.heap[w.heap.size + 1]? = some (.cells #[.int .i64 (shownG x).W, .int .i64 (shownG x).H, .slice a2 n2 c2] 25 (0, 0)) := (by rw [hW, setRow_heap _ _ _ _ _ _ hs4]; rfl); clear hW))
  exact bodyPost_ret (results_cell_row Try.results9 _ _ (w.heap.size + 1) 25 #[.int .i64 (shownG x).W, .int .i64 (shownG x).H, .slice a2 n2 c2] (0, 0) _ rfl hr5 Try.underlying25 rfl size_implGrid) rfl ⟨_, rfl, ⟨[.int .i64 (shownG x).W, .int .i64 (shownG x).H, .slice a2 n2 c2], rfl, fresh_le (fresh_moved HF4.out hM5 hz2) (by omega)⟩, hM5.below HB4.out (by omega)⟩
set_option maxRecDepth 100000 in
set_option maxHeartbeats 1000000 in
theorem spec_Look_no (w : World) (cs : List Value) (x : DScr) (back : Int) (h : Rep.rep w cs x) (hg : scrOkB x = false) : Calls Try.prog 12 #[.agg cs.toArray, .int .i64 back] w (Gives w fun r w' => ∃ cs', r = .agg cs'.toArray ∧ Rep.rep w' cs' (lookG x back)) := by
  have hl : (Try.prog.info? 31).map (·.size) = some cs.toArray.size := by rw [List.size_toArray, Rep.len h]; exact size_implScr
  have HP := Lib.hid h
  have HS := Lib.hid hg
  clear h hg
  go_enter Try.func12, Try.ntmps12
  go_wp2_with (first | ((with_reducible (show wpList _ _ _ (Oper.mk _ (Op.load 31 _) _ _ _ _ :: _) _ _)); generalize hwb : World.alloc (World.alloc w _) _ = W0; have HB0 := Lib.hid (show Below w.heap.size w W0 from (by rw [← hwb]; exact bel_alloc (bel_alloc (Below.refl _ _) _) _)); have hz0 : w.heap.size + 1 < W0.heap.size := (by rw [← hwb]; simp); have hr0 : W0.heap[w.heap.size]? = some (.cells cs.toArray 31 (0, 0)) := (by rw [← hwb]; exact (Below.heap_alloc _ _ _ (by simp)).trans (new_at _ _ rfl)); have hr1 : W0.heap[w.heap.size + 1]? = some (.cells #[.int .i64 0, .int .i64 0, .slice none 0 0] 25 (0, 0)) := (by rw [← hwb]; exact new_at _ _ (by simp)); clear hwb; refine wpList_load_row rfl 31 _ rfl w.heap.size rfl 31 cs.toArray (0, 0) _ hr0 Try.underlying31 rfl hl ?_) | (go_at_call 27; refine (spec_ScrOk _ cs x (Rep.mono HP.out HB0.out)).mono ?_; rintro e W1 ⟨_, rfl, rfl, hb⟩; rw [HS.out]; have HB1 := Lib.hid (bel_next HB0.out hb); have hs1 := (hb.block (w.heap.size + 1) hz0).trans hr1; have hb1 := (hb.block w.heap.size (by omega)).trans hr0; have hz1 : w.heap.size + 1 < W1.heap.size := Nat.lt_of_lt_of_le hz0 hb.size; clear hb) | ((with_reducible (show wpList _ _ _ (Oper.mk _ (Op.store 25 _ _) _ _ _ _ :: _) _ _)); refine wpList_store_at rfl 25 _ _ rfl (w.heap.size + 1) 0 rfl _ rfl [.int .i64 0, .int .i64 0, .slice none 0 0] rfl #[.int .i64 0, .int .i64 0, .slice none 0 0] 25 hs1 (Nat.le_of_ble_eq_true rfl) (by simp [Value.oneCell']) size_implGrid ?_; intro W5 hW; have hM5 := Moved.row hW; have hr5 : W5.heap[w.heap.size + 1]? = some (.cells #[.int .i64 0, .int .i64 0, .slice none 0 0] 25 (0, 0)) := (by rw [hW, setRow_heap _ _ _ _ _ _ hs1]; rfl); clear hW))
  exact bodyPost_ret (results_cell_row Try.results12 _ _ (w.heap.size + 1) 25 #[.int .i64 0, .int .i64 0, .slice none 0 0] (0, 0) _ rfl hr5 Try.underlying25 rfl size_implGrid) rfl ⟨_, rfl, ⟨[.int .i64 0, .int .i64 0, .slice none 0 0], rfl, by rw [look_no HS.out]; exact (empty_fresh 0 _).rep⟩, hM5.below HB1.out (by omega)⟩
set_option maxRecDepth 100000 in
set_option maxHeartbeats 1000000 in
theorem spec_Look_shown (w : World) (cs : List Value) (x : DScr) (back : Int) (h : Rep.rep w cs x) (hg : scrOkB x = true) (hs : (x.OnAlt || decide (back ≤ 0)) = true) : Calls Try.prog 12 #[.agg cs.toArray, .int .i64 back] w (Gives w fun r w' => ∃ cs', r = .agg cs'.toArray ∧ Rep.rep w' cs' (lookG x back)) := by
  have hl : (Try.prog.info? 31).map (·.size) = some cs.toArray.size := by rw [List.size_toArray, Rep.len h]; exact size_implScr
  have HP := Lib.hid h
  have HS := Lib.hid hg
  have h8 : cs[8]? = some (.bool x.OnAlt) := by obtain ⟨_, _, _, _, rfl, _⟩ := DScr.rep_iff.1 h; rfl
  have H8 := Lib.hid h8
  have HLK := Lib.hid (look_shown hg hs)
  clear h hg h8
  cases ho : x.OnAlt
  all_goals
    rw [ho] at hs H8
    clear ho
    go_enter Try.func12, Try.ntmps12
    go_wp2_with (first | ((with_reducible (show wpList _ _ _ (Oper.mk _ (Op.load 31 _) _ _ _ _ :: _) _ _)); refine wpList_load_row rfl 31 _ rfl w.heap.size rfl 31 cs.toArray (0, 0) _ hb1 Try.underlying31 rfl hl ?_) | ((with_reducible (show wpList _ _ _ (Oper.mk _ (Op.load 31 _) _ _ _ _ :: _) _ _)); generalize hwb : World.alloc (World.alloc w _) _ = W0; have HB0 := Lib.hid (show Below w.heap.size w W0 from (by rw [← hwb]; exact bel_alloc (bel_alloc (Below.refl _ _) _) _)); have hz0 : w.heap.size + 1 < W0.heap.size := (by rw [← hwb]; simp); have hr0 : W0.heap[w.heap.size]? = some (.cells cs.toArray 31 (0, 0)) := (by rw [← hwb]; exact (Below.heap_alloc _ _ _ (by simp)).trans (new_at _ _ rfl)); have hr1 : W0.heap[w.heap.size + 1]? = some (.cells #[.int .i64 0, .int .i64 0, .slice none 0 0] 25 (0, 0)) := (by rw [← hwb]; exact new_at _ _ (by simp)); clear hwb; refine wpList_load_row rfl 31 _ rfl w.heap.size rfl 31 cs.toArray (0, 0) _ hr0 Try.underlying31 rfl hl ?_) | (go_at_call 27; refine (spec_ScrOk _ cs x (Rep.mono HP.out HB0.out)).mono ?_; rintro e W1 ⟨_, rfl, rfl, hb⟩; rw [HS.out]; have HB1 := Lib.hid (bel_next HB0.out hb); have hs1 := (hb.block (w.heap.size + 1) hz0).trans hr1; have hb1 := (hb.block w.heap.size (by omega)).trans hr0; have hz1 : w.heap.size + 1 < W1.heap.size := Nat.lt_of_lt_of_le hz0 hb.size; have k8 : W1.cell? ⟨w.heap.size, 8, none⟩ = some _ := (by simp only [World.cell?, hb1]; exact (by simpa using H8.out)); clear hb) | (go_at_call 9; refine (spec_Shown' _ cs x (Rep.mono HP.out HB1.out) HS.out).mono ?_; rintro e W4 ⟨_, rfl, ⟨cs4, rfl, hF⟩, hb⟩; obtain ⟨a2, n2, c2, rfl⟩ := DGrid.shape hF.rep; have HF4 := Lib.hid hF; have HB4 := Lib.hid (bel_next HB1.out hb); have hs4 := (hb.block (w.heap.size + 1) hz1).trans hs1; clear hb hF) | ((with_reducible (show wpList _ _ _ (Oper.mk _ (Op.store 25 _ _) _ _ _ _ :: _) _ _)); refine wpList_store_at rfl 25 _ _ rfl (w.heap.size + 1) 0 rfl _ rfl [.int .i64 (shownG x).W, .int .i64 (shownG x).H, .slice a2 n2 c2] rfl #[.int .i64 0, .int .i64 0, .slice none 0 0] 25 hs4 (Nat.le_of_ble_eq_true rfl) (by simp [Value.oneCell']) size_implGrid ?_; intro W5 hW; have hM5 := Moved.row hW; have hr5 : W5.heap[w.heap.size + 1]? = some (.cells #[.int .i64 (shownG x).W, .int .i64 (shownG x).H, .slice a2 n2 c2] 25 (0, 0)) := (by rw [hW, setRow_heap _ _ _ _ _ _ hs4]; rfl); clear hW))
    exact bodyPost_ret (results_cell_row Try.results12 _ _ (w.heap.size + 1) 25 #[.int .i64 (shownG x).W, .int .i64 (shownG x).H, .slice a2 n2 c2] (0, 0) _ rfl hr5 Try.underlying25 rfl size_implGrid) rfl ⟨_, rfl, ⟨[.int .i64 (shownG x).W, .int .i64 (shownG x).H, .slice a2 n2 c2], rfl, by rw [HLK.out]; exact (fresh_moved HF4.out hM5 hz1).rep⟩, hM5.below HB4.out (by omega)⟩
end Go.Proofs.Ytaobgfneeijpmaa
