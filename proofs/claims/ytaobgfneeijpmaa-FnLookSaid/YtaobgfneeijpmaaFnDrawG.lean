/- The walks of what a drawn screen is made of: a new grid, tab stops. -/
import Derived.Test.YtaobgfneeijpmaaFnDraw
import Derived.Test.YtaobgfneeijpmaaChain
import Derived.Test.YtaobgfneeijpmaaFnLookV
import Derived.Test.YtaobgfneeijpmaaLawBase
import Derived.Test.YtaobgfneeijpmaaStepApp
set_option linter.unusedSimpArgs false
set_option linter.unusedVariables false
namespace Go.Mux
open Go.RowKit
theorem range_row {w : World} {g : Nat} {cs : List Value} {t : TypeId} {fr : Nat × Nat} (h : w.heap[g]? = some (.cells cs.toArray t fr)) : w.rangeAt g 0 cs := fun j v hv => by
  rw [Nat.zero_add, cell_of_row w g j cs.toArray t fr h]
  simpa using hv
theorem fresh_grow {α : Type} [Rep α] {B : Nat} {W W1 : World} {cs : List Value} {x : α} (h : Fresh B W cs x) (hb : Below W.heap.size W W1) : Fresh B W1 cs x := by
  obtain ⟨fp, ho, hn, hg⟩ := h
  exact ⟨fp, Rep.ownMono ho (fun b hbf => hb.block b (Rep.ownLt ho b hbf)), hn, hg⟩
theorem int_lit {w : World} {x : Int} {g : Nat} (hg : g = w.heap.size) (h : I64 x) : RepS (w.alloc (.cells #[.int .i64 x] 3)) (.slice (some ⟨g, 0, none⟩) 1 1) [x] := by
  subst hg
  refine ⟨_, _, rfl, by simp, fun _ => ⟨w.heap.size, 0, rfl, fun i y hy => ?_⟩⟩
  have hi : i = 0 := by have := (List.getElem?_eq_some_iff.1 hy).1; simp at this; omega
  subst hi
  obtain rfl : x = y := by simpa using hy
  refine ⟨[.int .i64 x], ⟨rfl, h⟩, fun j u hu => ?_⟩
  have hj : j = 0 := by have := (List.getElem?_eq_some_iff.1 hu).1; simp at this; omega
  subst hj
  rw [cell_of_row _ w.heap.size (0 + 0 * Rep.size Int + 0) _ _ _ (new_at w _ rfl)]
  simpa using hu
theorem nil_freshA {α : Type} [Rep α] (B : Nat) (w : World) : FreshS (α := α) B w (.slice none 0 0) [] := ⟨[], ⟨[], [], ⟨by simp, .inl ⟨rfl, rfl⟩⟩, by simp, rfl, rfl, by simp, by simp [Value.ownBlock]⟩, by simp, by simp⟩
theorem replicate_snoc {α : Type} (k : Nat) (c : α) : List.replicate (k + 1) c = List.replicate k c ++ [c] := List.replicate_succ'
end Go.Mux
namespace Go.Proofs.Ytaobgfneeijpmaa
open Go.RowKit Go.Mux
set_option maxRecDepth 100000 in
set_option maxHeartbeats 1000000 in
theorem spec_GridNew (w : World) (W H : Int) (n : Nat) (h1 : 1 ≤ W) (h2 : W ≤ 120) (h3 : 1 ≤ H) (h4 : H ≤ 120) (h5 : W * H = (n : Int)) (h6 : n ≤ 4000) : Calls Try.prog 56 #[.int .i64 W, .int .i64 H] w (Gives w fun r w' => ∃ cs, r = .tuple #[.agg cs.toArray, .bool true] ∧ Fresh w.heap.size w' cs ({ W := W, H := H, Cells := List.replicate n blankC } : DGrid)) := by
  have d1 : decide (W < 1) = false := decide_eq_false (by omega)
  have d2 : decide (120 < W) = false := decide_eq_false (by omega)
  have d3 : decide (H < 1) = false := decide_eq_false (by omega)
  have d4 : decide (120 < H) = false := decide_eq_false (by omega)
  have e5 : IntKind.i64.wrap (W * H) = (n : Int) := by rw [IntKind.wrap_i64, h5]; omega
  have d5 : decide (4000 < (n : Int)) = false := decide_eq_false (by omega)
  have HWH := Lib.hid (show I64 W ∧ I64 H from by unfold I64; omega)
  clear h5
  go_enter Try.func56, Try.ntmps56
  go_wp2_with fail
  generalize hwb : World.alloc (World.alloc w _) _ = W0
  have HB0 := Lib.hid (show Below w.heap.size w W0 from by rw [← hwb]; exact bel_alloc (bel_alloc (Below.refl _ _) _) _)
  have hr0 : W0.heap[w.heap.size]? = some (.cells #[.int .i64 0, .int .i64 0, .slice none 0 0] 25 (0, 0)) := by rw [← hwb]; exact (Below.heap_alloc _ _ _ (by simp)).trans (new_at _ _ rfl)
  have hr1 : W0.heap[w.heap.size + 1]? = some (.cells #[.int .i64 W, .int .i64 H, .slice none 0 0] 25 (0, 0)) := by rw [← hwb]; exact new_at _ _ (by simp)
  have hz0 : W0.heap.size = w.heap.size + 2 := by rw [← hwb]; simp
  clear hwb
  have hr0' := Lib.hid hr0
  have hr1' := Lib.hid hr1
  have hf0 := Lib.hid (show FreshS (α := DCell) (w.heap.size + 2) W0 (.slice none 0 0) [] from nil_freshA _ _)
  clear hr0 hr1
  go_loopw [7] (fun i wr => ∃ k : Nat, k ≤ n ∧ i = .int .i64 k ∧ ∃ v, Hid (wr.heap[w.heap.size + 1]? = some (.cells #[.int .i64 W, .int .i64 H, v] 25 (0, 0))) ∧ Hid (FreshS (w.heap.size + 2) wr v (List.replicate k blankC)) ∧ Hid (wr.heap[w.heap.size]? = some (.cells #[.int .i64 0, .int .i64 0, .slice none 0 0] 25 (0, 0))) ∧ Hid (Below w.heap.size w wr)) (fun i _ => n - (intOf i).toNat)
  case atStart => exact ⟨0, Nat.zero_le _, rfl, _, hr1'.out, hf0.out, hr0'.out, HB0.out⟩
  case round =>
    obtain ⟨k, hk, rfl, v, HR1, HF, HR0, HB⟩ := hrel
    obtain ⟨ra, rn, rc, rfl⟩ := HF.out.shape
    have hwz : w.heap.size + 1 < wr.heap.size := (Array.getElem?_eq_some_iff.1 HR1.out).1
    by_cases hkn : k < n
    · have d6 : decide ((k : Int) < (n : Int)) = true := decide_eq_true (by omega)
      go_wp2_with fail
      refine wp_region_chain 6 (fun w' => w'.rangeAt (w.heap.size + 1) 0 [.int .i64 W, .int .i64 H, .slice ra rn rc]) (by kernel_rfl) (range_row (w := wr.drew) (cs := [.int .i64 W, .int .i64 H, .slice ra rn rc]) HR1.out) (fun hHeld => ?_)
      have hbd := bel_drew wr
      obtain ⟨w2, hWd⟩ : ∃ W, W = wr.drew := ⟨_, rfl⟩
      rw [← hWd] at hHeld hbd ⊢
      clear hWd
      (refine wpChain_take (i := 0) (v := ?_) rfl rfl rfl (by kernel_rfl) (by kernel_rfl) (by kernel_rfl) (by kernel_rfl) (fun _ _ _ h => h) (.inl ⟨by rfl, ?_⟩) hHeld ?_; rotate_left; (focus (intro wq hwq; go_simp; (try with_reducible rfl))); (try simp only [Act.put, List.getElem_toArray, List.getElem_cons_succ, List.getElem_cons_zero, List.setIfInBounds_toArray, List.set_cons_zero, List.set_cons_succ]))
      (refine wpChain_take (i := 1) rfl rfl rfl (by kernel_rfl) (by kernel_rfl) (by kernel_rfl) (by kernel_rfl) (fun _ _ _ h => h) (yieldsL_field (by rfl) _ _ rfl _ _ rfl [.int .i64 W, .int .i64 H, .slice ra rn rc] _ (fun _ h => h) (rfl) (fun wq hcq => by go_simp)) hHeld ?_; (try simp only [Act.put, List.getElem_toArray, List.getElem_cons_succ, List.getElem_cons_zero, List.setIfInBounds_toArray, List.set_cons_zero, List.set_cons_succ]))
      refine wpChain_step (i := 2) rfl (by kernel_rfl) (fun K hK => ?_)
      go_simp
      refine (spec.l07Blank' _).mono ?_
      rintro e w3 ⟨_, rfl, rfl, hb3⟩
      have HB3 := Lib.hid (hbd.trans (hb3.mono hbd.size))
      clear hbd
      refine hK.out _ _ (range_step hb3 hHeld) ?_
      replace hHeld := range_step hb3 hHeld
      clear hK K hb3
      (try simp only [Act.put, List.getElem_toArray, List.getElem_cons_succ, List.getElem_cons_zero, List.setIfInBounds_toArray, List.set_cons_zero, List.set_cons_succ])
      refine wpChain_step (i := 3) rfl (by kernel_rfl) (fun K hK => ?_)
      go_simp
      refine hK.out _ _ (range_alloc _ hHeld) ?_
      replace hHeld := range_alloc (.cells #[.int .i64 32, .int .i64 0, .int .i64 0, .bool false, .bool false, .bool false] 37) hHeld
      clear hK K
      (try simp only [Act.put, List.getElem_toArray, List.getElem_cons_succ, List.getElem_cons_zero, List.setIfInBounds_toArray, List.set_cons_zero, List.set_cons_succ])
      have hwz3 := HB3.out.size
      refine wpChain_step (i := 4) rfl (by kernel_rfl) (fun K hK => ?_)
      refine step_append_flat (α := DCell) rfl _ _ 23 rfl 37 _ _ Try.underlying23 info_implCell rfl rfl (by decide) (w.heap.size + 2) (by simp; omega) _ (List.replicate k blankC) rfl (HF.out.grow (bel_alloc HB3.out _)) (.slice (some ⟨w3.heap.size, 0, none⟩) 1 1) [blankC] rfl (blank_row w3) (by simp; omega) (by simp; omega) ?_
      intro v' w4 hF4 hb4
      obtain ⟨a4, n4, c4, rfl⟩ := hF4.repS.shape
      rw [← replicate_snoc] at hF4
      have HF4 := Lib.hid hF4
      have HB4 := Lib.hid (((bel_alloc HB3.out _).mono (show w.heap.size + 2 ≤ wr.heap.size by omega)).trans hb4)
      have hr4 := (HB4.out.block (w.heap.size + 1) (by omega)).trans HR1.out
      have hr40 := (HB4.out.block w.heap.size (by omega)).trans HR0.out
      refine hK.out _ _ (range_row hr4) ?_
      replace hHeld := range_row hr4
      clear hK K hb4 hF4
      (try simp only [Act.put, List.getElem_toArray, List.getElem_cons_succ, List.getElem_cons_zero, List.setIfInBounds_toArray, List.set_cons_zero, List.set_cons_succ])
      (refine wpChain_take (i := 5) (v := ?_) rfl rfl rfl (by kernel_rfl) (by kernel_rfl) (by kernel_rfl) (by kernel_rfl) (fun _ _ _ h => h) (.inl ⟨by rfl, ?_⟩) hHeld ?_; rotate_left; (focus (intro wq hwq; go_simp; (try with_reducible rfl))); (try simp only [Act.put, List.getElem_toArray, List.getElem_cons_succ, List.getElem_cons_zero, List.setIfInBounds_toArray, List.set_cons_zero, List.set_cons_succ]))
      refine wpChain_store rfl rfl (by kernel_rfl) (by kernel_rfl) rfl 23 _ _ rfl (w.heap.size + 1) 2 rfl _ rfl [.slice a4 n4 c4] rfl #[.int .i64 W, .int .i64 H, .slice ra rn rc] 25 (RowAt.of hr4) (Nat.le_of_ble_eq_true rfl) (by simp [Value.oneCell']) (show (Try.prog.info? 23).map (·.size) = some 1 by kernel_rfl) ?_
      intro w5 hW
      have hM5 := Moved.row hW
      have hr5 : w5.heap[w.heap.size + 1]? = some (.cells #[.int .i64 W, .int .i64 H, .slice a4 n4 c4] 25 (0, 0)) := by rw [hW, setRow_heap _ _ _ _ _ _ hr4]; rfl
      clear hW
      go_wp2_with fail
      go_roundw
      case rel => exact ⟨k + 1, by omega, by go_num, _, hr5, freshS_moved HF4.out hM5 (by omega), (hM5.other _ (by omega)).trans hr40, hM5.below (HB.out.trans (HB4.out.mono (by omega))) (by omega)⟩
      case measure => simp [intOf]; omega
    · have d6 : decide ((k : Int) < (n : Int)) = false := decide_eq_false (by omega)
      obtain rfl : k = n := by omega
      have hr1 := HR1.out
      have hr0 := HR0.out
      go_wp2_with (first
        | ((with_reducible (show wpList _ _ _ (Oper.mk _ (Op.load 25 _) _ _ _ _ :: _) _ _)); refine wpList_load_row rfl 25 _ rfl (w.heap.size + 1) rfl 25 #[.int .i64 W, .int .i64 H, .slice ra rn rc] (0, 0) _ hr1 Try.underlying25 rfl size_implGrid ?_)
        | ((with_reducible (show wpList _ _ _ (Oper.mk _ (Op.store 25 _ _) _ _ _ _ :: _) _ _)); refine wpList_store_at rfl 25 _ _ rfl w.heap.size 0 rfl _ rfl [.int .i64 W, .int .i64 H, .slice ra rn rc] rfl #[.int .i64 0, .int .i64 0, .slice none 0 0] 25 hr0 (Nat.le_of_ble_eq_true rfl) (by simp [Value.oneCell']) size_implGrid ?_; intro W3 hW; have hM3 := Moved.row hW; have hr3 : W3.heap[w.heap.size]? = some (.cells #[.int .i64 W, .int .i64 H, .slice ra rn rc] 25 (0, 0)) := (by rw [hW, setRow_heap _ _ _ _ _ _ hr0]; rfl); clear hW))
      refine bodyPost_ret (results_cell_slot Try.results56 _ _ w.heap.size 25 #[.int .i64 W, .int .i64 H, .slice ra rn rc] (0, 0) _ (.bool true) rfl rfl hr3 Try.underlying25 rfl size_implGrid) rfl ⟨_, rfl, ⟨[.int .i64 W, .int .i64 H, .slice ra rn rc], rfl, ?_⟩, hM3.below HB.out (Nat.le_refl _)⟩
      obtain ⟨fp, ho, hn, hf⟩ := freshS_moved HF.out hM3 (by omega)
      exact ⟨fp, DGrid.own_iff.2 ⟨_, rfl, HWH.out.1, HWH.out.2, ho⟩, hn, fun b hb => by have := hf b hb; omega⟩
set_option maxRecDepth 100000 in
set_option maxHeartbeats 1000000 in
theorem spec_l09Tabs (w : World) (W : Int) (h1 : 1 ≤ W) (h2 : W ≤ 10) : Calls Try.prog 57 #[.int .i64 W] w (Gives w fun r w' => ∃ l : List Int, FreshS w.heap.size w' r l ∧ (l = [] ∨ (l = [8] ∧ 8 < W))) := by
  go_enter Try.func57, Try.ntmps57
  go_wp2_with fail
  generalize hwb : World.alloc w _ = W0
  have HB0 := Lib.hid (show Below w.heap.size w W0 from by rw [← hwb]; exact bel_alloc (Below.refl _ _) _)
  have HF0 := Lib.hid (show FreshS (α := Int) w.heap.size W0 (.slice (some ⟨w.heap.size, 0, none⟩) 0 0) [] from ⟨[w.heap.size], OwnS.empty (α := Int) (e := 3) rfl (by rw [← hwb]; exact new_at _ _ rfl), by simp, by simp⟩)
  clear hwb
  go_loopw [3, 4] (fun rv i wr => ∃ l : List Int, ((i = .int .i64 8 ∧ l = []) ∨ (i = .int .i64 16 ∧ l = [8] ∧ 8 < W)) ∧ Hid (FreshS w.heap.size wr rv l) ∧ Hid (Below w.heap.size w wr)) (fun _ i _ => 20 - (intOf i).toNat)
  case atStart => exact ⟨[], .inl ⟨rfl, rfl⟩, HF0.out, HB0.out⟩
  case round =>
    obtain ⟨l, hor, HF, HB⟩ := hrel
    obtain ⟨ra, rn, rc, rfl⟩ := HF.out.shape
    have hws := HB.out.size
    rcases hor with ⟨rfl, rfl⟩ | ⟨rfl, rfl, hlt⟩
    · by_cases hlt : 8 < W
      · have d1 : decide (8 < W) = true := decide_eq_true hlt
        go_wp2_with (at_builtin; refine wpList_append_flat (α := Int) rfl _ _ 28 rfl 3 (.int .i64 0) 8 Try.underlying28 info_int rfl rfl (by decide) w.heap.size (by simp; omega) _ ([] : List Int) rfl (HF.out.grow (bel_alloc (Below.refl _ _) _)) (.slice (some ⟨wr.heap.size, 0, none⟩) 1 1) [8] rfl (int_lit rfl ⟨by decide, by decide⟩) (by simp) (by simp) ?_; intro v' W1 hF1 hb; have HF1 := Lib.hid hF1; have HB1 := Lib.hid (bel_upto (bel_alloc HB.out _) hb (Nat.le_refl _)); clear hF1 hb)
        go_roundw
        case rel => exact ⟨[8], .inr ⟨by go_num, rfl, hlt⟩, HF1.out, HB1.out⟩
        case measure => simp [intOf]
      · have d1 : decide (8 < W) = false := decide_eq_false hlt
        go_wp2_with fail
        go_ret
        exact ⟨_, rfl, ⟨_, HF.out, .inl rfl⟩, HB.out⟩
    · have d1 : decide (16 < W) = false := decide_eq_false (by omega)
      go_wp2_with fail
      go_ret
      exact ⟨_, rfl, ⟨_, HF.out, .inr ⟨rfl, hlt⟩⟩, HB.out⟩
end Go.Proofs.Ytaobgfneeijpmaa
