/- The walks of what the reference's Look calls. -/
import Derived.Test.YtaobgfneeijpmaaFnScrI
import Derived.Test.YtaobgfneeijpmaaFnLookI
set_option linter.unusedSimpArgs false
set_option linter.unusedVariables false
namespace Go.Mux
open Go.RowKit
@[irreducible] def clampI (n most : Int) : Int := if n < 0 then 0 else if most < n then most else n
theorem cell_lit {w : World} {c : DCell} {g : Nat} (hg : g = w.heap.size) (h : cellI c) : RepS (w.alloc (.cells #[.int .i64 c.R, .int .i64 c.A.Fg, .int .i64 c.A.Bg, .bool c.A.Bold, .bool c.A.Under, .bool c.A.Turn] 37)) (.slice (some ⟨g, 0, none⟩) 1 1) [c] := by
  subst hg
  have e : cvs [c] = [.int .i64 c.R, .int .i64 c.A.Fg, .int .i64 c.A.Bg, .bool c.A.Bold, .bool c.A.Under, .bool c.A.Turn] := by rw [cvs_cons, cvs_nil]; rfl
  exact (cells_own (l := [c]) (g := w.heap.size) (by rw [e]; exact RowAt.of (new_at _ _ rfl)) (fun d hd => by simp at hd; rw [hd]; exact h) (by simp)).repS
/-- The first k cells of a row as wide as is asked. -/
@[irreducible] def fillTop (l : List DCell) (k : Nat) : List DCell := fillRow k l
theorem fillTop_zero (l : List DCell) : fillTop l 0 = [] := by unfold fillTop fillRow; simp
theorem fillTop_lt {l : List DCell} {k : Nat} {c : DCell} (h : l[k]? = some c) : fillTop l (k + 1) = fillTop l k ++ [c] := by
  have hk : k < l.length := by rw [List.getElem?_eq_some_iff] at h; exact h.1
  unfold fillTop fillRow
  rw [List.take_add_one, h, show k + 1 - l.length = 0 by omega, show k - l.length = 0 by omega]
  simp
theorem fillTop_ge {l : List DCell} {k : Nat} (h : l.length ≤ k) : fillTop l (k + 1) = fillTop l k ++ [blankC] := by
  unfold fillTop fillRow
  rw [List.take_of_length_le (by omega : l.length ≤ k + 1), List.take_of_length_le h, show k + 1 - l.length = (k - l.length) + 1 by omega, List.replicate_succ', List.append_assoc]
theorem fillTop_len (l : List DCell) (k : Nat) : (fillTop l k).length = k := by
  unfold fillTop fillRow; rw [List.length_append, List.length_take, List.length_replicate]; omega
end Go.Mux
namespace Go.Proofs.Ytaobgfneeijpmaa
open Go.RowKit Go.Mux
theorem spec_l02Clamp (w : World) (n most : Int) : Calls Try.prog 37 #[.int .i64 n, .int .i64 most] w (Pure w (.int .i64 (clampI n most))) := by
  by_cases h1 : n < 0
  · have e : clampI n most = 0 := by unfold clampI; rw [if_pos h1]
    rw [e]
    clear e
    go_enter Try.func37, Try.ntmps37
    go_wp2
    go_ret
    exact ⟨rfl, rfl⟩
  · by_cases h2 : most < n
    · have e : clampI n most = most := by unfold clampI; rw [if_neg h1, if_pos h2]
      rw [e]
      clear e
      go_enter Try.func37, Try.ntmps37
      go_wp2
      go_ret
      exact ⟨rfl, rfl⟩
    · have e : clampI n most = n := by unfold clampI; rw [if_neg h1, if_neg h2]
      rw [e]
      clear e
      go_enter Try.func37, Try.ntmps37
      go_wp2
      go_ret
      exact ⟨rfl, rfl⟩
set_option maxRecDepth 100000 in
set_option maxHeartbeats 1000000 in
theorem spec_l19Fill (w : World) (v : Value) (l : List DCell) (W : Int) (m : Nat) (h : RepS w v l) (hW : W = (m : Int)) (hm : m ≤ 120) : Calls Try.prog 36 #[v, .int .i64 W] w (Gives w fun r w' => FreshS w.heap.size w' r (fillTop l m)) := by
  have hI : ∀ c ∈ l, cellI c := by obtain ⟨_, _, _, _, hI, _⟩ := cells_open h; exact hI
  have HIc := Lib.hid hI
  obtain ⟨a, cap, rfl, ⟨hl1, hl2⟩, hc⟩ := h
  have HC := Lib.hid hc
  have HWM := Lib.hid hW
  clear hc hI hW
  go_enter Try.func36, Try.ntmps36
  go_wp2_with fail
  generalize hwb : World.alloc w _ = W0
  have HB0 := Lib.hid (show Below w.heap.size w W0 from by rw [← hwb]; exact bel_alloc (Below.refl _ _) _)
  have HF0 := Lib.hid (show FreshS (α := DCell) w.heap.size W0 (.slice (some ⟨w.heap.size, 0, none⟩) 0 0) [] from ⟨[w.heap.size], OwnS.empty (α := DCell) (e := 37) rfl (by rw [← hwb]; exact new_at _ _ rfl), by simp, by simp⟩)
  clear hwb
  go_loopw [5, 6] (fun rv i wr => ∃ k : Nat, k ≤ m ∧ i = .int .i64 k ∧ Hid (FreshS w.heap.size wr rv (fillTop l k)) ∧ Hid (Below w.heap.size w wr)) (fun _ i _ => m - (intOf i).toNat)
  case atStart => exact ⟨0, Nat.zero_le _, rfl, by show FreshS _ _ _ _; rw [fillTop_zero]; exact HF0.out, HB0.out⟩
  case round =>
    obtain ⟨k, hk, rfl, HF, HB⟩ := hrel
    have hws := HB.out.size
    have HLK := Lib.hid (fillTop_len l k)
    obtain ⟨ra, rn, rc, rfl⟩ := HF.out.shape
    have hB0 := HB.out
    by_cases hlm : k < m
    · have d1 : decide ((k : Int) < W) = true := decide_eq_true (by have := HWM.out; omega)
      by_cases hlt : k < l.length
      · have hne : l ≠ [] := by intro e; rw [e] at hlt; simp at hlt
        obtain ⟨b, off, rfl, hc⟩ := HC.out hne
        obtain ⟨y, hx⟩ : ∃ y, l[k]? = some y := ⟨l[k], by simp [hlt]⟩
        obtain ⟨rr, hrep, hcell⟩ := hc k y hx
        have HI := Lib.hid (show (Try.prog.info? 37).map (·.size) = some rr.length by rw [Rep.len hrep]; exact size_implCell)
        have HL := Lib.hid (show ∀ (j : Nat) u, rr[j]? = some u → wr.cell? ⟨b, off + k * 6 + j, none⟩ = some u from fun j u hu => (hB0.cell (p := ⟨b, _, none⟩) (World.block_lt_of_cell? w _ (hcell j u hu))).trans (hcell j u hu))
        have HR := Lib.hid hrep
        have HX := Lib.hid hx
        obtain rfl := DCell.shape hrep
        clear hc hcell hrep hne hx
        have HN := Lib.hid (fillTop_lt HX.out)
        have HYI := Lib.hid (HIc.out y (List.mem_of_getElem? HX.out))
        have d2 : decide ((k : Int) < (l.length : Int)) = true := decide_eq_true (by omega)
        clear hB0
        go_wp2_with (first | (with_reducible (show wpList _ _ _ (Oper.mk _ (Op.load 37 _) _ _ _ _ :: _) _ _); refine wpList_load_agg rfl 37 _ rfl b _ rfl _ _ HL.out Try.underlying37 HI.out ?_) | (at_builtin; refine wpList_append_flat (α := DCell) rfl _ _ 23 rfl 37 _ _ Try.underlying23 info_implCell rfl rfl (by decide) w.heap.size (by simp; omega) _ (fillTop l k) rfl (HF.out.grow (bel_alloc (Below.refl _ _) _)) (.slice (some ⟨wr.heap.size, 0, none⟩) 1 1) [y] rfl (cell_lit rfl HYI.out) (by have := HLK.out; simp; omega) (by have := HLK.out; simp; omega) ?_; intro v' W1 hF1 hb; have HF1 := Lib.hid hF1; have HB1 := Lib.hid (bel_upto (bel_alloc HB.out _) hb (Nat.le_refl _)); clear hF1 hb))
        go_roundw
        case rel => exact ⟨k + 1, by omega, by go_num, by show FreshS _ _ _ _; rw [HN.out]; exact HF1.out, HB1.out⟩
        case measure => simp [intOf]; omega
      · have HN := Lib.hid (fillTop_ge (l := l) (k := k) (by omega))
        have d2 : decide ((k : Int) < (l.length : Int)) = false := decide_eq_false (by omega)
        have d3 : decide (k < l.length) = false := decide_eq_false hlt
        clear hB0
        go_wp2_with (first | (go_at_call 71; refine (spec.l07Blank' _).mono ?_; rintro e W2 ⟨_, rfl, rfl, hb⟩; have HBC := Lib.hid hb; have hcs := hb.size; clear hb) | (at_builtin; refine wpList_append_flat (α := DCell) rfl _ _ 23 rfl 37 _ _ Try.underlying23 info_implCell rfl rfl (by decide) w.heap.size (by simp; omega) _ (fillTop l k) rfl (HF.out.grow (bel_alloc HBC.out _)) (.slice (some ⟨W2.heap.size, 0, none⟩) 1 1) [blankC] rfl (blank_row W2) (by have := HLK.out; simp; omega) (by have := HLK.out; simp; omega) ?_; intro v' W1 hF1 hb; have HF1 := Lib.hid hF1; have HB1 := Lib.hid (bel_upto (bel_alloc (bel_next HB.out HBC.out) _) hb (Nat.le_refl _)); clear hF1 hb))
        go_roundw
        case rel => exact ⟨k + 1, by omega, by go_num, by show FreshS _ _ _ _; rw [HN.out]; exact HF1.out, HB1.out⟩
        case measure => simp [intOf]; omega
    · have d1 : decide ((k : Int) < W) = false := decide_eq_false (by have := HWM.out; omega)
      obtain rfl : k = m := by omega
      go_wp2_with fail
      go_ret
      exact ⟨_, rfl, HF.out, HB.out⟩
set_option maxRecDepth 100000 in
set_option maxHeartbeats 1000000 in
theorem spec_l07Copy (w : World) (cs : List Value) (x : DGrid) (h : Rep.rep w cs x) (hl : x.Cells.length ≤ 2097152) : Calls Try.prog 28 #[.agg cs.toArray] w (Gives w fun r w' => ∃ cs', r = .agg cs'.toArray ∧ Fresh w.heap.size w' cs' x) := by
  obtain ⟨v0, rfl, h0, h1, h2⟩ := DGrid.rep_iff.1 h
  clear h
  have HR1 := Lib.hid h2
  have HI := Lib.hid h0
  have HJ := Lib.hid h1
  obtain ⟨p0, m0, q0, rfl⟩ := h2.shape
  clear h0 h1 h2
  go_enter Try.func28, Try.ntmps28
  go_wp2_with (first
    | (at_builtin; generalize hwb : World.alloc (World.alloc (World.alloc w _) _) _ = W0; have HB0 := Lib.hid (show Below w.heap.size w W0 from (by rw [← hwb]; exact bel_alloc (bel_alloc (bel_alloc (Below.refl _ _) _) _) _)); have hr0 : W0.heap[w.heap.size]? = some (.cells #[.int .i64 x.W, .int .i64 x.H, .slice p0 m0 q0] 25 (0, 0)) := (by rw [← hwb]; exact (Below.heap_alloc _ _ _ (by simp; omega)).trans ((Below.heap_alloc _ _ _ (by simp)).trans (new_at _ _ rfl))); have hr1 : W0.heap[w.heap.size + 1]? = some (.cells #[.int .i64 0, .int .i64 0, .slice none 0 0] 25 (0, 0)) := (by rw [← hwb]; exact (Below.heap_alloc _ _ _ (by simp)).trans (new_at _ _ (by simp))); have hn0 : W0.heap[w.heap.size + 1 + 1]? = some (.cells #[] 37 (0, 0)) := (by rw [← hwb]; exact new_at _ _ (by simp)); clear hwb; refine wpList_append_copy (α := DCell) rfl _ _ 23 rfl 37 _ _ Try.underlying23 info_implCell rfl rfl (by decide) (w.heap.size + 1 + 1) rfl hn0 (.slice p0 m0 q0) x.Cells rfl (HR1.out.mono HB0.out) (by omega) ?_; intro v' W1 HF hb; obtain ⟨a2, n2, c2, rfl⟩ := HF.repS.shape; have HF1 := Lib.hid HF; have HB1 := Lib.hid (bel_upto HB0.out hb (by omega)); have hs0 := (hb.block w.heap.size (by omega)).trans hr0; have hs1 := (hb.block (w.heap.size + 1) (by omega)).trans hr1; clear hb HF hr0 hr1 hn0)
    | ((with_reducible (show wpList _ _ _ (Oper.mk _ (Op.store 23 _ _) _ _ _ _ :: _) _ _)); refine wpList_store_at rfl 23 _ _ rfl (w.heap.size) 2 rfl _ rfl [.slice a2 n2 c2] rfl #[.int .i64 x.W, .int .i64 x.H, .slice p0 m0 q0] 25 hs0 (Nat.le_of_ble_eq_true rfl) (by simp [Value.oneCell']) (show (Try.prog.info? 23).map (·.size) = some 1 by kernel_rfl) ?_; intro W2 hW; have hM2 := Moved.row hW; have hr2 : W2.heap[w.heap.size]? = some (.cells #[.int .i64 x.W, .int .i64 x.H, .slice a2 n2 c2] 25 (0, 0)) := (by rw [hW, setRow_heap _ _ _ _ _ _ hs0]; rfl); clear hW)
    | ((with_reducible (show wpList _ _ _ (Oper.mk _ (Op.load 25 _) _ _ _ _ :: _) _ _)); refine wpList_load_row rfl 25 _ rfl w.heap.size rfl 25 #[.int .i64 x.W, .int .i64 x.H, .slice a2 n2 c2] (0, 0) _ hr2 Try.underlying25 rfl size_implGrid ?_; have hs2 := (hM2.other (w.heap.size + 1) (by omega)).trans hs1)
    | ((with_reducible (show wpList _ _ _ (Oper.mk _ (Op.store 25 _ _) _ _ _ _ :: _) _ _)); refine wpList_store_at rfl 25 _ _ rfl (w.heap.size + 1) 0 rfl _ rfl [.int .i64 x.W, .int .i64 x.H, .slice a2 n2 c2] rfl #[.int .i64 0, .int .i64 0, .slice none 0 0] 25 hs2 (Nat.le_of_ble_eq_true rfl) (by simp [Value.oneCell']) size_implGrid ?_; intro W3 hW; have hM3 := Moved.row hW; have hr3 : W3.heap[w.heap.size + 1]? = some (.cells #[.int .i64 x.W, .int .i64 x.H, .slice a2 n2 c2] 25 (0, 0)) := (by rw [hW, setRow_heap _ _ _ _ _ _ hs2]; rfl); clear hW))
  refine bodyPost_ret (results_cell_row Try.results28 _ _ (w.heap.size + 1) 25 #[.int .i64 x.W, .int .i64 x.H, .slice a2 n2 c2] (0, 0) _ rfl hr3 Try.underlying25 rfl size_implGrid) rfl ⟨_, rfl, ⟨[.int .i64 x.W, .int .i64 x.H, .slice a2 n2 c2], rfl, ?_⟩, hM3.below (hM2.below HB1.out (by omega)) (by omega)⟩
  obtain ⟨fp, ho, hn, hf⟩ := HF1.out
  exact ⟨fp, DGrid.own_iff.2 ⟨_, rfl, HI.out, HJ.out, ho.mono fun b hb => (hM3.other b (by have := hf b hb; omega)).trans (hM2.other b (by have := hf b hb; omega))⟩, hn, fun b hb => by have := hf b hb; omega⟩
set_option maxRecDepth 100000 in
set_option maxHeartbeats 1000000 in
theorem spec_l09Shown (w : World) (cs : List Value) (x : DScr) (h : Rep.rep w cs x) : Calls Try.prog 29 #[.agg cs.toArray] w (Gives w fun r w' => ∃ cs', r = .agg cs'.toArray ∧ Rep.rep w' cs' (shownG x)) := by
  obtain ⟨v0, v1, v2, v3, rfl, h0, h1, h2, h3, h4, h5, h6, h7, h8, h9, h10, h11, h12, h13, h14, h15, h16, h17, h18, h19, h20⟩ := DScr.rep_iff.1 h
  have HM := Lib.hid (fun (W : World) (hb : Below w.heap.size w W) => (DGrid.rep_iff (w := W) (x := x.Main)).2 ⟨v0, rfl, h2, h3, h4.mono hb⟩)
  have HA := Lib.hid (fun (W : World) (hb : Below w.heap.size w W) => (DGrid.rep_iff (w := W) (x := x.Alt)).2 ⟨v1, rfl, h5, h6, h7.mono hb⟩)
  obtain ⟨a0, n0, c0, rfl⟩ := h4.shape
  obtain ⟨a1, n1, c1, rfl⟩ := h7.shape
  clear h h0 h1 h2 h3 h4 h5 h6 h7 h8 h9 h10 h11 h12 h13 h14 h15 h16 h17 h18 h19 h20
  cases ho : x.OnAlt
  · have HS := Lib.hid (show shownG x = x.Main from by unfold shownG; rw [ho]; rfl)
    clear ho
    go_enter Try.func29, Try.ntmps29
    go_wp2_with (((with_reducible (show wpList _ _ _ (Oper.mk _ (Op.store 25 _ _) _ _ _ _ :: _) _ _)); refine wpList_store_at rfl 25 _ _ rfl (w.heap.size + 1) 0 rfl _ rfl [.int .i64 x.Main.W, .int .i64 x.Main.H, .slice a0 n0 c0] rfl #[.int .i64 0, .int .i64 0, .slice none 0 0] 25 (new_at _ _ (by simp)) (Nat.le_of_ble_eq_true rfl) (by simp [Value.oneCell']) size_implGrid ?_; intro W3 hW; have hM3 := Moved.row hW; have hr3 : W3.heap[w.heap.size + 1]? = some (.cells #[.int .i64 x.Main.W, .int .i64 x.Main.H, .slice a0 n0 c0] 25 (0, 0)) := (by rw [hW, setRow_heap _ _ _ _ _ _ (new_at _ _ (by simp))]; rfl); clear hW))
    exact bodyPost_ret (results_cell_row Try.results29 _ _ (w.heap.size + 1) 25 #[.int .i64 x.Main.W, .int .i64 x.Main.H, .slice a0 n0 c0] (0, 0) _ rfl hr3 Try.underlying25 rfl size_implGrid) rfl ⟨_, rfl, ⟨[.int .i64 x.Main.W, .int .i64 x.Main.H, .slice a0 n0 c0], rfl, by rw [HS.out]; exact HM.out _ (hM3.below (bel_alloc (bel_alloc (Below.refl _ _) _) _) (by omega))⟩, hM3.below (bel_alloc (bel_alloc (Below.refl _ _) _) _) (by omega)⟩
  · have HS := Lib.hid (show shownG x = x.Alt from by unfold shownG; rw [ho]; rfl)
    clear ho
    go_enter Try.func29, Try.ntmps29
    go_wp2_with (((with_reducible (show wpList _ _ _ (Oper.mk _ (Op.store 25 _ _) _ _ _ _ :: _) _ _)); refine wpList_store_at rfl 25 _ _ rfl (w.heap.size + 1) 0 rfl _ rfl [.int .i64 x.Alt.W, .int .i64 x.Alt.H, .slice a1 n1 c1] rfl #[.int .i64 0, .int .i64 0, .slice none 0 0] 25 (new_at _ _ (by simp)) (Nat.le_of_ble_eq_true rfl) (by simp [Value.oneCell']) size_implGrid ?_; intro W3 hW; have hM3 := Moved.row hW; have hr3 : W3.heap[w.heap.size + 1]? = some (.cells #[.int .i64 x.Alt.W, .int .i64 x.Alt.H, .slice a1 n1 c1] 25 (0, 0)) := (by rw [hW, setRow_heap _ _ _ _ _ _ (new_at _ _ (by simp))]; rfl); clear hW))
    exact bodyPost_ret (results_cell_row Try.results29 _ _ (w.heap.size + 1) 25 #[.int .i64 x.Alt.W, .int .i64 x.Alt.H, .slice a1 n1 c1] (0, 0) _ rfl hr3 Try.underlying25 rfl size_implGrid) rfl ⟨_, rfl, ⟨[.int .i64 x.Alt.W, .int .i64 x.Alt.H, .slice a1 n1 c1], rfl, by rw [HS.out]; exact HA.out _ (hM3.below (bel_alloc (bel_alloc (Below.refl _ _) _) _) (by omega))⟩, hM3.below (bel_alloc (bel_alloc (Below.refl _ _) _) _) (by omega)⟩
end Go.Proofs.Ytaobgfneeijpmaa
