/- The walks of what rolls a screen: a row is kept, the rows move up. -/
import Derived.Test.YtaobgfneeijpmaaFnDrawK
set_option linter.unusedSimpArgs false
set_option linter.unusedVariables false
namespace Go.Mux
open Go.RowKit
/-- A screen whose kept rows alone have turned. -/
def KeptBack (x y : DScr) : Prop := ∃ l : List DRow, y = { x with Back := l } ∧ (l.length : Int) ≤ x.Limit ∧ l.all rowOkB = true
theorem kept_ok {x y : DScr} (h : KeptBack x y) (hx : scrOkB x = true) : scrOkB y = true := by
  obtain ⟨l, rfl, h1, h2⟩ := h
  have q := scrOkB_true hx
  refine scr_ok q.2.2.2.2.1 q.2.2.2.2.2.1 ?_ q.2.2.1 q.2.2.2.1 ?_ q.2.2.2.2.2.2.2.2.2.2.2.2.2.2.2.2.2.2.2.2.2.1 h2
  · have := q.2.2.2.2.2.2.1; unfold scrSize at this ⊢; exact this
  · obtain ⟨_, _, _, _, _, _, _, _, p1, p2, p3, p4, p5, p6, p7, p8, p9, p10, p11, p12, p13, _, p15, p16, _⟩ := q
    exact ⟨p1, p2, p3, p4, p5, p6, p7, p8, p9, p10, p11, p12, p13, p15, p16, h1⟩
theorem main_row {x : DScr} (hx : scrOkB x = true) {m : Nat} (hm : x.W = (m : Int)) : rowOkB ⟨x.Main.Cells.take m⟩ = true ∧ m ≤ x.Main.Cells.length ∧ 1 ≤ m ∧ m ≤ 120 ∧ x.Main.Cells.length ≤ 4000 := by
  have q := scrOkB_true hx
  obtain ⟨s1, s2, s3, s4, s5, s6, s7⟩ := gridOkB_size q.2.2.2.2.1
  obtain ⟨e1, e2, -, -⟩ := scrSize_true q.2.2.2.2.2.2.1
  have hle : m ≤ x.Main.Cells.length := by
    have : x.Main.W * 1 ≤ x.Main.W * x.Main.H := Int.mul_le_mul_of_nonneg_left s3 (by omega)
    omega
  refine ⟨?_, hle, by omega, by omega, by omega⟩
  unfold rowOkB
  rw [Bool.and_eq_true, withinB_true]
  have hg := q.2.2.2.2.1
  unfold gridOkB at hg
  simp only [Bool.and_eq_true] at hg
  refine ⟨by simp only [List.length_take]; omega, List.all_eq_true.2 fun c hc => List.all_eq_true.1 hg.2 c (List.mem_of_mem_take hc)⟩
theorem ptr_some {α : Type} [Rep α] {w : World} {a : Option Addr} {n c : Nat} {l : List α} (h : RepS w (.slice a n c) l) (hne : l ≠ []) : ∃ b off, a = some ⟨b, off, none⟩ := by
  obtain ⟨a', cap', e, _, hc⟩ := h
  cases e
  obtain ⟨b, off, e, _⟩ := hc hne
  exact ⟨b, off, e⟩
theorem len_of {α : Type} [Rep α] {w : World} {a : Option Addr} {n c : Nat} {l : List α} (h : RepS w (.slice a n c) l) : n = l.length ∧ n ≤ c ∧ n ≤ 9223372036854775807 := by
  obtain ⟨a', cap', e, ⟨h1, h2⟩, hc⟩ := h
  cases e
  exact ⟨rfl, h2, h1⟩
end Go.Mux
namespace Go.Proofs.Ytaobgfneeijpmaa
open Go.RowKit Go.Mux
set_option maxRecDepth 100000 in
set_option maxHeartbeats 1000000 in
theorem spec_l09Keep (w : World) (lo B M : Nat) (cs : List Value) (x : DScr) (h : CopyS lo B M w cs x) (hg : scrOkB x = true) (hlo : lo ≤ B) (hBM : B ≤ M) (hMw : M ≤ w.heap.size) :
    Calls Try.prog 98 #[.agg cs.toArray, .int .i64 0] w (fun e w' => ∃ cs' y, e = .returned (.agg cs'.toArray) ∧ RepAway lo M w.heap.size w' cs' y ∧ KeptBack x y ∧ Below B w w' ∧ ∀ k, M ≤ k → k < w.heap.size → w'.heap[k]? = w.heap[k]?) := by
  have hB : B ≤ w.heap.size := Nat.le_trans hBM hMw
  obtain ⟨v0, v1, v2, v3, rfl, h0, h1, h2, h3⟩ := h
  obtain ⟨m, hm⟩ : ∃ m : Nat, x.W = (m : Int) := ⟨x.W.toNat, by have := gridOkB_size (scrOkB_true hg).2.2.2.2.1; have := scrSize_true (scrOkB_true hg).2.2.2.2.2.2.1; omega⟩
  obtain ⟨lim, hlim⟩ : ∃ lim : Nat, x.Limit = (lim : Int) := ⟨x.Limit.toNat, by have := (scrOkB_true hg).2.2.2.2.2.2.2.2.2.2.2.2.2.2.2.2.2.2.2.2.2.2; omega⟩
  obtain ⟨r1, r2, r3, r4, r5⟩ := main_row hg hm
  have hlb : x.Back.length ≤ lim ∧ lim ≤ 100 := by have := (scrOkB_true hg).2.2.2.2.2.2.2.2.2.2.2.2.2.2.2.2.2.2.2.2.2.2; omega
  have HROW := Lib.hid r1
  have HG := Lib.hid hg
  have HM := Lib.hid h0
  have HA := Lib.hid h1
  have HT := Lib.hid h2
  have HBK := Lib.hid h3
  obtain ⟨a0, n0, c0, rfl⟩ := h0.repS.shape
  obtain ⟨a1, n1, c1, rfl⟩ := h1.repS.shape
  obtain ⟨a2, n2, c2, rfl⟩ := h2.repS.shape
  obtain ⟨a3, n3, c3, rfl⟩ := h3.repS.shape
  obtain ⟨b, off, rfl⟩ := ptr_some h0.repS (by intro e; rw [e] at r2; simp at r2; omega)
  obtain ⟨l0, l1, l2⟩ := len_of h0.repS
  have k0 : ((scrRow x (.slice (some ⟨b, off, none⟩) n0 c0) (.slice a1 n1 c1) (.slice a2 n2 c2) (.slice a3 n3 c3)))[0]? = some (.int .i64 (m : Int)) := by rw [← hm]; rfl
  have k29 : ((scrRow x (.slice (some ⟨b, off, none⟩) n0 c0) (.slice a1 n1 c1) (.slice a2 n2 c2) (.slice a3 n3 c3)))[29]? = some (.int .i64 (lim : Int)) := by rw [← hlim]; rfl
  have HK0 := Lib.hid k0
  have HK29 := Lib.hid k29
  have HWM := Lib.hid hm
  have HLM := Lib.hid hlim
  have e1 : IntKind.i64.wrap (m : Int) = (m : Int) := by rw [IntKind.wrap_i64]; omega
  have ew0 : IntKind.i64.wrap 0 = 0 := by decide
  have HL0 := Lib.hid l0
  have m0 : (0 : Int) ≤ (m : Int) := by omega
  have m1 : (m : Int) ≤ (c0 : Int) := by omega
  clear k0 k29 hm hlim h0 h1 h2 h3 hg r1 l0 l1 l2
  go_enter Try.func98, Try.ntmps98
  go_upto_region 1 with (fail)
  generalize hwb : World.alloc (World.alloc w _) _ = W0
  obtain ⟨hb0, hr0, hr1, hz0⟩ := boxes2 hwb
  clear hwb
  have HB0 := Lib.hid hb0
  have hr1 : W0.heap[w.heap.size + 1]? = some (.cells zeroScr.toArray 31 (0, 0)) := hr1
  clear hb0
  refine wp_region_chain 23 (fun w' => w'.rangeAt w.heap.size 0 (scrRow x (.slice (some ⟨b, off, none⟩) n0 c0) (.slice a1 n1 c1) (.slice a2 n2 c2) (.slice a3 n3 c3))) (by kernel_rfl) (range_row (w := W0.drew) (cs := (scrRow x (.slice (some ⟨b, off, none⟩) n0 c0) (.slice a1 n1 c1) (.slice a2 n2 c2) (.slice a3 n3 c3))) hr0) (fun hHeld => ?_)
  have hbd := HB0.out.trans ((bel_drew W0).mono HB0.out.size)
  have hrd : W0.drew.heap[w.heap.size]? = some (.cells ((scrRow x (.slice (some ⟨b, off, none⟩) n0 c0) (.slice a1 n1 c1) (.slice a2 n2 c2) (.slice a3 n3 c3))).toArray 31 (0, 0)) := hr0
  have hrd1 : W0.drew.heap[w.heap.size + 1]? = some (.cells zeroScr.toArray 31 (0, 0)) := hr1
  have hzd : W0.drew.heap.size = w.heap.size + 2 := hz0
  obtain ⟨W1, hWd⟩ : ∃ W, W = W0.drew := ⟨_, rfl⟩
  rw [← hWd] at hHeld hbd hrd hrd1 hzd ⊢
  have hzd1 : w.heap.size + 2 ≤ W1.heap.size := Nat.le_of_eq hzd.symm
  have hzd2 : W1.heap.size ≤ w.heap.size + 2 := Nat.le_of_eq hzd
  have HB1 := Lib.hid hbd
  clear hWd hr0 hr1 hz0 hzd hbd HB0
  (refine wpChain_take (i := 0) (v := ?_) rfl rfl rfl (by kernel_rfl) (by kernel_rfl) (by kernel_rfl) (by kernel_rfl) (fun _ _ _ h => h) (.inl ⟨by rfl, ?_⟩) hHeld ?_; rotate_left; (focus (intro wq hwq; go_simp; (try with_reducible rfl))); (try simp only [Act.put, List.getElem_toArray, List.getElem_cons_succ, List.getElem_cons_zero, List.setIfInBounds_toArray, List.set_cons_zero, List.set_cons_succ]))
  (refine wpChain_take (i := 1) rfl rfl rfl (by kernel_rfl) (by kernel_rfl) (by kernel_rfl) (by kernel_rfl) (fun _ _ _ h => h) (yieldsL_field (by rfl) _ _ rfl _ _ rfl (scrRow x (.slice (some ⟨b, off, none⟩) n0 c0) (.slice a1 n1 c1) (.slice a2 n2 c2) (.slice a3 n3 c3)) _ (fun _ h => h) (rfl) (fun wq hcq => by go_simp)) hHeld ?_; (try simp only [Act.put, List.getElem_toArray, List.getElem_cons_succ, List.getElem_cons_zero, List.setIfInBounds_toArray, List.set_cons_zero, List.set_cons_succ]))
  (refine wpChain_take (i := 3) (v := ?_) rfl rfl rfl (by kernel_rfl) (by kernel_rfl) (by kernel_rfl) (by kernel_rfl) (fun _ _ _ h => h) (.inl ⟨by rfl, ?_⟩) hHeld ?_; rotate_left; (focus (intro wq hwq; go_simp; (try with_reducible rfl))); (try simp only [Act.put, List.getElem_toArray, List.getElem_cons_succ, List.getElem_cons_zero, List.setIfInBounds_toArray, List.set_cons_zero, List.set_cons_succ]))
  (refine wpChain_take (i := 4) (v := ?_) rfl rfl rfl (by kernel_rfl) (by kernel_rfl) (by kernel_rfl) (by kernel_rfl) (fun _ _ _ h => h) (.inl ⟨by rfl, ?_⟩) hHeld ?_; rotate_left; (focus (intro wq hwq; go_simp; (try with_reducible rfl))); (try simp only [Act.put, List.getElem_toArray, List.getElem_cons_succ, List.getElem_cons_zero, List.setIfInBounds_toArray, List.set_cons_zero, List.set_cons_succ]))
  (refine wpChain_take (i := 5) rfl rfl rfl (by kernel_rfl) (by kernel_rfl) (by kernel_rfl) (by kernel_rfl) (fun _ _ _ h => h) (yieldsL_field (by rfl) _ _ rfl _ _ rfl (scrRow x (.slice (some ⟨b, off, none⟩) n0 c0) (.slice a1 n1 c1) (.slice a2 n2 c2) (.slice a3 n3 c3)) _ (fun _ h => h) (rfl) (fun wq hcq => by go_simp)) hHeld ?_; (try simp only [Act.put, List.getElem_toArray, List.getElem_cons_succ, List.getElem_cons_zero, List.setIfInBounds_toArray, List.set_cons_zero, List.set_cons_succ]))
  (refine wpChain_take (i := 6) (v := ?_) rfl rfl rfl (by kernel_rfl) (by kernel_rfl) (by kernel_rfl) (by kernel_rfl) (fun _ _ _ h => h) (.inl ⟨by rfl, ?_⟩) hHeld ?_; rotate_left; (focus (intro wq hwq; go_simp; (try with_reducible rfl))); (try simp only [Act.put, List.getElem_toArray, List.getElem_cons_succ, List.getElem_cons_zero, List.setIfInBounds_toArray, List.set_cons_zero, List.set_cons_succ]))
  (refine wpChain_take (i := 7) (v := ?_) rfl rfl rfl (by kernel_rfl) (by kernel_rfl) (by kernel_rfl) (by kernel_rfl) (fun _ _ _ h => h) (.inl ⟨by rfl, ?_⟩) hHeld ?_; rotate_left; (focus (intro wq hwq; go_simp; (try with_reducible rfl))); (try simp only [Act.put, List.getElem_toArray, List.getElem_cons_succ, List.getElem_cons_zero, List.setIfInBounds_toArray, List.set_cons_zero, List.set_cons_succ]))
  (refine wpChain_take (i := 8) rfl rfl rfl (by kernel_rfl) (by kernel_rfl) (by kernel_rfl) (by kernel_rfl) (fun _ _ _ h => h) (yieldsL_field (by rfl) _ _ rfl _ _ rfl (scrRow x (.slice (some ⟨b, off, none⟩) n0 c0) (.slice a1 n1 c1) (.slice a2 n2 c2) (.slice a3 n3 c3)) _ (fun _ h => h) (HK0.out) (fun wq hcq => by go_simp)) hHeld ?_; (try simp only [Act.put, List.getElem_toArray, List.getElem_cons_succ, List.getElem_cons_zero, List.setIfInBounds_toArray, List.set_cons_zero, List.set_cons_succ]))
  (refine wpChain_take (i := 9) (v := ?_) rfl rfl rfl (by kernel_rfl) (by kernel_rfl) (by kernel_rfl) (by kernel_rfl) (fun _ _ _ h => h) (.inl ⟨by rfl, ?_⟩) hHeld ?_; rotate_left; (focus (intro wq hwq; go_simp; (try with_reducible rfl))); (try simp only [Act.put, List.getElem_toArray, List.getElem_cons_succ, List.getElem_cons_zero, List.setIfInBounds_toArray, List.set_cons_zero, List.set_cons_succ]))
  (refine wpChain_take (i := 10) (v := ?_) rfl rfl rfl (by kernel_rfl) (by kernel_rfl) (by kernel_rfl) (by kernel_rfl) (fun _ _ _ h => h) (.inl ⟨by rfl, ?_⟩) hHeld ?_; rotate_left; (focus (intro wq hwq; go_simp; (try with_reducible rfl))); (try simp only [Act.put, List.getElem_toArray, List.getElem_cons_succ, List.getElem_cons_zero, List.setIfInBounds_toArray, List.set_cons_zero, List.set_cons_succ]))
  (refine wpChain_take (i := 11) (v := ?_) rfl rfl rfl (by kernel_rfl) (by kernel_rfl) (by kernel_rfl) (by kernel_rfl) (fun _ _ _ h => h) (.inl ⟨by rfl, ?_⟩) hHeld ?_; rotate_left; (focus (intro wq hwq; go_simp; (try with_reducible rfl))); (try simp only [Act.put, List.getElem_toArray, List.getElem_cons_succ, List.getElem_cons_zero, List.setIfInBounds_toArray, List.set_cons_zero, List.set_cons_succ]))
  (refine wpChain_take (i := 12) rfl rfl rfl (by kernel_rfl) (by kernel_rfl) (by kernel_rfl) (by kernel_rfl) (fun _ _ _ h => h) (yieldsL_field (by rfl) _ _ rfl _ _ rfl (scrRow x (.slice (some ⟨b, off, none⟩) n0 c0) (.slice a1 n1 c1) (.slice a2 n2 c2) (.slice a3 n3 c3)) _ (fun _ h => h) (HK0.out) (fun wq hcq => by go_simp)) hHeld ?_; (try simp only [Act.put, List.getElem_toArray, List.getElem_cons_succ, List.getElem_cons_zero, List.setIfInBounds_toArray, List.set_cons_zero, List.set_cons_succ]))
  (refine wpChain_take (i := 13) (v := ?_) rfl rfl rfl (by kernel_rfl) (by kernel_rfl) (by kernel_rfl) (by kernel_rfl) (fun _ _ _ h => h) (.inl ⟨by rfl, ?_⟩) hHeld ?_; rotate_left; (focus (intro wq hwq; go_simp; (try with_reducible rfl))); (try simp only [Act.put, List.getElem_toArray, List.getElem_cons_succ, List.getElem_cons_zero, List.setIfInBounds_toArray, List.set_cons_zero, List.set_cons_succ]))
  (refine wpChain_take (i := 14) (v := ?_) rfl rfl rfl (by kernel_rfl) (by kernel_rfl) (by kernel_rfl) (by kernel_rfl) (fun _ _ _ h => h) (.inl ⟨by rfl, ?_⟩) hHeld ?_; rotate_left; (focus (intro wq hwq; go_simp; (try with_reducible rfl))); (try simp only [Act.put, List.getElem_toArray, List.getElem_cons_succ, List.getElem_cons_zero, List.setIfInBounds_toArray, List.set_cons_zero, List.set_cons_succ]))
  (refine wpChain_take (i := 15) rfl rfl rfl (by kernel_rfl) (by kernel_rfl) (by kernel_rfl) (by kernel_rfl) (fun _ _ _ h => h) (yieldsL_field (by rfl) _ _ rfl _ _ rfl (scrRow x (.slice (some ⟨b, off, none⟩) n0 c0) (.slice a1 n1 c1) (.slice a2 n2 c2) (.slice a3 n3 c3)) _ (fun _ h => h) (HK0.out) (fun wq hcq => by go_simp)) hHeld ?_; (try simp only [Act.put, List.getElem_toArray, List.getElem_cons_succ, List.getElem_cons_zero, List.setIfInBounds_toArray, List.set_cons_zero, List.set_cons_succ]))
  (refine wpChain_take (i := 16) (v := ?_) rfl rfl rfl (by kernel_rfl) (by kernel_rfl) (by kernel_rfl) (by kernel_rfl) (fun _ _ _ h => h) (.inl ⟨by rfl, ?_⟩) hHeld ?_; rotate_left; (focus (intro wq hwq; go_simp; (try with_reducible rfl))); (try simp only [Act.put, List.getElem_toArray, List.getElem_cons_succ, List.getElem_cons_zero, List.setIfInBounds_toArray, List.set_cons_zero, List.set_cons_succ]))
  (refine wpChain_take (i := 17) (v := ?_) rfl rfl rfl (by kernel_rfl) (by kernel_rfl) (by kernel_rfl) (by kernel_rfl) (fun _ _ _ h => h) (.inl ⟨by rfl, ?_⟩) hHeld ?_; rotate_left; (focus (intro wq hwq; go_simp; (try with_reducible rfl))); (try simp only [Act.put, List.getElem_toArray, List.getElem_cons_succ, List.getElem_cons_zero, List.setIfInBounds_toArray, List.set_cons_zero, List.set_cons_succ]))
  refine wpChain_step (i := 2) rfl (by kernel_rfl) (fun K hK => ?_)
  go_simp
  have hHeld2 := range_alloc (.cells #[] 37) hHeld
  refine hK.out _ _ hHeld2 ?_
  clear hK K hHeld
  generalize hwb : World.alloc W1 _ = W2 at hHeld2 ⊢
  have hb2 : Below W1.heap.size W1 W2 := by rw [← hwb]; exact bel_alloc (Below.refl _ _) _
  have hE2 : FreshS (α := DCell) W1.heap.size W2 (.slice (some ⟨W1.heap.size, 0, none⟩) 0 0) [] := ⟨[W1.heap.size], OwnS.empty (α := DCell) (e := 37) rfl (by rw [← hwb]; exact new_at _ _ rfl), by simp, by simp⟩
  have hz2 : W1.heap.size < W2.heap.size := by rw [← hwb]; simp
  clear hwb
  have hHeld := hHeld2
  have HB2 := Lib.hid (HB1.out.trans (hb2.mono (by omega)))
  have hr2 := (hb2.block w.heap.size (by omega)).trans hrd
  have hs2 := (hb2.block (w.heap.size + 1) (by omega)).trans hrd1
  have hsub := (HM.out.keep (HB2.out.mono hB)).repS.sub (i := 0) (m := m) (by omega)
  simp only [Nat.zero_mul, Nat.add_zero, Nat.sub_zero, List.drop_zero] at hsub
  clear hrd hrd1 hb2 hHeld2
  (try simp only [Act.put, List.getElem_toArray, List.getElem_cons_succ, List.getElem_cons_zero, List.setIfInBounds_toArray, List.set_cons_zero, List.set_cons_succ])
  refine wpChain_step (i := 18) rfl (by kernel_rfl) (fun K hK => ?_)
  refine step_append_flat (α := DCell) rfl _ _ 23 rfl 37 _ _ Try.underlying23 info_implCell rfl rfl (by decide) W1.heap.size (by omega) _ [] rfl hE2 (.slice (some ⟨b, off, none⟩) m c0) (x.Main.Cells.take m) rfl hsub (by simp; omega) (by simp; omega) ?_
  intro v' W3 hF3 hb3
  rw [List.nil_append] at hF3
  obtain ⟨sa, sn, sc, rfl⟩ := hF3.repS.shape
  have HF3 := Lib.hid hF3
  have HB3 := Lib.hid (HB2.out.trans (hb3.mono (by omega)))
  have hr3 := (hb3.block w.heap.size (by omega)).trans hr2
  have hs3 := (hb3.block (w.heap.size + 1) (by omega)).trans hs2
  have hz3 := hb3.size
  refine hK.out _ _ (range_row hr3) ?_
  replace hHeld := range_row hr3
  clear hK K hb3 hF3 hr2 hs2 hE2 hsub
  (try simp only [Act.put, List.getElem_toArray, List.getElem_cons_succ, List.getElem_cons_zero, List.setIfInBounds_toArray, List.set_cons_zero, List.set_cons_succ])
  (refine wpChain_take (i := 19) (v := ?_) rfl rfl rfl (by kernel_rfl) (by kernel_rfl) (by kernel_rfl) (by kernel_rfl) (fun _ _ _ h => h) (.inl ⟨by rfl, ?_⟩) hHeld ?_; rotate_left; (focus (intro wq hwq; go_simp; (try with_reducible rfl))); (try simp only [Act.put, List.getElem_toArray, List.getElem_cons_succ, List.getElem_cons_zero, List.setIfInBounds_toArray, List.set_cons_zero, List.set_cons_succ]))
  refine wpChain_step (i := 20) rfl (by kernel_rfl) (fun K hK => ?_)
  go_simp
  have hHeld2 := range_alloc (.cells #[.slice sa sn sc] 39) hHeld
  refine hK.out _ _ hHeld2 ?_
  clear hK K hHeld
  generalize hwb : World.alloc W3 _ = W4 at hHeld2 ⊢
  have hb4 : Below W3.heap.size W3 W4 := by rw [← hwb]; exact bel_alloc (Below.refl _ _) _
  have hn4 : W4.heap[W3.heap.size]? = some (.cells #[.slice sa sn sc] 39 (0, 0)) := by rw [← hwb]; exact new_at _ _ rfl
  have hz4 : W3.heap.size < W4.heap.size := by rw [← hwb]; simp
  clear hwb
  have hHeld := hHeld2
  have HB4 := Lib.hid (HB3.out.trans (hb4.mono (by omega)))
  have hr4 := (hb4.block w.heap.size (by omega)).trans hr3
  have hs4 := (hb4.block (w.heap.size + 1) (by omega)).trans hs3
  have HF4 := Lib.hid (HF3.out.grow hb4)
  clear hr3 hs3 hb4 hHeld2
  (try simp only [Act.put, List.getElem_toArray, List.getElem_cons_succ, List.getElem_cons_zero, List.setIfInBounds_toArray, List.set_cons_zero, List.set_cons_succ])
  refine wpChain_step (i := 21) rfl (by kernel_rfl) (fun K hK => ?_)
  refine step_append_drow rfl _ _ 29 rfl Try.underlying29 info_implRow (B := B) (M := M) (L := W1.heap.size) (v := .slice a3 n3 c3) (u := .slice sa sn sc) (l := x.Back) (r := x.Main.Cells.take m) (g := W3.heap.size) (c := 1) rfl rfl hBM (HBK.out.keep (HB4.out.mono hMw)) (by omega) (by omega) HF4.out hn4 (by omega) ?_
  intro v' W5 hG5 hb5 hk5
  obtain ⟨a5, n5, c5, rfl⟩ := hG5.repS.shape
  have HG5 := Lib.hid hG5
  have HB5 := Lib.hid ((HB4.out.mono hB).trans hb5)
  have hr5 := (hk5 w.heap.size hMw (by omega)).trans hr4
  have hs5 := (hk5 (w.heap.size + 1) (by omega) (by omega)).trans hs4
  have hz5 := hb5.size
  have HK5 := Lib.hid (show ∀ k, M ≤ k → k < w.heap.size → W5.heap[k]? = w.heap[k]? from fun k h1 h2 => (hk5 k h1 (by omega)).trans (HB4.out.block k h2))
  refine hK.out _ _ (range_row hr5) ?_
  replace hHeld := range_row hr5
  clear hK K hG5 hb5 hk5 hr4 hs4 hn4
  (try simp only [Act.put, List.getElem_toArray, List.getElem_cons_succ, List.getElem_cons_zero, List.setIfInBounds_toArray, List.set_cons_zero, List.set_cons_succ])
  (refine wpChain_take (i := 22) (v := ?_) rfl rfl rfl (by kernel_rfl) (by kernel_rfl) (by kernel_rfl) (by kernel_rfl) (fun _ _ _ h => h) (.inl ⟨by rfl, ?_⟩) hHeld ?_; rotate_left; (focus (intro wq hwq; go_simp; (try with_reducible rfl))); (try simp only [Act.put, List.getElem_toArray, List.getElem_cons_succ, List.getElem_cons_zero, List.setIfInBounds_toArray, List.set_cons_zero, List.set_cons_succ]))
  refine wpChain_store rfl rfl (by kernel_rfl) (by kernel_rfl) rfl 29 _ _ rfl w.heap.size 30 rfl _ rfl [.slice a5 n5 c5] rfl ((scrRow x (.slice (some ⟨b, off, none⟩) n0 c0) (.slice a1 n1 c1) (.slice a2 n2 c2) (.slice a3 n3 c3))).toArray 31 (RowAt.of hr5) (Nat.le_of_ble_eq_true rfl) (by simp [Value.oneCell']) (show (Try.prog.info? 29).map (·.size) = some 1 by kernel_rfl) ?_
  intro W6 hW
  have hM6 := Moved.row hW
  have hr6 := row_turn hr5 hW (cur' := (scrRow x (.slice (some ⟨b, off, none⟩) n0 c0) (.slice a1 n1 c1) (.slice a2 n2 c2) (.slice a5 n5 c5))) rfl
  clear hW hr5 hHeld
  have hs6 := (hM6.other (w.heap.size + 1) (by omega)).trans hs5
  have HG6 := Lib.hid (HG5.out.moved hM6 hMw (by omega))
  have HB6 := Lib.hid (hM6.below HB5.out hB)
  have HK6 := Lib.hid (show ∀ k, M ≤ k → k < w.heap.size → W6.heap[k]? = w.heap[k]? from fun k h1 h2 => (hM6.other k (by omega)).trans (HK5.out k h1 h2))
  clear hs5 hM6
  have hn5 := (len_of HG6.out.repS).1
  simp only [List.length_append, List.length_cons, List.length_nil] at hn5
  have HN5 := Lib.hid hn5
  have k30 : W6.cell? ⟨w.heap.size, 30, none⟩ = some (.slice a5 n5 c5) := cell_at hr6 rfl
  have k29 : W6.cell? ⟨w.heap.size, 29, none⟩ = some (.int .i64 (lim : Int)) := cell_at hr6 (by rw [← HLM.out]; rfl)
  clear hn5
  (try simp only [Act.put, List.getElem_toArray, List.getElem_cons_succ, List.getElem_cons_zero, List.setIfInBounds_toArray, List.set_cons_zero, List.set_cons_succ])
  by_cases hle : n5 ≤ lim
  · have d1 : decide ((lim : Int) < (n5 : Int)) = false := decide_eq_false (by omega)
    go_wp2_with (first
      | ((with_reducible (show wpList _ _ _ (Oper.mk _ (Op.load 31 _) _ _ _ _ :: _) _ _)); refine wpList_load_row rfl 31 _ rfl w.heap.size rfl 31 (scrRow x (.slice (some ⟨b, off, none⟩) n0 c0) (.slice a1 n1 c1) (.slice a2 n2 c2) (.slice a5 n5 c5)).toArray (0, 0) _ hr6 Try.underlying31 rfl size_implScr ?_)
      | ((with_reducible (show wpList _ _ _ (Oper.mk _ (Op.store 31 _ _) _ _ _ _ :: _) _ _)); refine wpList_store_at rfl 31 _ _ rfl (w.heap.size + 1) 0 rfl _ rfl (scrRow x (.slice (some ⟨b, off, none⟩) n0 c0) (.slice a1 n1 c1) (.slice a2 n2 c2) (.slice a5 n5 c5)) rfl zeroScr.toArray 31 hs6 (Nat.le_of_ble_eq_true rfl) (scrRow_one x rfl rfl rfl rfl) size_implScr ?_; intro W7 hW; have hM7 := Moved.row hW; have hr7 := (row_turn hs6 hW (cur' := (scrRow x (.slice (some ⟨b, off, none⟩) n0 c0) (.slice a1 n1 c1) (.slice a2 n2 c2) (.slice a5 n5 c5))) rfl); clear hW))
    have HB7 := hM7.below HB6.out (by omega)
    have hkb : KeptBack x { x with Back := x.Back ++ [DRow.mk (x.Main.Cells.take m)] } := ⟨_, rfl, by have := HN5.out; have := HLM.out; simp; omega, by have hall := (scrOkB_true HG.out).2.2.2.2.2.2.2.1; rw [List.all_append, hall]; simp [HROW.out]⟩
    exact bodyPost_ret (results_cell_row Try.results98 _ _ (w.heap.size + 1) 31 (scrRow x (.slice (some ⟨b, off, none⟩) n0 c0) (.slice a1 n1 c1) (.slice a2 n2 c2) (.slice a5 n5 c5)).toArray (0, 0) _ rfl hr7 Try.underlying31 rfl size_implScr) rfl ⟨(scrRow x (.slice (some ⟨b, off, none⟩) n0 c0) (.slice a1 n1 c1) (.slice a2 n2 c2) (.slice a5 n5 c5)), _, rfl, away_of (x := { x with Back := x.Back ++ [DRow.mk (x.Main.Cells.take m)] }) (kept_ok hkb HG.out) hBM (HM.out.keep HB7) (HA.out.keep HB7) (HT.out.keep HB7) (fun W' hk => (HG6.out.moved hM7 (by omega) (by omega)).away (by omega) W' (fun k h1 h2 => hk k h1 (by omega))), hkb, HB7, fun k h1 h2 => (hM7.other k (by omega)).trans (HK6.out k h1 h2)⟩
  · obtain ⟨kk, hkk⟩ : ∃ kk, n5 = lim + kk := ⟨n5 - lim, by omega⟩
    have HKK := Lib.hid hkk
    have hkk1 : kk = 1 := by have := HN5.out; omega
    obtain ⟨g5, o5, rfl⟩ := ptr_some HG6.out.repS (by simp)
    have d1 : decide ((lim : Int) < (n5 : Int)) = true := decide_eq_true (by omega)
    have e5 : IntKind.i64.wrap ((n5 : Int) - (lim : Int)) = (kk : Int) := by rw [IntKind.wrap_i64]; omega
    have f0 : (0 : Int) ≤ (kk : Int) := by omega
    have f1 : (kk : Int) ≤ (n5 : Int) := by omega
    have hl5 := (len_of HG6.out.repS).2.1
    have f2 : (n5 : Int) ≤ (c5 : Int) := by omega
    clear hkk hkk1 hl5
    by_cases hck : c5 = kk
    · subst hck
      go_wp2_with (first
        | ((with_reducible (show wpList _ _ _ (Oper.mk _ (Op.store 29 _ _) _ _ _ _ :: _) _ _)); refine wpList_store_at rfl 29 _ _ rfl w.heap.size 30 rfl _ rfl [.slice (some ⟨g5, o5, none⟩) (n5 - c5) 0] rfl (scrRow x (.slice (some ⟨b, off, none⟩) n0 c0) (.slice a1 n1 c1) (.slice a2 n2 c2) (.slice (some ⟨g5, o5, none⟩) n5 c5)).toArray 31 hr6 (Nat.le_of_ble_eq_true rfl) (by simp [Value.oneCell']) (show (Try.prog.info? 29).map (·.size) = some 1 by kernel_rfl) ?_; intro W7 hW; have hM7 := Moved.row hW; have hr7 := (row_turn hr6 hW (cur' := (scrRow x (.slice (some ⟨b, off, none⟩) n0 c0) (.slice a1 n1 c1) (.slice a2 n2 c2) (.slice (some ⟨g5, o5, none⟩) (n5 - c5) 0))) rfl); clear hW; have hs7 := (hM7.other (w.heap.size + 1) (by omega)).trans hs6; clear hr6 hs6 k29 k30)
        | ((with_reducible (show wpList _ _ _ (Oper.mk _ (Op.load 31 _) _ _ _ _ :: _) _ _)); refine wpList_load_row rfl 31 _ rfl w.heap.size rfl 31 (scrRow x (.slice (some ⟨b, off, none⟩) n0 c0) (.slice a1 n1 c1) (.slice a2 n2 c2) (.slice (some ⟨g5, o5, none⟩) (n5 - c5) 0)).toArray (0, 0) _ hr7 Try.underlying31 rfl size_implScr ?_)
        | ((with_reducible (show wpList _ _ _ (Oper.mk _ (Op.store 31 _ _) _ _ _ _ :: _) _ _)); refine wpList_store_at rfl 31 _ _ rfl (w.heap.size + 1) 0 rfl _ rfl (scrRow x (.slice (some ⟨b, off, none⟩) n0 c0) (.slice a1 n1 c1) (.slice a2 n2 c2) (.slice (some ⟨g5, o5, none⟩) (n5 - c5) 0)) rfl zeroScr.toArray 31 hs7 (Nat.le_of_ble_eq_true rfl) (scrRow_one x rfl rfl rfl rfl) size_implScr ?_; intro W8 hW; have hM8 := Moved.row hW; have hr8 := (row_turn hs7 hW (cur' := (scrRow x (.slice (some ⟨b, off, none⟩) n0 c0) (.slice a1 n1 c1) (.slice a2 n2 c2) (.slice (some ⟨g5, o5, none⟩) (n5 - c5) 0))) rfl); clear hW))
      have HB7 := hM7.below HB6.out hB
      have HB8 := hM8.below HB7 (by omega)
      have HG8 := ((HG6.out.moved hM7 (by omega) (by omega)).moved hM8 (by omega) (by omega))
      have hkb : KeptBack x { x with Back := [] } := ⟨_, rfl, by have := HLM.out; simp; omega, rfl⟩
      exact bodyPost_ret (results_cell_row Try.results98 _ _ (w.heap.size + 1) 31 (scrRow x (.slice (some ⟨b, off, none⟩) n0 c0) (.slice a1 n1 c1) (.slice a2 n2 c2) (.slice (some ⟨g5, o5, none⟩) (n5 - c5) 0)).toArray (0, 0) _ rfl hr8 Try.underlying31 rfl size_implScr) rfl ⟨(scrRow x (.slice (some ⟨b, off, none⟩) n0 c0) (.slice a1 n1 c1) (.slice a2 n2 c2) (.slice (some ⟨g5, o5, none⟩) (n5 - c5) 0)), _, rfl, away_of (x := { x with Back := [] }) (kept_ok hkb HG.out) hBM (HM.out.keep HB8) (HA.out.keep HB8) (HT.out.keep HB8) (fun W' hk => show RepS W' _ ([] : List DRow) from ⟨_, _, by rw [show n5 - c5 = 0 by have := HKK.out; have := HN5.out; omega]; rfl, by simp, fun h => absurd rfl h⟩), hkb, HB8, fun k h1 h2 => (hM8.other k (by omega)).trans ((hM7.other k (by omega)).trans (HK6.out k h1 h2))⟩
    · have hck2 : ¬ kk = c5 := fun e => hck e.symm
      go_wp2_with (first
        | ((with_reducible (show wpList _ _ _ (Oper.mk _ (Op.store 29 _ _) _ _ _ _ :: _) _ _)); refine wpList_store_at rfl 29 _ _ rfl w.heap.size 30 rfl _ rfl [.slice (some ⟨g5, o5 + kk, none⟩) (n5 - kk) (c5 - kk)] rfl (scrRow x (.slice (some ⟨b, off, none⟩) n0 c0) (.slice a1 n1 c1) (.slice a2 n2 c2) (.slice (some ⟨g5, o5, none⟩) n5 c5)).toArray 31 hr6 (Nat.le_of_ble_eq_true rfl) (by simp [Value.oneCell']) (show (Try.prog.info? 29).map (·.size) = some 1 by kernel_rfl) ?_; intro W7 hW; have hM7 := Moved.row hW; have hr7 := (row_turn hr6 hW (cur' := (scrRow x (.slice (some ⟨b, off, none⟩) n0 c0) (.slice a1 n1 c1) (.slice a2 n2 c2) (.slice (some ⟨g5, o5 + kk, none⟩) (n5 - kk) (c5 - kk)))) rfl); clear hW; have hs7 := (hM7.other (w.heap.size + 1) (by omega)).trans hs6; clear hr6 hs6 k29 k30)
        | ((with_reducible (show wpList _ _ _ (Oper.mk _ (Op.load 31 _) _ _ _ _ :: _) _ _)); refine wpList_load_row rfl 31 _ rfl w.heap.size rfl 31 (scrRow x (.slice (some ⟨b, off, none⟩) n0 c0) (.slice a1 n1 c1) (.slice a2 n2 c2) (.slice (some ⟨g5, o5 + kk, none⟩) (n5 - kk) (c5 - kk))).toArray (0, 0) _ hr7 Try.underlying31 rfl size_implScr ?_)
        | ((with_reducible (show wpList _ _ _ (Oper.mk _ (Op.store 31 _ _) _ _ _ _ :: _) _ _)); refine wpList_store_at rfl 31 _ _ rfl (w.heap.size + 1) 0 rfl _ rfl (scrRow x (.slice (some ⟨b, off, none⟩) n0 c0) (.slice a1 n1 c1) (.slice a2 n2 c2) (.slice (some ⟨g5, o5 + kk, none⟩) (n5 - kk) (c5 - kk))) rfl zeroScr.toArray 31 hs7 (Nat.le_of_ble_eq_true rfl) (scrRow_one x rfl rfl rfl rfl) size_implScr ?_; intro W8 hW; have hM8 := Moved.row hW; have hr8 := (row_turn hs7 hW (cur' := (scrRow x (.slice (some ⟨b, off, none⟩) n0 c0) (.slice a1 n1 c1) (.slice a2 n2 c2) (.slice (some ⟨g5, o5 + kk, none⟩) (n5 - kk) (c5 - kk)))) rfl); clear hW))
      have HB7 := hM7.below HB6.out hB
      have HB8 := hM8.below HB7 (by omega)
      have HG8 := ((HG6.out.moved hM7 (by omega) (by omega)).moved hM8 (by omega) (by omega))
      have hkb : KeptBack x { x with Back := (x.Back ++ [DRow.mk (x.Main.Cells.take m)]).drop kk } := ⟨_, rfl, by have := HN5.out; have := HKK.out; have := HLM.out; simp; omega, List.all_eq_true.2 fun r hr => by
        have hr' := List.mem_of_mem_drop hr
        have hall := (scrOkB_true HG.out).2.2.2.2.2.2.2.1
        rcases List.mem_append.1 hr' with h | h
        · exact List.all_eq_true.1 hall r h
        · simp at h; rw [h]; exact HROW.out⟩
      have hsb : ∀ W' : World, (∀ k, k < W8.heap.size → (lo ≤ k ∧ k < M ∨ w.heap.size ≤ k) → W'.heap[k]? = W8.heap[k]?) → RepS W' (.slice (some ⟨g5, o5 + kk, none⟩) (n5 - kk) (c5 - kk)) ((x.Back ++ [DRow.mk (x.Main.Cells.take m)]).drop kk) := fun W' hk => by
        have h1 := (HG8.away (by omega) W' (fun k h1 h2 => hk k h1 (by omega))).sub (i := kk) (m := n5 - kk) (by simp; have := HN5.out; omega)
        rw [List.take_of_length_le (by simp; have := HN5.out; omega)] at h1
        simp only [show kk * Rep.size DRow = kk from Nat.mul_one kk] at h1
        exact h1
      exact bodyPost_ret (results_cell_row Try.results98 _ _ (w.heap.size + 1) 31 (scrRow x (.slice (some ⟨b, off, none⟩) n0 c0) (.slice a1 n1 c1) (.slice a2 n2 c2) (.slice (some ⟨g5, o5 + kk, none⟩) (n5 - kk) (c5 - kk))).toArray (0, 0) _ rfl hr8 Try.underlying31 rfl size_implScr) rfl ⟨(scrRow x (.slice (some ⟨b, off, none⟩) n0 c0) (.slice a1 n1 c1) (.slice a2 n2 c2) (.slice (some ⟨g5, o5 + kk, none⟩) (n5 - kk) (c5 - kk))), _, rfl, away_of (x := { x with Back := (x.Back ++ [DRow.mk (x.Main.Cells.take m)]).drop kk }) (kept_ok hkb HG.out) hBM (HM.out.keep HB8) (HA.out.keep HB8) (HT.out.keep HB8) hsb, hkb, HB8, fun k h1 h2 => (hM8.other k (by omega)).trans ((hM7.other k (by omega)).trans (HK6.out k h1 h2))⟩
end Go.Proofs.Ytaobgfneeijpmaa
