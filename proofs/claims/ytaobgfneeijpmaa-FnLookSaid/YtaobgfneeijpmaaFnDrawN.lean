/- The walk of a new screen; what makes a screen well formed. -/
import Derived.Test.YtaobgfneeijpmaaFnDrawG
import Derived.Test.YtaobgfneeijpmaaFnScrS
set_option linter.unusedSimpArgs false
set_option linter.unusedVariables false
namespace Go.Mux
open Go.RowKit
/-- A screen as drawing keeps it. -/
@[irreducible] def drawn (x : DScr) : Prop := scrOkB x = true ∧ x.OnAlt = false ∧ x.Top = 0 ∧ x.Tabs.length ≤ 1
/-- A new screen. -/
@[irreducible] def newScr (W H L : Int) (n : Nat) (t : List Int) : DScr := { W := W, H := H, Main := { W := W, H := H, Cells := List.replicate n blankC }, Alt := { W := W, H := H, Cells := List.replicate n blankC }, OnAlt := false, X := 0, Y := 0, Wrap := false, A := { Fg := 0, Bg := 0, Bold := false, Under := false, Turn := false }, Top := 0, Bot := H - 1, NoWrap := false, Hide := false, SaveX := 0, SaveY := 0, SaveA := { Fg := 0, Bg := 0, Bold := false, Under := false, Turn := false }, Tabs := t, Limit := L, Back := [] }
theorem range_keep {w w' : World} {b o : Nat} {cs : List Value} (h : w.rangeAt b o cs) (e : w'.heap[b]? = w.heap[b]?) : w'.rangeAt b o cs := fun j v hv => (cell_of_heap e (o + j)).trans (h j v hv)
theorem blank_ok : cellOkB blankC = true := by
  unfold cellOkB blankC
  simp only [Bool.and_eq_true]
  exact ⟨shows_in (by omega), attr_in (by decide) (by decide) (by decide) (by decide)⟩
theorem blank_grid {W H : Int} {n : Nat} (h1 : 1 ≤ W) (h2 : W ≤ 120) (h3 : 1 ≤ H) (h4 : H ≤ 120) (h5 : W * H = (n : Int)) (hn : n ≤ 4000) : gridOkB ({ W := W, H := H, Cells := List.replicate n blankC } : DGrid) = true := by
  refine grid_yes ?_ ?_ ?_
  · unfold isSizeB
    simp only [Bool.and_eq_true, decide_eq_true_eq, withinB_true]
    omega
  · simp [h5]
  · intro c hc
    rw [List.eq_of_mem_replicate hc, blank_ok]; rfl
theorem asc_small {W : Int} {t : List Int} (ht : t = [] ∨ (t = [8] ∧ 8 < W)) : ascB t (W - 1) = true := by
  refine asc_yes fun k n hk hn => ?_
  rcases ht with rfl | ⟨rfl, h8⟩
  · simp at hk
  · have h0 : k = 0 := by simp at hk; omega
    subst h0
    obtain rfl : 8 = n := by simpa using hn
    exact tabBad_zero (by rw [withinB_true]; omega)
/-- A screen reads so, whatever turns from M on, below L. -/
def RepAway (lo M L : Nat) (W : World) (cs : List Value) (x : DScr) : Prop := ∀ W' : World, (∀ k, k < W.heap.size → (lo ≤ k ∧ k < M ∨ L ≤ k) → W'.heap[k]? = W.heap[k]?) → Rep.rep W' cs x
theorem RepAway.low {lo M L b : Nat} {W : World} {cs : List Value} {x : DScr} (h : RepAway lo M L W cs x) (h1 : b ≤ lo) (h2 : b ≤ L) : RepAway 0 0 b W cs x := fun W' hk =>
  h W' fun k h3 h4 => hk k h3 (.inr (by omega))
theorem fresh_at {α : Type} [Rep α] {B : Nat} {W W' : World} {cs : List Value} {x : α} (h : Fresh B W cs x) (hk : ∀ k, k < W.heap.size → B ≤ k → W'.heap[k]? = W.heap[k]?) : Rep.rep W' cs x := by
  obtain ⟨fp, ho, hn, hf⟩ := h
  exact Rep.ownRep (Rep.ownMono ho fun b hb => hk b (Rep.ownLt ho b hb) (hf b hb))
theorem freshS_at {α : Type} [Rep α] {B : Nat} {W W' : World} {v : Value} {l : List α} (h : FreshS B W v l) (hk : ∀ k, k < W.heap.size → B ≤ k → W'.heap[k]? = W.heap[k]?) : RepS W' v l := by
  obtain ⟨fp, ho, hn, hf⟩ := h
  exact (ho.mono fun b hb => hk b (ho.lt b hb) (hf b hb)).repS
/-- A screen is well formed: what is to be shown. -/
theorem scr_ok {x : DScr} (h1 : gridOkB x.Main = true) (h2 : gridOkB x.Alt = true) (h3 : scrSize x = true) (h4 : attrOkB x.A = true) (h5 : attrOkB x.SaveA = true)
    (h6 : 0 ≤ x.X ∧ x.X < x.W ∧ 0 ≤ x.Y ∧ x.Y < x.H ∧ 0 ≤ x.SaveX ∧ x.SaveX < x.W ∧ 0 ≤ x.SaveY ∧ x.SaveY < x.H ∧ (x.Wrap = true → x.X = x.W - 1) ∧ 0 ≤ x.Top ∧ x.Top ≤ x.Bot ∧ x.Bot < x.H ∧ (x.Top = x.Bot → x.H = 1) ∧ 0 ≤ x.Limit ∧ x.Limit ≤ 100 ∧ (x.Back.length : Int) ≤ x.Limit)
    (h7 : ascB x.Tabs (x.W - 1) = true) (h8 : x.Back.all rowOkB = true) : scrOkB x = true := by
  unfold scrOkB scrNums
  simp only [Bool.and_eq_true, decide_eq_true_eq]
  exact ⟨⟨⟨⟨⟨⟨⟨h1, h2⟩, h3⟩, h4⟩, h5⟩, h6⟩, h7⟩, h8⟩
theorem newScr_ok {W H L : Int} {n : Nat} {t : List Int} (h1 : 1 ≤ W) (h2 : W ≤ 10) (h3 : 1 ≤ H) (h4 : H ≤ 4) (h5 : W * H = (n : Int)) (hn : n ≤ 4000) (hL : 0 ≤ L) (hL2 : L ≤ 3) (ht : t = [] ∨ (t = [8] ∧ 8 < W)) : drawn (newScr W H L n t) := by
  have hg := blank_grid h1 (by omega) h3 (by omega) h5 hn
  have ha : attrOkB ({ Fg := 0, Bg := 0, Bold := false, Under := false, Turn := false } : DAttr) = true := attr_in (by decide) (by decide) (by decide) (by decide)
  unfold drawn newScr
  refine ⟨scr_ok hg hg (by unfold scrSize; simp) ha ha ?_ (asc_small ht) rfl, rfl, rfl, by rcases ht with rfl | ⟨rfl, _⟩ <;> simp⟩
  dsimp only
  simp only [List.length_nil]
  refine ⟨by omega, by omega, by omega, by omega, by omega, by omega, by omega, by omega, (fun h => absurd h (by decide)), by omega, by omega, by omega, by omega, by omega, by omega, by omega⟩
end Go.Mux
namespace Go.Proofs.Ytaobgfneeijpmaa
open Go.RowKit Go.Mux
set_option maxRecDepth 100000 in
set_option maxHeartbeats 1000000 in
theorem spec_ScrNew (w : World) (W H L : Int) (n : Nat) (h1 : 1 ≤ W) (h2 : W ≤ 10) (h3 : 1 ≤ H) (h4 : H ≤ 4) (h5 : W * H = (n : Int)) (hL : 0 ≤ L) (hL2 : L ≤ 3) : Calls Try.prog 21 #[.int .i64 W, .int .i64 H, .int .i64 L] w (Gives w fun r w' => ∃ cs y, r = .tuple #[.agg cs.toArray, .bool true] ∧ RepAway 0 0 w.heap.size w' cs y ∧ drawn y) := by
  have d1 : decide (L < 0) = false := decide_eq_false (by omega)
  have d2 : decide (100 < L) = false := decide_eq_false (by omega)
  have hn4 : n ≤ 40 := by
    have : W * H ≤ 10 * 4 := Int.mul_le_mul h2 h4 (by omega) (by omega)
    omega
  have H5 := Lib.hid h5
  have e1 : IntKind.i64.wrap (H - 1) = H - 1 := by rw [IntKind.wrap_i64]; omega
  clear h5
  go_enter Try.func21, Try.ntmps21
  go_wp2_with fail
  generalize hwb : World.alloc w _ = W0
  have HB0 := Lib.hid (show Below w.heap.size w W0 from by rw [← hwb]; exact bel_alloc (Below.refl _ _) _)
  have hr0 : W0.heap[w.heap.size]? = some (.cells #[.int .i64 0, .int .i64 0, .int .i64 0, .int .i64 0, .slice none 0 0, .int .i64 0, .int .i64 0, .slice none 0 0, .bool false, .int .i64 0, .int .i64 0, .bool false, .int .i64 0, .int .i64 0, .bool false, .bool false, .bool false, .int .i64 0, .int .i64 0, .bool false, .bool false, .int .i64 0, .int .i64 0, .int .i64 0, .int .i64 0, .bool false, .bool false, .bool false, .slice none 0 0, .int .i64 0, .slice none 0 0] 31 (0, 0)) := by rw [← hwb]; exact new_at _ _ rfl
  have hz0 : W0.heap.size = w.heap.size + 1 := by rw [← hwb]; simp
  clear hwb
  refine (spec_GridNew W0 W H n h1 (by omega) h3 (by omega) H5.out (by omega)).mono ?_
  rintro e W1 ⟨_, rfl, ⟨cs1, rfl, hF⟩, hb⟩
  have HF1 := Lib.hid hF
  have HB1 := Lib.hid (HB0.out.trans (hb.mono (by omega)))
  have hr1 := (hb.block w.heap.size (by omega)).trans hr0
  have hs1 := hb.size
  obtain ⟨a1, n1, c1, rfl⟩ := DGrid.shape hF.rep
  clear hb hF hr0
  go_wp2_with fail
  generalize hwb : World.alloc W1 _ = W2
  have hb2 : Below W1.heap.size W1 W2 := by rw [← hwb]; exact bel_alloc (Below.refl _ _) _
  have hg2 : W2.heap[W1.heap.size]? = some (.cells #[.int .i64 W, .int .i64 H, .slice a1 n1 c1] 25 (0, 0)) := by rw [← hwb]; exact new_at _ _ rfl
  have hr2 := (hb2.block w.heap.size (by omega)).trans hr1
  clear hwb hr1
  refine wp_region_chain 12 (fun w' => w'.rangeAt W1.heap.size 0 [.int .i64 W, .int .i64 H, .slice a1 n1 c1]) (by kernel_rfl) (range_row (w := W2.drew) (cs := [.int .i64 W, .int .i64 H, .slice a1 n1 c1]) hg2) (fun hHeld => ?_)
  have hbd := hb2.trans ((bel_drew W2).mono hb2.size)
  have hrd : W2.drew.heap[w.heap.size]? = _ := hr2
  obtain ⟨W3, hWd⟩ : ∃ W, W = W2.drew := ⟨_, rfl⟩
  rw [← hWd] at hHeld hbd hrd ⊢
  clear hWd hb2 hr2 hg2
  have HM := Lib.hid (fresh_grow HF1.out hbd)
  have HB3 := Lib.hid (HB1.out.trans (hbd.mono HB1.out.size))
  have hs3 := hbd.size
  clear hbd
  (refine wpChain_take (i := 0) (v := ?_) rfl rfl rfl (by kernel_rfl) (by kernel_rfl) (by kernel_rfl) (by kernel_rfl) (fun _ _ _ h => h) (.inl ⟨by rfl, ?_⟩) hHeld ?_; rotate_left; (focus (intro wq hwq; go_simp; (try with_reducible rfl))); (try simp only [Act.put, List.getElem_toArray, List.getElem_cons_succ, List.getElem_cons_zero, List.setIfInBounds_toArray, List.set_cons_zero, List.set_cons_succ]))
  (refine wpChain_take (i := 1) (v := ?_) rfl rfl rfl (by kernel_rfl) (by kernel_rfl) (by kernel_rfl) (by kernel_rfl) (fun _ _ _ h => h) (.inl ⟨by rfl, ?_⟩) hHeld ?_; rotate_left; (focus (intro wq hwq; go_simp; (try with_reducible rfl))); (try simp only [Act.put, List.getElem_toArray, List.getElem_cons_succ, List.getElem_cons_zero, List.setIfInBounds_toArray, List.set_cons_zero, List.set_cons_succ]))
  (refine wpChain_take (i := 2) rfl rfl rfl (by kernel_rfl) (by kernel_rfl) (by kernel_rfl) (by kernel_rfl) (fun _ _ _ h => h) (yieldsL_struct (by rfl) 25 _ rfl W1.heap.size 0 rfl [.int .i64 W, .int .i64 H, .slice a1 n1 c1] _ (fun _ h => h) Try.underlying25 rfl size_implGrid) hHeld ?_; (try simp only [Act.put, List.getElem_toArray, List.getElem_cons_succ, List.getElem_cons_zero, List.setIfInBounds_toArray, List.set_cons_zero, List.set_cons_succ]))
  (refine wpChain_take (i := 3) rfl rfl rfl (by kernel_rfl) (by kernel_rfl) (by kernel_rfl) (by kernel_rfl) (fun _ _ _ h => h) (yieldsL_struct (by rfl) 25 _ rfl W1.heap.size 0 rfl [.int .i64 W, .int .i64 H, .slice a1 n1 c1] _ (fun _ h => h) Try.underlying25 rfl size_implGrid) hHeld ?_; (try simp only [Act.put, List.getElem_toArray, List.getElem_cons_succ, List.getElem_cons_zero, List.setIfInBounds_toArray, List.set_cons_zero, List.set_cons_succ]))
  (refine wpChain_take (i := 5) (v := ?_) rfl rfl rfl (by kernel_rfl) (by kernel_rfl) (by kernel_rfl) (by kernel_rfl) (fun _ _ _ h => h) (.inl ⟨by rfl, ?_⟩) hHeld ?_; rotate_left; (focus (intro wq hwq; go_simp; (try with_reducible rfl))); (try simp only [Act.put, List.getElem_toArray, List.getElem_cons_succ, List.getElem_cons_zero, List.setIfInBounds_toArray, List.set_cons_zero, List.set_cons_succ]))
  (refine wpChain_take (i := 6) (v := ?_) rfl rfl rfl (by kernel_rfl) (by kernel_rfl) (by kernel_rfl) (by kernel_rfl) (fun _ _ _ h => h) (.inl ⟨by rfl, ?_⟩) hHeld ?_; rotate_left; (focus (intro wq hwq; go_simp; (try with_reducible rfl))); (try simp only [Act.put, List.getElem_toArray, List.getElem_cons_succ, List.getElem_cons_zero, List.setIfInBounds_toArray, List.set_cons_zero, List.set_cons_succ]))
  (refine wpChain_take (i := 7) (v := ?_) rfl rfl rfl (by kernel_rfl) (by kernel_rfl) (by kernel_rfl) (by kernel_rfl) (fun _ _ _ h => h) (.inl ⟨by rfl, ?_⟩) hHeld ?_; rotate_left; (focus (intro wq hwq; go_simp; (try with_reducible rfl))); (try simp only [Act.put, List.getElem_toArray, List.getElem_cons_succ, List.getElem_cons_zero, List.setIfInBounds_toArray, List.set_cons_zero, List.set_cons_succ]))
  (refine wpChain_take (i := 9) (v := ?_) rfl rfl rfl (by kernel_rfl) (by kernel_rfl) (by kernel_rfl) (by kernel_rfl) (fun _ _ _ h => h) (.inl ⟨by rfl, ?_⟩) hHeld ?_; rotate_left; (focus (intro wq hwq; go_simp; (try with_reducible rfl))); (try simp only [Act.put, List.getElem_toArray, List.getElem_cons_succ, List.getElem_cons_zero, List.setIfInBounds_toArray, List.set_cons_zero, List.set_cons_succ]))
  refine wpChain_step (i := 4) rfl (by kernel_rfl) (fun K hK => ?_)
  go_simp
  refine (spec_l07Copy W3 [.int .i64 W, .int .i64 H, .slice a1 n1 c1] _ HM.out.rep (by simp; omega)).mono ?_
  rintro e W4 ⟨_, rfl, ⟨cs4, rfl, hF⟩, hb⟩
  obtain ⟨a4, n4, c4, rfl⟩ := DGrid.shape hF.rep
  have HF4 := Lib.hid hF
  have HM4 := Lib.hid (fresh_grow HM.out hb)
  have HB4 := Lib.hid (HB3.out.trans (hb.mono HB3.out.size))
  have hr4 := (hb.block w.heap.size (by omega)).trans hrd
  refine hK.out _ _ (range_step hb hHeld) ?_
  replace hHeld := range_step hb hHeld
  have hs4 := hb.size
  clear hK K hb hF hrd
  (try simp only [Act.put, List.getElem_toArray, List.getElem_cons_succ, List.getElem_cons_zero, List.setIfInBounds_toArray, List.set_cons_zero, List.set_cons_succ])
  refine wpChain_step (i := 8) rfl (by kernel_rfl) (fun K hK => ?_)
  go_simp
  refine (spec_l09Tabs W4 W h1 h2).mono ?_
  rintro e W5 ⟨_, rfl, ⟨tl, hF, ht⟩, hb⟩
  obtain ⟨a5, n5, c5, rfl⟩ := hF.repS.shape
  have HF5 := Lib.hid hF
  have HT := Lib.hid ht
  have HB5 := Lib.hid (HB4.out.trans (hb.mono HB4.out.size))
  have HM5 := Lib.hid (fresh_grow HM4.out hb)
  have HC5 := Lib.hid (fresh_grow HF4.out hb)
  have hr5 := (hb.block w.heap.size (by omega)).trans hr4
  refine hK.out _ _ (range_step hb hHeld) ?_
  replace hHeld := range_step hb hHeld
  have hs5 := hb.size
  clear hK K hb hF hr4 ht
  (try simp only [Act.put, List.getElem_toArray, List.getElem_cons_succ, List.getElem_cons_zero, List.setIfInBounds_toArray, List.set_cons_zero, List.set_cons_succ])
  (refine wpChain_take (i := 10) (v := ?_) rfl rfl rfl (by kernel_rfl) (by kernel_rfl) (by kernel_rfl) (by kernel_rfl) (fun _ _ _ h => h) (.inl ⟨by rfl, ?_⟩) hHeld ?_; rotate_left; (focus (intro wq hwq; go_simp; (try with_reducible rfl))); (try simp only [Act.put, List.getElem_toArray, List.getElem_cons_succ, List.getElem_cons_zero, List.setIfInBounds_toArray, List.set_cons_zero, List.set_cons_succ]))
  refine wpChain_step (i := 11) rfl (by kernel_rfl) (fun K hK => ?_)
  refine step_store rfl 31 _ _ rfl w.heap.size 0 rfl _ rfl [.int .i64 W, .int .i64 H, .int .i64 W, .int .i64 H, .slice a1 n1 c1, .int .i64 W, .int .i64 H, .slice a4 n4 c4, .bool false, .int .i64 0, .int .i64 0, .bool false, .int .i64 0, .int .i64 0, .bool false, .bool false, .bool false, .int .i64 0, .int .i64 (H - 1), .bool false, .bool false, .int .i64 0, .int .i64 0, .int .i64 0, .int .i64 0, .bool false, .bool false, .bool false, .slice a5 n5 c5, .int .i64 L, .slice none 0 0] rfl #[.int .i64 0, .int .i64 0, .int .i64 0, .int .i64 0, .slice none 0 0, .int .i64 0, .int .i64 0, .slice none 0 0, .bool false, .int .i64 0, .int .i64 0, .bool false, .int .i64 0, .int .i64 0, .bool false, .bool false, .bool false, .int .i64 0, .int .i64 0, .bool false, .bool false, .int .i64 0, .int .i64 0, .int .i64 0, .int .i64 0, .bool false, .bool false, .bool false, .slice none 0 0, .int .i64 0, .slice none 0 0] 31 (RowAt.of hr5) (Nat.le_of_ble_eq_true rfl) (by simp [Value.oneCell']) size_implScr ?_
  intro W6 hW
  have hM6 := Moved.row hW
  have hr6 : W6.heap[w.heap.size]? = some (.cells #[.int .i64 W, .int .i64 H, .int .i64 W, .int .i64 H, .slice a1 n1 c1, .int .i64 W, .int .i64 H, .slice a4 n4 c4, .bool false, .int .i64 0, .int .i64 0, .bool false, .int .i64 0, .int .i64 0, .bool false, .bool false, .bool false, .int .i64 0, .int .i64 (H - 1), .bool false, .bool false, .int .i64 0, .int .i64 0, .int .i64 0, .int .i64 0, .bool false, .bool false, .bool false, .slice a5 n5 c5, .int .i64 L, .slice none 0 0] 31 (0, 0)) := by rw [hW, setRow_heap _ _ _ _ _ _ hr5]; rfl
  clear hW
  refine hK.out _ _ (range_keep hHeld (hM6.other _ (by omega))) ?_
  replace hHeld := range_keep hHeld (hM6.other _ (by omega))
  clear hK K hr5
  (try simp only [Act.put, List.getElem_toArray, List.getElem_cons_succ, List.getElem_cons_zero, List.setIfInBounds_toArray, List.set_cons_zero, List.set_cons_succ])
  refine wpChain_step (i := 12) rfl (by kernel_rfl) (fun K hK => ?_)
  go_simp
  refine hK.out _ _ hHeld ?_
  clear hK K
  refine wpChain_end (by kernel_rfl) ?_
  go_wp2_with fail
  refine bodyPost_ret (results_cell_slot Try.results21 _ _ w.heap.size 31 #[.int .i64 W, .int .i64 H, .int .i64 W, .int .i64 H, .slice a1 n1 c1, .int .i64 W, .int .i64 H, .slice a4 n4 c4, .bool false, .int .i64 0, .int .i64 0, .bool false, .int .i64 0, .int .i64 0, .bool false, .bool false, .bool false, .int .i64 0, .int .i64 (H - 1), .bool false, .bool false, .int .i64 0, .int .i64 0, .int .i64 0, .int .i64 0, .bool false, .bool false, .bool false, .slice a5 n5 c5, .int .i64 L, .slice none 0 0] (0, 0) _ (.bool true) rfl rfl hr6 Try.underlying31 rfl size_implScr) rfl ⟨_, rfl, ⟨[.int .i64 W, .int .i64 H, .int .i64 W, .int .i64 H, .slice a1 n1 c1, .int .i64 W, .int .i64 H, .slice a4 n4 c4, .bool false, .int .i64 0, .int .i64 0, .bool false, .int .i64 0, .int .i64 0, .bool false, .bool false, .bool false, .int .i64 0, .int .i64 (H - 1), .bool false, .bool false, .int .i64 0, .int .i64 0, .int .i64 0, .int .i64 0, .bool false, .bool false, .bool false, .slice a5 n5 c5, .int .i64 L, .slice none 0 0], rfl, newScr W H L n tl, fun Wk hWk => ?_, newScr_ok h1 h2 h3 h4 H5.out (by omega) hL hL2 HT.out⟩, hM6.below HB5.out (Nat.le_refl _)⟩
  have q1 := fresh_at (fresh_moved HM5.out hM6 (by omega)) fun k h1 h2 => hWk k h1 (.inr (by omega))
  have q2 := fresh_at (fresh_moved HC5.out hM6 (by omega)) fun k h1 h2 => hWk k h1 (.inr (by omega))
  have q3 := freshS_at (freshS_moved HF5.out hM6 (by omega)) fun k h1 h2 => hWk k h1 (.inr (by omega))
  obtain ⟨v0, e0, i1, i2, r0⟩ := DGrid.rep_iff.1 q1
  obtain ⟨v1, e1, _, _, r1⟩ := DGrid.rep_iff.1 q2
  cases e0
  cases e1
  have z0 : I64 0 := ⟨by decide, by decide⟩
  unfold newScr
  refine DScr.rep_iff.2 ⟨_, _, _, _, rfl, i1, i2, i1, i2, r0, i1, i2, r1, z0, z0, z0, z0, z0, ?_, z0, z0, z0, z0, q3, ?_, (nil_freshA 0 _).repS⟩
  · unfold I64; dsimp only; omega
  · unfold I64; dsimp only; omega
end Go.Proofs.Ytaobgfneeijpmaa
