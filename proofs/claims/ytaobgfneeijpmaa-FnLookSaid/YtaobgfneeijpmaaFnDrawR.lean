/- The walks of what rolls and moves on a screen: Roll, Down. -/
import Derived.Test.YtaobgfneeijpmaaFnDrawD
import Derived.Test.YtaobgfneeijpmaaFnDrawF
set_option linter.unusedSimpArgs false
set_option linter.unusedVariables false
namespace Go.Mux
open Go.RowKit
theorem drawn_ok {x : DScr} (h : drawn x) : scrOkB x = true := by unfold drawn at h; exact h.1
theorem drawn_alt {x : DScr} (h : drawn x) : x.OnAlt = false := by unfold drawn at h; exact h.2.1
theorem drawn_top {x : DScr} (h : drawn x) : x.Top = 0 := by unfold drawn at h; exact h.2.2.1
theorem drawn_tabs {x : DScr} (h : drawn x) : x.Tabs.length ≤ 1 := by unfold drawn at h; exact h.2.2.2
theorem kept_drawn {x y : DScr} (h : KeptBack x y) (hx : drawn x) : drawn y ∧ y.Wrap = x.Wrap := by
  have ho := kept_ok h (drawn_ok hx)
  obtain ⟨l, rfl, _, _⟩ := h
  refine ⟨?_, rfl⟩
  unfold drawn at hx ⊢
  exact ⟨ho, hx.2⟩
theorem put_drawn {x : DScr} {g : DGrid} (hx : drawn x) (hg : SameSize x.Main g) : drawn { x with Main := g } := by
  have q := scrOkB_true (drawn_ok hx)
  unfold drawn at hx ⊢
  refine ⟨scr_ok hg.2.2 q.2.2.2.2.2.1 ?_ q.2.2.1 q.2.2.2.1 ?_ q.2.2.2.2.2.2.2.2.2.2.2.2.2.2.2.2.2.2.2.2.2.1 q.2.2.2.2.2.2.2.1, hx.2⟩
  · have := q.2.2.2.2.2.2.1
    unfold scrSize at this ⊢
    rw [hg.1, hg.2.1]
    exact this
  · obtain ⟨_, _, _, _, _, _, _, _, p1, p2, p3, p4, p5, p6, p7, p8, p9, p10, p11, p12, p13, _, p15, p16, p17⟩ := q
    exact ⟨p1, p2, p3, p4, p5, p6, p7, p8, p9, p10, p11, p12, p13, p15, p16, p17⟩
/-- The cursor moves. -/
theorem move_drawn {x : DScr} {X Y : Int} {b : Bool} (hx : drawn x) (h1 : 0 ≤ X) (h2 : X < x.W) (h3 : 0 ≤ Y) (h4 : Y < x.H) (h5 : b = true → X = x.W - 1) : drawn { x with X := X, Y := Y, Wrap := b } := by
  have q := scrOkB_true (drawn_ok hx)
  unfold drawn at hx ⊢
  refine ⟨scr_ok q.2.2.2.2.1 q.2.2.2.2.2.1 ?_ q.2.2.1 q.2.2.2.1 ?_ q.2.2.2.2.2.2.2.2.2.2.2.2.2.2.2.2.2.2.2.2.2.1 q.2.2.2.2.2.2.2.1, hx.2⟩
  · have := q.2.2.2.2.2.2.1
    unfold scrSize at this ⊢
    exact this
  · obtain ⟨_, _, _, _, _, _, _, _, p1, p2, p3, p4, p5, p6, p7, p8, p9, p10, p11, p12, p13, _, p15, p16, p17⟩ := q
    exact ⟨h1, h2, h3, h4, p5, p6, p7, p8, h5, p10, p11, p12, p13, p15, p16, p17⟩
theorem scr_shape {w : World} {cs : List Value} {x : DScr} (h : Rep.rep w cs x) : ∃ v0 v1 v2 v3, cs = scrRow x v0 v1 v2 v3 ∧ v0.oneCell' = true ∧ v1.oneCell' = true ∧ v2.oneCell' = true ∧ v3.oneCell' = true ∧ RepS w v0 x.Main.Cells ∧ RepS w v1 x.Alt.Cells ∧ RepS w v2 x.Tabs ∧ RepS w v3 x.Back := by
  obtain ⟨v0, v1, v2, v3, rfl, h0, h1, h2, h3⟩ := scr_open h
  refine ⟨v0, v1, v2, v3, rfl, ?_, ?_, ?_, ?_, h0, h1, h2, h3⟩
  · obtain ⟨_, _, _, rfl⟩ := h0.shape; rfl
  · obtain ⟨_, _, _, rfl⟩ := h1.shape; rfl
  · obtain ⟨_, _, _, rfl⟩ := h2.shape; rfl
  · obtain ⟨_, _, _, rfl⟩ := h3.shape; rfl
end Go.Mux
namespace Go.Proofs.Ytaobgfneeijpmaa
open Go.RowKit Go.Mux
set_option maxRecDepth 100000 in
set_option maxHeartbeats 1000000 in
theorem spec_l09Roll (w : World) (lo B M : Nat) (cs : List Value) (x : DScr) (h : CopyS lo B M w cs x) (hd : drawn x) (hlo : lo ≤ B) (hBM : B ≤ M) (hMw : M ≤ w.heap.size) :
    Calls Try.prog 92 #[.agg cs.toArray, .int .i64 1] w (fun e w' => ∃ cs' y, e = .returned (.agg cs'.toArray) ∧ RepAway lo M w.heap.size w' cs' y ∧ drawn y ∧ y.Wrap = x.Wrap ∧ Below B w w' ∧ ∀ k, M ≤ k → k < w.heap.size → w'.heap[k]? = w.heap[k]?) := by
  have hB : B ≤ w.heap.size := Nat.le_trans hBM hMw
  have HD := Lib.hid hd
  have HC := Lib.hid h
  have q := scrOkB_true (drawn_ok hd)
  have hbot : 0 ≤ x.Bot ∧ x.Bot ≤ 120 := by
    have := gridOkB_size q.2.2.2.2.1
    have := scrSize_true q.2.2.2.2.2.2.1
    omega
  have HT := Lib.hid (drawn_top hd)
  have HA := Lib.hid (drawn_alt hd)
  have e1 : IntKind.i64.wrap x.Bot = x.Bot := by rw [IntKind.wrap_i64]; omega
  have d1 : decide (0 ≤ x.Bot) = true := decide_eq_true hbot.1
  clear h hd q
  go_enter Try.func92, Try.ntmps92
  go_upto_region 1 with (fail)
  generalize hwb : World.alloc (World.alloc w _) _ = W0
  obtain ⟨hb0, hr0, hr1, hz0⟩ := boxes2 hwb
  clear hwb
  have HB0 := Lib.hid hb0
  have HR0 := Lib.hid hr0
  have HR1 := Lib.hid (show W0.heap[w.heap.size + 1]? = some (.cells zeroScr.toArray 31 (0, 0)) from hr1)
  clear hb0 hr0 hr1 hz0
  go_wp2_with fail
  go_loopw [5] (fun i wr => Hid (Below B w wr ∧ (∀ k, M ≤ k → k < w.heap.size → wr.heap[k]? = w.heap[k]?) ∧ wr.heap[w.heap.size + 1]? = some (.cells zeroScr.toArray 31 (0, 0))) ∧ ∃ cs' z, Hid (wr.heap[w.heap.size]? = some (.cells cs'.toArray 31 (0, 0))) ∧ ((i = .int .i64 0 ∧ z = x ∧ Hid (CopyS lo B M wr cs' z)) ∨ (i = .int .i64 1 ∧ Hid (KeptBack x z ∧ RepAway lo M (w.heap.size + 2) wr cs' z)))) (fun i _ => 2 - (intOf i).toNat)
  case atStart => exact ⟨⟨HB0.out.mono hB, fun k h1 h2 => HB0.out.block k h2, HR1.out⟩, cs, x, HR0.out, .inl ⟨rfl, rfl, HC.out.keep hBM (HB0.out.mono hMw)⟩⟩
  case round =>
    obtain ⟨HF, cs', z, HR, hor⟩ := hrel
    have hzr : w.heap.size + 1 < wr.heap.size := (Array.getElem?_eq_some_iff.1 HF.out.2.2).1
    rcases hor with ⟨rfl, rfl, HCC⟩ | ⟨rfl, HKR⟩
    · obtain ⟨v0, v1, v2, v3, rfl, -⟩ := HCC.out
      have hr := HR.out
      have k18 : wr.cell? ⟨w.heap.size, 18, none⟩ = some (.int .i64 z.Bot) := cell_at hr rfl
      have k17 : wr.cell? ⟨w.heap.size, 17, none⟩ = some (.int .i64 0) := cell_at hr (by rw [← HT.out]; rfl)
      have k8 : wr.cell? ⟨w.heap.size, 8, none⟩ = some (.bool false) := cell_at hr (by rw [← HA.out]; rfl)
      go_wp2_with (first
        | ((with_reducible (show wpList _ _ _ (Oper.mk _ (Op.load 31 _) _ _ _ _ :: _) _ _)); refine wpList_load_row rfl 31 _ rfl w.heap.size rfl 31 (scrRow z v0 v1 v2 v3).toArray (0, 0) _ hr Try.underlying31 rfl size_implScr ?_)
        | (go_at_call 98; refine (spec_l09Keep _ lo B M _ z HCC.out (drawn_ok HD.out) hlo hBM (by omega)).mono ?_; rintro e W1 ⟨cs1, y, rfl, hrep, hkb, hbel, hsame⟩; obtain ⟨u0, u1, u2, u3, rfl, o0, o1, o2, o3, -⟩ := scr_shape hrep.rep; have HREP := Lib.hid hrep; have HKB := Lib.hid hkb; have HBL := Lib.hid hbel; have HSM := Lib.hid hsame; have hs0 := (hsame w.heap.size hMw (by omega)).trans hr; have hs1 := (hsame (w.heap.size + 1) (by omega) hzr).trans HF.out.2.2; clear hrep hkb hbel hsame hr k18 k17 k8)
        | ((with_reducible (show wpList _ _ _ (Oper.mk _ (Op.store 31 _ _) _ _ _ _ :: _) _ _)); refine wpList_store_at rfl 31 _ _ rfl w.heap.size 0 rfl _ rfl (scrRow y u0 u1 u2 u3) rfl (scrRow z v0 v1 v2 v3).toArray 31 hs0 (Nat.le_of_ble_eq_true rfl) (scrRow_one y o0 o1 o2 o3) size_implScr ?_; intro W2 hW; have hM2 := Moved.row hW; have hr2 := (row_turn hs0 hW (cur' := scrRow y u0 u1 u2 u3) rfl); clear hW))
      go_roundw
      case rel => exact ⟨⟨hM2.below (HF.out.1.trans HBL.out) hB, fun k h1 h2 => (hM2.other k (by omega)).trans ((HSM.out k h1 (by omega)).trans (HF.out.2.1 k h1 h2)), (hM2.other _ (by omega)).trans hs1⟩, _, y, hr2, .inr ⟨rfl, HKB.out, (HREP.out.moved hM2 (.inr hMw) (by omega)).less (by omega)⟩⟩
      case measure => simp [intOf]
    · obtain ⟨v0, v1, v2, v3, rfl, o0, o1, o2, o3, q0, q1, q2, q3⟩ := scr_shape HKR.out.2.rep
      have hr := HR.out
      have hs := HF.out.2.2
      obtain ⟨hzd, hzw⟩ := kept_drawn HKR.out.1 HD.out
      have qz := scrOkB_true (drawn_ok hzd)
      have hza := drawn_alt hzd
      have HZA := Lib.hid hza
      have HZD := Lib.hid hzd
      have HZW := Lib.hid hzw
      have HQZ := Lib.hid qz
      have HZT := Lib.hid (drawn_top hzd)
      clear hza hzd hzw qz q0 q1 q2 q3
      go_wp2_with fail
      refine wp_region_chain 10 (fun w' => w'.rangeAt w.heap.size 0 (scrRow z v0 v1 v2 v3)) (by kernel_rfl) (range_row (w := wr.drew) (cs := (scrRow z v0 v1 v2 v3)) hr) (fun hHeld => ?_)
      have hbd := bel_drew wr
      have hrd : wr.drew.heap[w.heap.size + 1]? = _ := hs
      obtain ⟨v5, hWd⟩ : ∃ W, W = wr.drew := ⟨_, rfl⟩
      rw [← hWd] at hHeld hbd hrd ⊢
      clear hWd
      have HAW := Lib.hid (HKR.out.2.call hbd)
      have HB5 := Lib.hid (HF.out.1.trans (hbd.mono (show B ≤ wr.heap.size by omega)))
      have HS5 := Lib.hid (show ∀ k, M ≤ k → k < w.heap.size → v5.heap[k]? = w.heap[k]? from fun k h1 h2 => (hbd.block k (by omega)).trans (HF.out.2.1 k h1 h2))
      have hz5 : w.heap.size + 2 ≤ v5.heap.size := by have := hbd.size; omega
      clear hbd hr hs
      (refine wpChain_take (i := 0) rfl rfl rfl (by kernel_rfl) (by kernel_rfl) (by kernel_rfl) (by kernel_rfl) (fun _ _ _ h => h) (yieldsL_struct (by rfl) 31 _ rfl w.heap.size 0 rfl (scrRow z v0 v1 v2 v3) _ (fun _ h => h) Try.underlying31 rfl size_implScr) hHeld ?_; (try simp only [Act.put, List.getElem_toArray, List.getElem_cons_succ, List.getElem_cons_zero, List.setIfInBounds_toArray, List.set_cons_zero, List.set_cons_succ]))
      (refine wpChain_take (i := 1) rfl rfl rfl (by kernel_rfl) (by kernel_rfl) (by kernel_rfl) (by kernel_rfl) (fun _ _ _ h => h) (yieldsL_struct (by rfl) 31 _ rfl w.heap.size 0 rfl (scrRow z v0 v1 v2 v3) _ (fun _ h => h) Try.underlying31 rfl size_implScr) hHeld ?_; (try simp only [Act.put, List.getElem_toArray, List.getElem_cons_succ, List.getElem_cons_zero, List.setIfInBounds_toArray, List.set_cons_zero, List.set_cons_succ]))
      (refine wpChain_take (i := 3) (v := ?_) rfl rfl rfl (by kernel_rfl) (by kernel_rfl) (by kernel_rfl) (by kernel_rfl) (fun _ _ _ h => h) (.inl ⟨by rfl, ?_⟩) hHeld ?_; rotate_left; (focus (intro wq hwq; go_simp; (try with_reducible rfl))); (try simp only [Act.put, List.getElem_toArray, List.getElem_cons_succ, List.getElem_cons_zero, List.setIfInBounds_toArray, List.set_cons_zero, List.set_cons_succ]))
      (refine wpChain_take (i := 4) rfl rfl rfl (by kernel_rfl) (by kernel_rfl) (by kernel_rfl) (by kernel_rfl) (fun _ _ _ h => h) (yieldsL_field (by rfl) _ _ rfl _ _ rfl (scrRow z v0 v1 v2 v3) _ (fun _ h => h) (rfl) (fun wq hcq => by go_simp)) hHeld ?_; (try simp only [Act.put, List.getElem_toArray, List.getElem_cons_succ, List.getElem_cons_zero, List.setIfInBounds_toArray, List.set_cons_zero, List.set_cons_succ]))
      (refine wpChain_take (i := 5) (v := ?_) rfl rfl rfl (by kernel_rfl) (by kernel_rfl) (by kernel_rfl) (by kernel_rfl) (fun _ _ _ h => h) (.inl ⟨by rfl, ?_⟩) hHeld ?_; rotate_left; (focus (intro wq hwq; go_simp; (try with_reducible rfl))); (try simp only [Act.put, List.getElem_toArray, List.getElem_cons_succ, List.getElem_cons_zero, List.setIfInBounds_toArray, List.set_cons_zero, List.set_cons_succ]))
      (refine wpChain_take (i := 6) rfl rfl rfl (by kernel_rfl) (by kernel_rfl) (by kernel_rfl) (by kernel_rfl) (fun _ _ _ h => h) (yieldsL_field (by rfl) _ _ rfl _ _ rfl (scrRow z v0 v1 v2 v3) _ (fun _ h => h) (rfl) (fun wq hcq => by go_simp)) hHeld ?_; (try simp only [Act.put, List.getElem_toArray, List.getElem_cons_succ, List.getElem_cons_zero, List.setIfInBounds_toArray, List.set_cons_zero, List.set_cons_succ]))
      (refine wpChain_take (i := 7) (v := ?_) rfl rfl rfl (by kernel_rfl) (by kernel_rfl) (by kernel_rfl) (by kernel_rfl) (fun _ _ _ h => h) (.inl ⟨by rfl, ?_⟩) hHeld ?_; rotate_left; (focus (intro wq hwq; go_simp; (try with_reducible rfl))); (try simp only [Act.put, List.getElem_toArray, List.getElem_cons_succ, List.getElem_cons_zero, List.setIfInBounds_toArray, List.set_cons_zero, List.set_cons_succ]))
      refine wpChain_step (i := 2) rfl (by kernel_rfl) (fun K hK => ?_)
      go_simp
      refine (spec_l09Shown v5 (scrRow z v0 v1 v2 v3) z HAW.out.rep).mono ?_
      rintro e v6 ⟨_, rfl, ⟨cs6, rfl, hrep6⟩, hb6⟩
      rw [show shownG z = z.Main from by unfold shownG; rw [HZA.out]; rfl] at hrep6
      obtain ⟨g0, rfl, -, -, hg0⟩ := DGrid.rep_iff.1 hrep6
      have HG0 := Lib.hid hg0
      have HB6 := Lib.hid hb6
      refine hK.out _ _ (range_step hb6 hHeld) ?_
      replace hHeld := range_step hb6 hHeld
      have hr6 := (hb6.block (w.heap.size + 1) (by omega)).trans hrd
      clear hK K hb6 hrep6 hg0 hrd
      (try simp only [Act.put, List.getElem_toArray, List.getElem_cons_succ, List.getElem_cons_zero, List.setIfInBounds_toArray, List.set_cons_zero, List.set_cons_succ])
      refine wpChain_step (i := 8) rfl (by kernel_rfl) (fun K hK => ?_)
      go_simp
      refine (spec_GridRoll v6 z.Main g0 z.Top z.Bot HG0.out HQZ.out.2.2.2.2.1 (by rw [HZT.out]; exact Int.le_refl _) HQZ.out.2.2.2.2.2.2.2.2.2.2.2.2.2.2.2.2.2.2.1 (by have := HQZ.out.2.2.2.2.2.2.2.2.2.2.2.2.2.2.2.2.2.2.2.1; have := scrSize_true HQZ.out.2.2.2.2.2.2.1; omega)).mono ?_
      rintro e v7 ⟨_, rfl, ⟨g', u', rfl, hF, hsame⟩, hb7⟩
      obtain ⟨ga, gn, gc, rfl⟩ := hF.repS.shape
      have hz7 := hb7.size
      have hz6 := HB6.out.size
      have HF7 := Lib.hid hF
      have HSM := Lib.hid hsame
      have HB7 := Lib.hid hb7
      refine hK.out _ _ (range_step hb7 hHeld) ?_
      replace hHeld := range_step hb7 hHeld
      have hr7 := (hb7.block (w.heap.size + 1) (by omega)).trans hr6
      clear hK K hb7 hF hsame hr6
      (try simp only [Act.put, List.getElem_toArray, List.getElem_cons_succ, List.getElem_cons_zero, List.setIfInBounds_toArray, List.set_cons_zero, List.set_cons_succ])
      refine wpChain_step (i := 9) rfl (by kernel_rfl) (fun K hK => ?_)
      go_simp
      refine (spec_l09Put v7 z g' v0 v1 v2 v3 (.slice ga gn gc) HZA.out o0 o1 o2 o3 rfl).mono ?_
      rintro e v8 ⟨_, rfl, rfl, hb8⟩
      have hz8 := hb8.size
      have hyd := put_drawn HZD.out HSM.out
      have HA8 := Lib.hid (RepAway.put (g := g') (u := .slice ga gn gc) (((HAW.out.call HB6.out).call HB7.out).call hb8) ((freshS_low HF7.out (by omega)).grow hb8) (drawn_ok hyd))
      have HB8 := Lib.hid (HB5.out.trans ((HB6.out.mono (by omega)).trans ((HB7.out.mono (by omega)).trans (hb8.mono (by omega)))))
      have HS8 := Lib.hid (show ∀ k, M ≤ k → k < w.heap.size → v8.heap[k]? = w.heap[k]? from fun k h1 h2 => (hb8.block k (by omega)).trans ((HB7.out.block k (by omega)).trans ((HB6.out.block k (by omega)).trans (HS5.out k h1 h2))))
      have HYD := Lib.hid hyd
      refine hK.out _ _ (range_step hb8 hHeld) ?_
      have hr8 := (hb8.block (w.heap.size + 1) (by omega)).trans hr7
      clear hK K hb8 hr7 hHeld hyd
      (try simp only [Act.put, List.getElem_toArray, List.getElem_cons_succ, List.getElem_cons_zero, List.setIfInBounds_toArray, List.set_cons_zero, List.set_cons_succ])
      refine wpChain_store rfl rfl (by kernel_rfl) (by kernel_rfl) rfl 31 _ _ rfl (w.heap.size + 1) 0 rfl _ rfl (scrRow { z with Main := g' } (.slice ga gn gc) v1 v2 v3) rfl zeroScr.toArray 31 (RowAt.of hr8) (Nat.le_of_ble_eq_true rfl) (scrRow_one _ rfl o1 o2 o3) size_implScr ?_
      intro v9 hW
      have hM9 := Moved.row hW
      have hr9 := row_turn hr8 hW (cur' := (scrRow { z with Main := g' } (.slice ga gn gc) v1 v2 v3)) rfl
      clear hW hr8
      (try simp only [Act.put, List.getElem_toArray, List.getElem_cons_succ, List.getElem_cons_zero, List.setIfInBounds_toArray, List.set_cons_zero, List.set_cons_succ])
      go_wp2_with fail
      exact bodyPost_ret (results_cell_row Try.results92 _ _ (w.heap.size + 1) 31 (scrRow { z with Main := g' } (.slice ga gn gc) v1 v2 v3).toArray (0, 0) _ rfl hr9 Try.underlying31 rfl size_implScr) rfl ⟨(scrRow { z with Main := g' } (.slice ga gn gc) v1 v2 v3), _, rfl, (HA8.out.moved hM9 (.inr (by omega)) (by omega)).less (by omega), HYD.out, HZW.out, hM9.below HB8.out (by omega), fun k h1 h2 => (hM9.other k (by omega)).trans (HS8.out k h1 h2)⟩
set_option maxRecDepth 100000 in
set_option maxHeartbeats 1000000 in
theorem spec_l09Down (w : World) (lo B M : Nat) (cs : List Value) (x : DScr) (h : CopyS lo B M w cs x) (hd : drawn x) (hlo : lo ≤ B) (hBM : B ≤ M) (hMw : M ≤ w.heap.size) :
    Calls Try.prog 79 #[.agg cs.toArray] w (fun e w' => ∃ cs' y, e = .returned (.agg cs'.toArray) ∧ RepAway lo M w.heap.size w' cs' y ∧ drawn y ∧ y.Wrap = false ∧ Below B w w' ∧ ∀ k, M ≤ k → k < w.heap.size → w'.heap[k]? = w.heap[k]?) := by
  have hB : B ≤ w.heap.size := Nat.le_trans hBM hMw
  have HD := Lib.hid hd
  have HC := Lib.hid h
  obtain ⟨v0, v1, v2, v3, rfl, o0, o1, o2, o3, -⟩ := scr_shape (h.rep (drawn_ok hd))
  have q := scrOkB_true (drawn_ok hd)
  have HQ := Lib.hid q
  have hh : 1 ≤ x.H ∧ x.H ≤ 120 := by
    have := gridOkB_size q.2.2.2.2.1
    have := scrSize_true q.2.2.2.2.2.2.1
    omega
  have hxy : 0 ≤ x.X ∧ x.X < x.W ∧ 0 ≤ x.Y ∧ x.Y < x.H := ⟨q.2.2.2.2.2.2.2.2.1, q.2.2.2.2.2.2.2.2.2.1, q.2.2.2.2.2.2.2.2.2.2.1, q.2.2.2.2.2.2.2.2.2.2.2.1⟩
  have HXY := Lib.hid hxy
  have e1 : IntKind.i64.wrap (x.H - 1) = x.H - 1 := by rw [IntKind.wrap_i64]; omega
  have e2 : IntKind.i64.wrap (x.Y + 1) = x.Y + 1 := by rw [IntKind.wrap_i64]; omega
  have hd1 : drawn { x with X := x.X, Y := x.Y, Wrap := false } := move_drawn hd hxy.1 hxy.2.1 hxy.2.2.1 hxy.2.2.2 (fun e => by cases e)
  have HD1 := Lib.hid hd1
  clear h hd q hxy hd1
  go_enter Try.func79, Try.ntmps79
  go_upto_region 1 with (fail)
  generalize hwb : World.alloc (World.alloc w _) _ = W0
  obtain ⟨hb0, hr0, hr1, hz0⟩ := boxes2 hwb
  clear hwb
  have HB0 := Lib.hid hb0
  have hr1 : W0.heap[w.heap.size + 1]? = some (.cells zeroScr.toArray 31 (0, 0)) := hr1
  have hz0 : w.heap.size + 1 < W0.heap.size := by omega
  clear hb0
  go_upto_region 2 with ((with_reducible (show wpList _ _ _ (Oper.mk _ (Op.store 4 _ _) _ _ _ _ :: _) _ _)); refine wpList_store_at rfl 4 _ _ rfl w.heap.size 11 rfl _ rfl [.bool false] rfl (scrRow x v0 v1 v2 v3).toArray 31 hr0 (Nat.le_of_ble_eq_true rfl) (by simp [Value.oneCell']) (show (Try.prog.info? 4).map (·.size) = some 1 by kernel_rfl) ?_; intro W2 hW; have hM2 := Moved.row hW; have hr2 := (row_turn hr0 hW (cur' := (scrRow { x with X := x.X, Y := x.Y, Wrap := false } v0 v1 v2 v3)) rfl); clear hW hr0)
  have hs2 := (hM2.other (w.heap.size + 1) (by omega)).trans hr1
  have HB2 := Lib.hid ((HB0.out.mono hMw).trans ⟨hM2.os, hM2.tape, hM2.output, Nat.le_of_eq hM2.size.symm, fun k hk => hM2.other k (by omega)⟩)
  have HK2 := Lib.hid (show ∀ k, M ≤ k → k < w.heap.size → W2.heap[k]? = w.heap[k]? from fun k h1 h2 => (hM2.other k (by omega)).trans (HB0.out.block k h2))
  have hz2 : w.heap.size + 1 < W2.heap.size := by have := hM2.size; omega
  have HC2 := Lib.hid (show CopyS lo B M W2 (scrRow { x with X := x.X, Y := x.Y, Wrap := false } v0 v1 v2 v3) { x with X := x.X, Y := x.Y, Wrap := false } from by
    obtain ⟨u0, u1, u2, u3, e, h0, h1, h2, h3⟩ := HC.out.keep hBM HB2.out
    obtain ⟨rfl, rfl, rfl, rfl⟩ := scrRow_inj e
    exact ⟨_, _, _, _, rfl, h0, h1, h2, h3⟩)
  have k10 : W2.cell? ⟨w.heap.size, 10, none⟩ = some (.int .i64 x.Y) := cell_at hr2 rfl
  have k18 : W2.cell? ⟨w.heap.size, 18, none⟩ = some (.int .i64 x.Bot) := cell_at hr2 rfl
  have k1 : W2.cell? ⟨w.heap.size, 1, none⟩ = some (.int .i64 x.H) := cell_at hr2 rfl
  clear hM2 hr1
  (try simp only [Act.put, List.getElem_toArray, List.getElem_cons_succ, List.getElem_cons_zero, List.setIfInBounds_toArray, List.set_cons_zero, List.set_cons_succ])
  by_cases hyb : x.Y = x.Bot
  · have d1 : decide (x.Y = x.Bot) = true := decide_eq_true hyb
    have d1b : (x.Y == x.Bot) = true := by simp [hyb]
    have HYB := Lib.hid hyb
    clear hyb
    go_wp2_with (first
      | ((with_reducible (show wpList _ _ _ (Oper.mk _ (Op.load 31 _) _ _ _ _ :: _) _ _)); refine wpList_load_row rfl 31 _ rfl w.heap.size rfl 31 (scrRow { x with X := x.X, Y := x.Y, Wrap := false } v0 v1 v2 v3).toArray (0, 0) _ hr2 Try.underlying31 rfl size_implScr ?_)
      | (go_at_call 92; refine (spec_l09Roll _ lo B M _ { x with X := x.X, Y := x.Y, Wrap := false } HC2.out HD1.out hlo hBM (by omega)).mono ?_; rintro e W3 ⟨cs3, y, rfl, haw, hyd, hyw, hbel, hsame⟩; obtain ⟨u0, u1, u2, u3, rfl, p0, p1, p2, p3, -⟩ := scr_shape haw.rep; have HAW := Lib.hid haw; have HYD := Lib.hid hyd; have HYW := Lib.hid hyw; have HBL := Lib.hid hbel; have HSM := Lib.hid hsame; have hs3 := (hsame (w.heap.size + 1) (by omega) hz2).trans hs2; clear haw hyd hyw hbel hsame k10 k18 k1)
      | ((with_reducible (show wpList _ _ _ (Oper.mk _ (Op.store 31 _ _) _ _ _ _ :: _) _ _)); refine wpList_store_at rfl 31 _ _ rfl (w.heap.size + 1) 0 rfl _ rfl (scrRow y u0 u1 u2 u3) rfl zeroScr.toArray 31 hs3 (Nat.le_of_ble_eq_true rfl) (scrRow_one y p0 p1 p2 p3) size_implScr ?_; intro W4 hW; have hM4 := Moved.row hW; have hr4 := (row_turn hs3 hW (cur' := scrRow y u0 u1 u2 u3) rfl); clear hW))
    exact bodyPost_ret (results_cell_row Try.results79 _ _ (w.heap.size + 1) 31 (scrRow y u0 u1 u2 u3).toArray (0, 0) _ rfl hr4 Try.underlying31 rfl size_implScr) rfl ⟨scrRow y u0 u1 u2 u3, _, rfl, (HAW.out.moved hM4 (.inr (by omega)) (by omega)).less (by omega), HYD.out, HYW.out, hM4.below ((HB2.out.mono hBM).trans HBL.out) (by omega), fun k h1 h2 => (hM4.other k (by omega)).trans ((HSM.out k h1 (by omega)).trans (HK2.out k h1 h2))⟩
  · have d1 : decide (x.Y = x.Bot) = false := decide_eq_false hyb
    have d1b : (x.Y == x.Bot) = false := by simp [hyb]
    have hxy := HXY.out
    by_cases hlt : x.Y < x.H - 1
    · have d2 : decide (x.Y < x.H - 1) = true := decide_eq_true hlt
      have hyd := move_drawn (b := false) HD.out HXY.out.1 HXY.out.2.1 (show 0 ≤ x.Y + 1 by omega) (show x.Y + 1 < x.H by omega) (fun e => by cases e)
      have HYD := Lib.hid hyd
      clear hyd
      go_wp2_with (first
          | ((with_reducible (show wpList _ _ _ (Oper.mk _ (Op.store 3 _ _) _ _ _ _ :: _) _ _)); refine wpList_store_at rfl 3 _ _ rfl w.heap.size 10 rfl _ rfl [.int .i64 (x.Y + 1)] rfl (scrRow { x with X := x.X, Y := x.Y, Wrap := false } v0 v1 v2 v3).toArray 31 hr2 (Nat.le_of_ble_eq_true rfl) (by simp [Value.oneCell']) (show (Try.prog.info? 3).map (·.size) = some 1 by kernel_rfl) ?_; intro W3 hW; have hM3 := Moved.row hW; have hr3 := (row_turn hr2 hW (cur' := (scrRow { x with X := x.X, Y := x.Y + 1, Wrap := false } v0 v1 v2 v3)) rfl); have hs3 := (hM3.other (w.heap.size + 1) (by omega)).trans hs2; clear hW hr2 hs2 k10 k18 k1)
          | ((with_reducible (show wpList _ _ _ (Oper.mk _ (Op.load 31 _) _ _ _ _ :: _) _ _)); refine wpList_load_row rfl 31 _ rfl w.heap.size rfl 31 (scrRow { x with X := x.X, Y := x.Y + 1, Wrap := false } v0 v1 v2 v3).toArray (0, 0) _ hr3 Try.underlying31 rfl size_implScr ?_)
          | ((with_reducible (show wpList _ _ _ (Oper.mk _ (Op.store 31 _ _) _ _ _ _ :: _) _ _)); refine wpList_store_at rfl 31 _ _ rfl (w.heap.size + 1) 0 rfl _ rfl (scrRow { x with X := x.X, Y := x.Y + 1, Wrap := false } v0 v1 v2 v3) rfl zeroScr.toArray 31 hs3 (Nat.le_of_ble_eq_true rfl) (scrRow_one _ o0 o1 o2 o3) size_implScr ?_; intro W4 hW; have hM4 := Moved.row hW; have hr4 := (row_turn hs3 hW (cur' := (scrRow { x with X := x.X, Y := x.Y + 1, Wrap := false } v0 v1 v2 v3)) rfl); clear hW))
      have HB3 := hM3.below HB2.out hMw
      have HB4 := hM4.below HB3 (by omega)
      have hc4 := HC2.out.keep hBM (hM4.below (hM3.below (Below.refl M W2) hMw) (by omega))
      exact bodyPost_ret (results_cell_row Try.results79 _ _ (w.heap.size + 1) 31 (scrRow { x with X := x.X, Y := x.Y + 1, Wrap := false } v0 v1 v2 v3).toArray (0, 0) _ rfl hr4 Try.underlying31 rfl size_implScr) rfl ⟨(scrRow { x with X := x.X, Y := x.Y + 1, Wrap := false } v0 v1 v2 v3), _, rfl, (hc4.away (drawn_ok HD1.out) hlo hBM).same (drawn_ok HYD.out) rfl rfl rfl rfl, HYD.out, rfl, HB4.mono hBM, fun k h1 h2 => (hM4.other k (by omega)).trans ((hM3.other k (by omega)).trans (HK2.out k h1 h2))⟩
    · have d2 : decide (x.Y < x.H - 1) = false := decide_eq_false hlt
      go_wp2_with (first
          | ((with_reducible (show wpList _ _ _ (Oper.mk _ (Op.load 31 _) _ _ _ _ :: _) _ _)); refine wpList_load_row rfl 31 _ rfl w.heap.size rfl 31 (scrRow { x with X := x.X, Y := x.Y, Wrap := false } v0 v1 v2 v3).toArray (0, 0) _ hr2 Try.underlying31 rfl size_implScr ?_)
          | ((with_reducible (show wpList _ _ _ (Oper.mk _ (Op.store 31 _ _) _ _ _ _ :: _) _ _)); refine wpList_store_at rfl 31 _ _ rfl (w.heap.size + 1) 0 rfl _ rfl (scrRow { x with X := x.X, Y := x.Y, Wrap := false } v0 v1 v2 v3) rfl zeroScr.toArray 31 hs2 (Nat.le_of_ble_eq_true rfl) (scrRow_one _ o0 o1 o2 o3) size_implScr ?_; intro W4 hW; have hM4 := Moved.row hW; have hr4 := (row_turn hs2 hW (cur' := (scrRow { x with X := x.X, Y := x.Y, Wrap := false } v0 v1 v2 v3)) rfl); clear hW))
      have hc4 := HC2.out.keep hBM (hM4.below (Below.refl M W2) (by omega))
      exact bodyPost_ret (results_cell_row Try.results79 _ _ (w.heap.size + 1) 31 (scrRow { x with X := x.X, Y := x.Y, Wrap := false } v0 v1 v2 v3).toArray (0, 0) _ rfl hr4 Try.underlying31 rfl size_implScr) rfl ⟨(scrRow { x with X := x.X, Y := x.Y, Wrap := false } v0 v1 v2 v3), rfl, { x with X := x.X, Y := x.Y, Wrap := false }, hc4.away (drawn_ok HD1.out) hlo hBM, HD1.out, rfl, (hM4.below HB2.out (by omega)).mono hBM, fun k h1 h2 => (hM4.other k (by omega)).trans (HK2.out k h1 h2)⟩
end Go.Proofs.Ytaobgfneeijpmaa
