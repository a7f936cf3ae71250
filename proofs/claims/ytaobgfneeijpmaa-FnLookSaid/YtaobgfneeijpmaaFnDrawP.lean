/- The walk of ScrRune: a rune is written on a drawn screen. -/
import Derived.Test.YtaobgfneeijpmaaFnDrawM
set_option linter.unusedSimpArgs false
set_option linter.unusedVariables false
namespace Go.Mux
open Go.RowKit
theorem range_off {w : World} {b : Nat} {cs : List Value} (h : w.rangeAt b 0 cs) (off : Nat) (sub : List Value) (hs : (cs.drop off).take sub.length = sub) : w.rangeAt b off sub := fun j v hv => by
  rw [← hs] at hv
  have h1 := take_get hv
  rw [List.getElem?_drop] at h1
  have := h (off + j) v h1
  rwa [Nat.zero_add] at this
end Go.Mux
namespace Go.Proofs.Ytaobgfneeijpmaa
open Go.RowKit Go.Mux
set_option maxRecDepth 100000 in
set_option maxHeartbeats 2000000 in
theorem spec_ScrRune (w : World) (cs : List Value) (x : DScr) (r : Int) (h : Rep.rep w cs x) (hd : drawn x) (hs : showsB r = true) :
    Calls Try.prog 51 #[.agg cs.toArray, .int .i64 r] w (Gives w fun r w' => ∃ cs' y, r = .agg cs'.toArray ∧ RepAway 0 0 w.heap.size w' cs' y ∧ drawn y) := by
  have HD := Lib.hid hd
  have HR := Lib.hid h
  have HSH := Lib.hid hs
  have HOK := Lib.hid (drawn_ok hd)
  have hl : (Try.prog.info? 31).map (·.size) = some cs.toArray.size := by rw [List.size_toArray, Rep.len h]; exact size_implScr
  clear h hd hs
  go_enter Try.func51, Try.ntmps51
  go_upto_region 1 with (fail)
  generalize hwb : World.alloc (World.alloc w _) _ = W0
  obtain ⟨hb0, hr0, hr1, hz0⟩ := boxes2 hwb
  clear hwb
  have HB0 := Lib.hid hb0
  have hr1 : W0.heap[w.heap.size + 1]? = some (.cells zeroScr.toArray 31 (0, 0)) := hr1
  have hz0 : w.heap.size + 1 < W0.heap.size := by omega
  clear hb0
  go_upto_region 3 with (first
    | ((with_reducible (show wpList _ _ _ (Oper.mk _ (Op.load 31 _) _ _ _ _ :: _) _ _)); refine wpList_load_row rfl 31 _ rfl w.heap.size rfl 31 cs.toArray (0, 0) _ hr0 Try.underlying31 rfl hl ?_)
    | (go_at_call 27; refine (spec_ScrOk _ cs x (Rep.mono HR.out HB0.out)).mono ?_; rintro e W1 ⟨_, rfl, rfl, hb⟩; rw [HOK.out]; have HB1 := Lib.hid (bel_next HB0.out hb); have hs0 := (hb.block w.heap.size (by omega)).trans hr0; have hs1 := (hb.block (w.heap.size + 1) (by omega)).trans hr1; have hz1 : w.heap.size + 1 < W1.heap.size := Nat.lt_of_lt_of_le hz0 hb.size; clear hb hr0 hr1))
  go_upto_region 4 with (first
    | ((with_reducible (show wpList _ _ _ (Oper.mk _ (Op.load 31 _) _ _ _ _ :: _) _ _)); refine wpList_load_row rfl 31 _ rfl w.heap.size rfl 31 cs.toArray (0, 0) _ hs0 Try.underlying31 rfl hl ?_)
    | (go_at_call 77; refine (spec_l09Copy _ cs x (Rep.mono HR.out HB1.out) HOK.out (drawn_tabs HD.out)).mono ?_; rintro e W2 ⟨_, rfl, ⟨B, M, cs2, rfl, hWB, hBM, hMW, hcopy⟩, hb⟩; obtain ⟨u0, u1, u2, u3, rfl, o0, o1, o2, o3, -⟩ := scr_shape (hcopy.rep HOK.out); have HCP := Lib.hid hcopy; have HB2 := Lib.hid (bel_next HB1.out hb); have ht1 := (hb.block (w.heap.size + 1) hz1).trans hs1; have hz2 : w.heap.size + 1 < W2.heap.size := Nat.lt_of_lt_of_le hz1 hb.size; have ONE := Lib.hid (scrRow_one x o0 o1 o2 o3); clear hb hs0 hs1 hcopy)
    | ((with_reducible (show wpList _ _ _ (Oper.mk _ (Op.store 31 _ _) _ _ _ _ :: _) _ _)); generalize hwb : World.alloc W2 _ = W3; have hb3 : Below W2.heap.size W2 W3 := (by rw [← hwb]; exact bel_alloc (Below.refl _ _) _); have hn3 : W3.heap[W2.heap.size]? = some (.cells zeroScr.toArray 31 (0, 0)) := (by rw [← hwb]; exact new_at _ _ rfl); clear hwb; refine wpList_store_at rfl 31 _ _ rfl W2.heap.size 0 rfl _ rfl (scrRow x u0 u1 u2 u3) rfl zeroScr.toArray 31 hn3 (Nat.le_of_ble_eq_true rfl) ONE.out size_implScr ?_; intro W4 hW; have hM4 := Moved.row hW; have hr4 := (row_turn hn3 hW (cur' := (scrRow x u0 u1 u2 u3)) rfl); clear hW))
  have hq1 := (hM4.other (w.heap.size + 1) (by omega)).trans ((hb3.block (w.heap.size + 1) (by omega)).trans ht1)
  have HCP4 := Lib.hid ((HCP.out.keep hBM ((hb3.mono hMW).trans (hM4.below (Below.refl M W3) hMW))))
  have HB4 := Lib.hid (hM4.below (bel_next HB2.out hb3) (by omega))
  have hT4 : W2.heap.size < W4.heap.size := (Array.getElem?_eq_some_iff.1 hr4).1
  have hlo : W1.heap.size ≤ B := hWB
  have hMT : M ≤ W2.heap.size := hMW
  clear ht1 hb3 hn3 hM4 hWB hMW
  (try simp only [Act.put, List.getElem_toArray, List.getElem_cons_succ, List.getElem_cons_zero, List.setIfInBounds_toArray, List.set_cons_zero, List.set_cons_succ])
  go_upto_region 6 with (go_at_call 78; refine (spec_Shows _ _).mono ?_; rintro e W5 ⟨rfl, rfl⟩; rw [HSH.out])
  cases hwr : x.Wrap
  · have k11 : W4.cell? ⟨W2.heap.size, 11, none⟩ = some (.bool false) := cell_at hr4 (by rw [← hwr]; rfl)
    have HZW0 := Lib.hid hwr
    obtain ⟨L, hLd⟩ : ∃ L, L = W4.heap.size := ⟨_, rfl⟩
    have hL : L ≤ W4.heap.size := Nat.le_of_eq hLd
    have hTL : W2.heap.size < L := by omega
    have HAC := Lib.hid (HCP4.out.away (L := L) HOK.out hlo hBM)
    clear hwr hLd
    go_upto_region 9 with (fail)
    clear k11
    obtain ⟨zz, hzz⟩ : ∃ zz, zz = x := ⟨_, rfl⟩
    have HZD := Lib.hid (show drawn zz from by rw [hzz]; exact HD.out)
    have HZW := Lib.hid (show zz.Wrap = false from by rw [hzz]; exact HZW0.out)
    rw [← hzz] at HAC hr4
    obtain ⟨Wc, hWc⟩ : ∃ Wc, Wc = W4 := ⟨_, rfl⟩
    rw [← hWc] at HAC hr4 hq1 HB4 hL hT4 ⊢
    have hrc := hr4
    have hsc := hq1
    have HBC := HB4
    obtain ⟨c0, hc0⟩ : ∃ c, c = u0 := ⟨_, rfl⟩
    obtain ⟨c1, hc1⟩ : ∃ c, c = u1 := ⟨_, rfl⟩
    obtain ⟨c2, hc2⟩ : ∃ c, c = u2 := ⟨_, rfl⟩
    obtain ⟨c3, hc3⟩ : ∃ c, c = u3 := ⟨_, rfl⟩
    rw [← hc0, ← hc1, ← hc2, ← hc3] at HAC hrc
    have p0 : c0.oneCell' = true := by rw [hc0]; exact o0
    have p1 : c1.oneCell' = true := by rw [hc1]; exact o1
    have p2 : c2.oneCell' = true := by rw [hc2]; exact o2
    have p3 : c3.oneCell' = true := by rw [hc3]; exact o3
    clear hr4 hq1 HB4 hzz hWc HCP4 HCP ONE hc0 hc1 hc2 hc3
    refine wp_region_chain 13 (fun w' => w'.rangeAt W2.heap.size 0 (scrRow zz c0 c1 c2 c3)) (by kernel_rfl) (range_row (w := Wc.drew) (cs := (scrRow zz c0 c1 c2 c3)) hrc) (fun hHeld => ?_)
    have hbd := bel_drew Wc
    have hrd : Wc.drew.heap[W2.heap.size]? = _ := hrc
    have hsd : Wc.drew.heap[w.heap.size + 1]? = _ := hsc
    obtain ⟨v5, hWd⟩ : ∃ W, W = Wc.drew := ⟨_, rfl⟩
    rw [← hWd] at hHeld hbd hrd hsd ⊢
    clear hWd
    have HAW := Lib.hid (HAC.out.call hbd)
    have HB5 := Lib.hid (bel_next HBC.out hbd)
    have hz5 : W2.heap.size < v5.heap.size := by have := hbd.size; omega
    have hl5 : L ≤ v5.heap.size := Nat.le_trans hL hbd.size
    clear hbd hrc hsc
    (refine wpChain_take (i := 0) rfl rfl rfl (by kernel_rfl) (by kernel_rfl) (by kernel_rfl) (by kernel_rfl) (fun _ _ _ h => h) (yieldsL_struct (by rfl) 31 _ rfl W2.heap.size 0 rfl (scrRow zz c0 c1 c2 c3) _ (fun _ h => h) Try.underlying31 rfl size_implScr) hHeld ?_; (try simp only [Act.put, List.getElem_toArray, List.getElem_cons_succ, List.getElem_cons_zero, List.setIfInBounds_toArray, List.set_cons_zero, List.set_cons_succ]))
    (refine wpChain_take (i := 1) rfl rfl rfl (by kernel_rfl) (by kernel_rfl) (by kernel_rfl) (by kernel_rfl) (fun _ _ _ h => h) (yieldsL_struct (by rfl) 31 _ rfl W2.heap.size 0 rfl (scrRow zz c0 c1 c2 c3) _ (fun _ h => h) Try.underlying31 rfl size_implScr) hHeld ?_; (try simp only [Act.put, List.getElem_toArray, List.getElem_cons_succ, List.getElem_cons_zero, List.setIfInBounds_toArray, List.set_cons_zero, List.set_cons_succ]))
    (refine wpChain_take (i := 3) (v := ?_) rfl rfl rfl (by kernel_rfl) (by kernel_rfl) (by kernel_rfl) (by kernel_rfl) (fun _ _ _ h => h) (.inl ⟨by rfl, ?_⟩) hHeld ?_; rotate_left; (focus (intro wq hwq; go_simp; (try with_reducible rfl))); (try simp only [Act.put, List.getElem_toArray, List.getElem_cons_succ, List.getElem_cons_zero, List.setIfInBounds_toArray, List.set_cons_zero, List.set_cons_succ]))
    (refine wpChain_take (i := 4) rfl rfl rfl (by kernel_rfl) (by kernel_rfl) (by kernel_rfl) (by kernel_rfl) (fun _ _ _ h => h) (yieldsL_field (by rfl) _ _ rfl _ _ rfl (scrRow zz c0 c1 c2 c3) _ (fun _ h => h) (rfl) (fun wq hcq => by go_simp)) hHeld ?_; (try simp only [Act.put, List.getElem_toArray, List.getElem_cons_succ, List.getElem_cons_zero, List.setIfInBounds_toArray, List.set_cons_zero, List.set_cons_succ]))
    (refine wpChain_take (i := 5) (v := ?_) rfl rfl rfl (by kernel_rfl) (by kernel_rfl) (by kernel_rfl) (by kernel_rfl) (fun _ _ _ h => h) (.inl ⟨by rfl, ?_⟩) hHeld ?_; rotate_left; (focus (intro wq hwq; go_simp; (try with_reducible rfl))); (try simp only [Act.put, List.getElem_toArray, List.getElem_cons_succ, List.getElem_cons_zero, List.setIfInBounds_toArray, List.set_cons_zero, List.set_cons_succ]))
    (refine wpChain_take (i := 6) rfl rfl rfl (by kernel_rfl) (by kernel_rfl) (by kernel_rfl) (by kernel_rfl) (fun _ _ _ h => h) (yieldsL_field (by rfl) _ _ rfl _ _ rfl (scrRow zz c0 c1 c2 c3) _ (fun _ h => h) (rfl) (fun wq hcq => by go_simp)) hHeld ?_; (try simp only [Act.put, List.getElem_toArray, List.getElem_cons_succ, List.getElem_cons_zero, List.setIfInBounds_toArray, List.set_cons_zero, List.set_cons_succ]))
    (refine wpChain_take (i := 7) (v := ?_) rfl rfl rfl (by kernel_rfl) (by kernel_rfl) (by kernel_rfl) (by kernel_rfl) (fun _ _ _ h => h) (.inl ⟨by rfl, ?_⟩) hHeld ?_; rotate_left; (focus (intro wq hwq; go_simp; (try with_reducible rfl))); (try simp only [Act.put, List.getElem_toArray, List.getElem_cons_succ, List.getElem_cons_zero, List.setIfInBounds_toArray, List.set_cons_zero, List.set_cons_succ]))
    (refine wpChain_take (i := 8) (v := ?_) rfl rfl rfl (by kernel_rfl) (by kernel_rfl) (by kernel_rfl) (by kernel_rfl) (fun _ _ _ h => h) (.inl ⟨by rfl, ?_⟩) hHeld ?_; rotate_left; (focus (intro wq hwq; go_simp; (try with_reducible rfl))); (try simp only [Act.put, List.getElem_toArray, List.getElem_cons_succ, List.getElem_cons_zero, List.setIfInBounds_toArray, List.set_cons_zero, List.set_cons_succ]))
    (refine wpChain_take (i := 9) rfl rfl rfl (by kernel_rfl) (by kernel_rfl) (by kernel_rfl) (by kernel_rfl) (fun _ _ _ h => h) (yieldsL_struct (by rfl) 27 _ rfl W2.heap.size 12 rfl [.int .i64 zz.A.Fg, .int .i64 zz.A.Bg, .bool zz.A.Bold, .bool zz.A.Under, .bool zz.A.Turn] _ (fun _ h => range_off h 12 _ rfl) Try.underlying27 rfl size_implAttr) hHeld ?_; (try simp only [Act.put, List.getElem_toArray, List.getElem_cons_succ, List.getElem_cons_zero, List.setIfInBounds_toArray, List.set_cons_zero, List.set_cons_succ]))
    (refine wpChain_take (i := 10) (v := ?_) rfl rfl rfl (by kernel_rfl) (by kernel_rfl) (by kernel_rfl) (by kernel_rfl) (fun _ _ _ h => h) (.inl ⟨by rfl, ?_⟩) hHeld ?_; rotate_left; (focus (intro wq hwq; go_simp; (try with_reducible rfl))); (try simp only [Act.put, List.getElem_toArray, List.getElem_cons_succ, List.getElem_cons_zero, List.setIfInBounds_toArray, List.set_cons_zero, List.set_cons_succ]))
    refine wpChain_step (i := 2) rfl (by kernel_rfl) (fun K hK => ?_)
    go_simp
    refine (spec_l09Shown v5 (scrRow zz c0 c1 c2 c3) zz HAW.out.rep).mono ?_
    rintro e v6 ⟨_, rfl, ⟨cs6, rfl, hrep6⟩, hb6⟩
    rw [show shownG zz = zz.Main from by unfold shownG; rw [drawn_alt HZD.out]; rfl] at hrep6
    obtain ⟨g0, rfl, -, -, hg0⟩ := DGrid.rep_iff.1 hrep6
    have HG0 := Lib.hid hg0
    have HB6 := Lib.hid hb6
    refine hK.out _ _ (range_step hb6 hHeld) ?_
    replace hHeld := range_step hb6 hHeld
    have hz6 := hb6.size
    have hr6 := (hb6.block W2.heap.size hz5).trans hrd
    have hs6 := (hb6.block (w.heap.size + 1) (by omega)).trans hsd
    clear hK K hb6 hrep6 hg0 hrd hsd
    (try simp only [Act.put, List.getElem_toArray, List.getElem_cons_succ, List.getElem_cons_zero, List.setIfInBounds_toArray, List.set_cons_zero, List.set_cons_succ])
    refine wpChain_step (i := 11) rfl (by kernel_rfl) (fun K hK => ?_)
    go_simp
    refine (spec_GridFill v6 zz.Main g0 zz.X zz.Y ⟨r, zz.A⟩ HG0.out (scrOkB_true (drawn_ok HZD.out)).2.2.2.2.1 (by have := (scrOkB_true (drawn_ok HZD.out)).2.2.1; unfold cellOkB; rw [HSH.out, this]; rfl) (drawn_in HZD.out).1 (by have := drawn_in HZD.out; have := drawn_size HZD.out; omega) (drawn_in HZD.out).2.2.1 (by have := drawn_in HZD.out; have := drawn_size HZD.out; omega)).mono ?_
    rintro e v7 ⟨_, rfl, ⟨g', u', rfl, hF, hsame⟩, hb7⟩
    obtain ⟨ga, gn, gc, rfl⟩ := hF.repS.shape
    have hz7 := hb7.size
    have HF7 := Lib.hid hF
    have HSM := Lib.hid hsame
    have HB7 := Lib.hid hb7
    refine hK.out _ _ (range_step hb7 hHeld) ?_
    replace hHeld := range_step hb7 hHeld
    have hr7 := (hb7.block W2.heap.size (by omega)).trans hr6
    have hs7 := (hb7.block (w.heap.size + 1) (by omega)).trans hs6
    clear hK K hb7 hF hsame hr6 hs6
    (try simp only [Act.put, List.getElem_toArray, List.getElem_cons_succ, List.getElem_cons_zero, List.setIfInBounds_toArray, List.set_cons_zero, List.set_cons_succ])
    refine wpChain_step (i := 12) rfl (by kernel_rfl) (fun K hK => ?_)
    go_simp
    refine (spec_l09Put v7 zz g' c0 c1 c2 c3 (.slice ga gn gc) (drawn_alt HZD.out) p0 p1 p2 p3 rfl).mono ?_
    rintro e v8 ⟨_, rfl, rfl, hb8⟩
    have hz8 := hb8.size
    have hyd2 := put_drawn HZD.out HSM.out
    have HA8 := Lib.hid (RepAway.put (g := g') (u := .slice ga gn gc) (((HAW.out.call HB6.out).call HB7.out).call hb8) ((freshS_low HF7.out (by omega)).grow hb8) (drawn_ok hyd2))
    have HB8 := Lib.hid (bel_next (bel_next (bel_next HB5.out HB6.out) HB7.out) hb8)
    have HYD2 := Lib.hid hyd2
    refine hK.out _ _ (range_step hb8 hHeld) ?_
    have hr8 := (hb8.block W2.heap.size (by omega)).trans hr7
    have hs8 := (hb8.block (w.heap.size + 1) (by omega)).trans hs7
    clear hK K hb8 hr7 hs7 hHeld hyd2
    (try simp only [Act.put, List.getElem_toArray, List.getElem_cons_succ, List.getElem_cons_zero, List.setIfInBounds_toArray, List.set_cons_zero, List.set_cons_succ])
    refine wpChain_store rfl rfl (by kernel_rfl) (by kernel_rfl) rfl 31 _ _ rfl W2.heap.size 0 rfl _ rfl (scrRow { zz with Main := g' } (.slice ga gn gc) c1 c2 c3) rfl (scrRow zz c0 c1 c2 c3).toArray 31 (RowAt.of hr8) (Nat.le_of_ble_eq_true rfl) (scrRow_one _ rfl p1 p2 p3) size_implScr ?_
    intro v9 hW
    have hM9 := Moved.row hW
    have hr9 := row_turn hr8 hW (cur' := (scrRow { zz with Main := g' } (.slice ga gn gc) c1 c2 c3)) rfl
    have hs9 := (hM9.other (w.heap.size + 1) (by omega)).trans hs8
    have HA9 := Lib.hid (HA8.out.moved hM9 (.inr hMT) hTL)
    have HB9 := Lib.hid (hM9.below HB8.out (by omega))
    clear hW hr8 hs8 hM9
    (try simp only [Act.put, List.getElem_toArray, List.getElem_cons_succ, List.getElem_cons_zero, List.setIfInBounds_toArray, List.set_cons_zero, List.set_cons_succ])
    have j9 : v9.cell? ⟨W2.heap.size, 9, none⟩ = some (.int .i64 zz.X) := cell_at hr9 rfl
    have j0 : v9.cell? ⟨W2.heap.size, 0, none⟩ = some (.int .i64 zz.W) := cell_at hr9 rfl
    have j19 : v9.cell? ⟨W2.heap.size, 19, none⟩ = some (.bool zz.NoWrap) := cell_at hr9 rfl
    have hin := drawn_in HZD.out
    have hsz := drawn_size HZD.out
    have f1 : IntKind.i64.wrap (zz.W - 1) = zz.W - 1 := by rw [IntKind.wrap_i64]; omega
    have f2 : IntKind.i64.wrap (zz.X + 1) = zz.X + 1 := by rw [IntKind.wrap_i64]; omega
    by_cases hlast : zz.X = zz.W - 1
    · have b1 : decide (zz.X = zz.W - 1) = true := decide_eq_true hlast
      have b2 : (zz.X == zz.W - 1) = true := by simp [hlast]
      have hyd : drawn { zz with Main := g', X := zz.X, Y := zz.Y, Wrap := !zz.NoWrap } := move_drawn HYD2.out hin.1 hin.2.1 hin.2.2.1 hin.2.2.2 (fun _ => hlast)
      have HLA := Lib.hid hlast
      clear hlast
      go_upto_region 13 with ((with_reducible (show wpList _ _ _ (Oper.mk _ (Op.store 4 _ _) _ _ _ _ :: _) _ _)); refine wpList_store_at rfl 4 _ _ rfl W2.heap.size 11 rfl _ rfl [.bool (!zz.NoWrap)] rfl (scrRow { zz with Main := g' } (.slice ga gn gc) c1 c2 c3).toArray 31 hr9 (Nat.le_of_ble_eq_true rfl) (by simp [Value.oneCell']) (show (Try.prog.info? 4).map (·.size) = some 1 by kernel_rfl) ?_; intro Wy hW; have hMWy := Moved.row hW; have hrWy := (row_turn hr9 hW (cur' := (scrRow { zz with Main := g', X := zz.X, Y := zz.Y, Wrap := !zz.NoWrap } (.slice ga gn gc) c1 c2 c3)) rfl); clear hW j9 j0 j19)
      have hsy := (hMWy.other (w.heap.size + 1) (by omega)).trans hs9
      have hay := HA9.out.moved hMWy (.inr hMT) hTL
      have hby := hMWy.below HB9.out (by omega)
      (try simp only [Act.put, List.getElem_toArray, List.getElem_cons_succ, List.getElem_cons_zero, List.setIfInBounds_toArray, List.set_cons_zero, List.set_cons_succ])
      go_wp2_with (first
        | ((with_reducible (show wpList _ _ _ (Oper.mk _ (Op.load 31 _) _ _ _ _ :: _) _ _)); refine wpList_load_row rfl 31 _ rfl W2.heap.size rfl 31 (scrRow { zz with Main := g', X := zz.X, Y := zz.Y, Wrap := !zz.NoWrap } (.slice ga gn gc) c1 c2 c3).toArray (0, 0) _ hrWy Try.underlying31 rfl size_implScr ?_)
        | ((with_reducible (show wpList _ _ _ (Oper.mk _ (Op.store 31 _ _) _ _ _ _ :: _) _ _)); refine wpList_store_at rfl 31 _ _ rfl (w.heap.size + 1) 0 rfl _ rfl (scrRow { zz with Main := g', X := zz.X, Y := zz.Y, Wrap := !zz.NoWrap } (.slice ga gn gc) c1 c2 c3) rfl zeroScr.toArray 31 hsy (Nat.le_of_ble_eq_true rfl) (scrRow_one _ rfl p1 p2 p3) size_implScr ?_; intro Wz hW; have hMWz := Moved.row hW; have hrWz := (row_turn hsy hW (cur' := (scrRow { zz with Main := g', X := zz.X, Y := zz.Y, Wrap := !zz.NoWrap } (.slice ga gn gc) c1 c2 c3)) rfl); clear hW))
      exact bodyPost_ret (results_cell_row Try.results51 _ _ (w.heap.size + 1) 31 (scrRow { zz with Main := g', X := zz.X, Y := zz.Y, Wrap := !zz.NoWrap } (.slice ga gn gc) c1 c2 c3).toArray (0, 0) _ rfl hrWz Try.underlying31 rfl size_implScr) rfl ⟨_, rfl, ⟨(scrRow { zz with Main := g', X := zz.X, Y := zz.Y, Wrap := !zz.NoWrap } (.slice ga gn gc) c1 c2 c3), _, rfl, ((hay.moved hMWz (.inl hz1) (by omega)).same (drawn_ok hyd) rfl rfl rfl rfl).low (by omega) (by omega), hyd⟩, hMWz.below hby (by omega)⟩
    · have b1 : decide (zz.X = zz.W - 1) = false := decide_eq_false hlast
      have b2 : (zz.X == zz.W - 1) = false := by simp [hlast]
      have hyd : drawn { zz with Main := g', X := zz.X + 1, Y := zz.Y, Wrap := zz.Wrap } := move_drawn HYD2.out (by omega) (show zz.X + 1 < zz.W by omega) hin.2.2.1 hin.2.2.2 (fun e => by rw [HZW.out] at e; cases e)
      go_upto_region 13 with ((with_reducible (show wpList _ _ _ (Oper.mk _ (Op.store 3 _ _) _ _ _ _ :: _) _ _)); refine wpList_store_at rfl 3 _ _ rfl W2.heap.size 9 rfl _ rfl [.int .i64 (zz.X + 1)] rfl (scrRow { zz with Main := g' } (.slice ga gn gc) c1 c2 c3).toArray 31 hr9 (Nat.le_of_ble_eq_true rfl) (by simp [Value.oneCell']) (show (Try.prog.info? 3).map (·.size) = some 1 by kernel_rfl) ?_; intro Wy hW; have hMWy := Moved.row hW; have hrWy := (row_turn hr9 hW (cur' := (scrRow { zz with Main := g', X := zz.X + 1, Y := zz.Y, Wrap := zz.Wrap } (.slice ga gn gc) c1 c2 c3)) rfl); clear hW j9 j0 j19)
      have hsy := (hMWy.other (w.heap.size + 1) (by omega)).trans hs9
      have hay := HA9.out.moved hMWy (.inr hMT) hTL
      have hby := hMWy.below HB9.out (by omega)
      (try simp only [Act.put, List.getElem_toArray, List.getElem_cons_succ, List.getElem_cons_zero, List.setIfInBounds_toArray, List.set_cons_zero, List.set_cons_succ])
      go_wp2_with (first
        | ((with_reducible (show wpList _ _ _ (Oper.mk _ (Op.load 31 _) _ _ _ _ :: _) _ _)); refine wpList_load_row rfl 31 _ rfl W2.heap.size rfl 31 (scrRow { zz with Main := g', X := zz.X + 1, Y := zz.Y, Wrap := zz.Wrap } (.slice ga gn gc) c1 c2 c3).toArray (0, 0) _ hrWy Try.underlying31 rfl size_implScr ?_)
        | ((with_reducible (show wpList _ _ _ (Oper.mk _ (Op.store 31 _ _) _ _ _ _ :: _) _ _)); refine wpList_store_at rfl 31 _ _ rfl (w.heap.size + 1) 0 rfl _ rfl (scrRow { zz with Main := g', X := zz.X + 1, Y := zz.Y, Wrap := zz.Wrap } (.slice ga gn gc) c1 c2 c3) rfl zeroScr.toArray 31 hsy (Nat.le_of_ble_eq_true rfl) (scrRow_one _ rfl p1 p2 p3) size_implScr ?_; intro Wz hW; have hMWz := Moved.row hW; have hrWz := (row_turn hsy hW (cur' := (scrRow { zz with Main := g', X := zz.X + 1, Y := zz.Y, Wrap := zz.Wrap } (.slice ga gn gc) c1 c2 c3)) rfl); clear hW))
      exact bodyPost_ret (results_cell_row Try.results51 _ _ (w.heap.size + 1) 31 (scrRow { zz with Main := g', X := zz.X + 1, Y := zz.Y, Wrap := zz.Wrap } (.slice ga gn gc) c1 c2 c3).toArray (0, 0) _ rfl hrWz Try.underlying31 rfl size_implScr) rfl ⟨_, rfl, ⟨(scrRow { zz with Main := g', X := zz.X + 1, Y := zz.Y, Wrap := zz.Wrap } (.slice ga gn gc) c1 c2 c3), _, rfl, ((hay.moved hMWz (.inl hz1) (by omega)).same (drawn_ok hyd) rfl rfl rfl rfl).low (by omega) (by omega), hyd⟩, hMWz.below hby (by omega)⟩
  · have k11 : W4.cell? ⟨W2.heap.size, 11, none⟩ = some (.bool true) := cell_at hr4 (by rw [← hwr]; rfl)
    clear hwr
    go_upto_region 8 with (first
      | ((with_reducible (show wpList _ _ _ (Oper.mk _ (Op.load 31 _) _ _ _ _ :: _) _ _)); refine wpList_load_row rfl 31 _ rfl W2.heap.size rfl 31 (scrRow x u0 u1 u2 u3).toArray (0, 0) _ hr4 Try.underlying31 rfl size_implScr ?_)
      | (go_at_call 79; refine (spec_l09Down _ W1.heap.size B M _ x HCP4.out HD.out hlo hBM (by omega)).mono ?_; rintro e W5 ⟨cs5, y, rfl, haw, hyd, hyw, hbel, hsame⟩; obtain ⟨c0, c1, c2, c3, rfl, p0, p1, p2, p3, -⟩ := scr_shape haw.rep; have HAW5 := Lib.hid haw; have HYD := Lib.hid hyd; have HYW := Lib.hid hyw; have hr5 := (hsame W2.heap.size (by omega) (by omega)).trans hr4; have hs5 := (hbel.block (w.heap.size + 1) (by omega)).trans hq1; have HB5 := Lib.hid (HB4.out.trans (hbel.mono (by omega))); have hz5 := hbel.size; clear haw hyd hyw hbel hsame hr4 hq1 k11)
      | ((with_reducible (show wpList _ _ _ (Oper.mk _ (Op.store 31 _ _) _ _ _ _ :: _) _ _)); refine wpList_store_at rfl 31 _ _ rfl W2.heap.size 0 rfl _ rfl (scrRow y c0 c1 c2 c3) rfl (scrRow x u0 u1 u2 u3).toArray 31 hr5 (Nat.le_of_ble_eq_true rfl) (scrRow_one y p0 p1 p2 p3) size_implScr ?_; intro W6 hW; have hMW6 := Moved.row hW; have hrW6 := (row_turn hr5 hW (cur' := (scrRow y c0 c1 c2 c3)) rfl); clear hW hr5))
    have hs6 := (hMW6.other (w.heap.size + 1) (by omega)).trans hs5
    have HA6 := Lib.hid (HAW5.out.moved hMW6 (.inr hMT) (by omega))
    have HB6 := Lib.hid (hMW6.below HB5.out (by omega))
    have hz6 : W5.heap.size ≤ W6.heap.size := Nat.le_of_eq hMW6.size.symm
    clear hMW6 hs5
    (try simp only [Act.put, List.getElem_toArray, List.getElem_cons_succ, List.getElem_cons_zero, List.setIfInBounds_toArray, List.set_cons_zero, List.set_cons_succ])
    go_upto_region 9 with ((with_reducible (show wpList _ _ _ (Oper.mk _ (Op.store 3 _ _) _ _ _ _ :: _) _ _)); refine wpList_store_at rfl 3 _ _ rfl W2.heap.size 9 rfl _ rfl [.int .i64 0] rfl (scrRow y c0 c1 c2 c3).toArray 31 hrW6 (Nat.le_of_ble_eq_true rfl) (by simp [Value.oneCell']) (show (Try.prog.info? 3).map (·.size) = some 1 by kernel_rfl) ?_; intro Wc hW; have hMWc := Moved.row hW; have hrWc := (row_turn hrW6 hW (cur' := (scrRow { y with X := 0, Y := y.Y, Wrap := y.Wrap } c0 c1 c2 c3)) rfl); clear hW hrW6)
    have hin0 := drawn_in HYD.out
    have hsz0 := drawn_size HYD.out
    have hzd : drawn { y with X := 0, Y := y.Y, Wrap := y.Wrap } := move_drawn HYD.out (Int.le_refl _) (by omega) hin0.2.2.1 hin0.2.2.2 (fun e => by rw [HYW.out] at e; cases e)
    obtain ⟨zz, hzz⟩ : ∃ zz : DScr, zz = { y with X := 0, Y := y.Y, Wrap := y.Wrap } := ⟨_, rfl⟩
    have HZD := Lib.hid (show drawn zz from by rw [hzz]; exact hzd)
    have HZW := Lib.hid (show zz.Wrap = false from by rw [hzz]; exact HYW.out)
    obtain ⟨L, hLd⟩ : ∃ L, L = W4.heap.size := ⟨_, rfl⟩
    have hac : RepAway W1.heap.size M L Wc (scrRow { y with X := 0, Y := y.Y, Wrap := y.Wrap } c0 c1 c2 c3) { y with X := 0, Y := y.Y, Wrap := y.Wrap } := by
      rw [hLd]
      exact (HA6.out.moved hMWc (.inr hMT) hT4).same (drawn_ok hzd) rfl rfl rfl rfl
    rw [← hzz] at hac hrWc
    have HAC := Lib.hid hac
    have hrc := hrWc
    have hL : L ≤ Wc.heap.size := by have := hMWc.size; omega
    have hTL : W2.heap.size < L := by omega
    have hsc := (hMWc.other (w.heap.size + 1) (by omega)).trans hs6
    have HBC := Lib.hid (hMWc.below HB6.out (by omega))
    clear hac hzd hzz hrWc hMWc hs6 hin0 hsz0 HCP4 HCP ONE hLd
    (try simp only [Act.put, List.getElem_toArray, List.getElem_cons_succ, List.getElem_cons_zero, List.setIfInBounds_toArray, List.set_cons_zero, List.set_cons_succ])
    refine wp_region_chain 13 (fun w' => w'.rangeAt W2.heap.size 0 (scrRow zz c0 c1 c2 c3)) (by kernel_rfl) (range_row (w := Wc.drew) (cs := (scrRow zz c0 c1 c2 c3)) hrc) (fun hHeld => ?_)
    have hbd := bel_drew Wc
    have hrd : Wc.drew.heap[W2.heap.size]? = _ := hrc
    have hsd : Wc.drew.heap[w.heap.size + 1]? = _ := hsc
    obtain ⟨v5, hWd⟩ : ∃ W, W = Wc.drew := ⟨_, rfl⟩
    rw [← hWd] at hHeld hbd hrd hsd ⊢
    clear hWd
    have HAW := Lib.hid (HAC.out.call hbd)
    have HB5 := Lib.hid (bel_next HBC.out hbd)
    have hz5 : W2.heap.size < v5.heap.size := by have := hbd.size; omega
    have hl5 : L ≤ v5.heap.size := Nat.le_trans hL hbd.size
    clear hbd hrc hsc
    (refine wpChain_take (i := 0) rfl rfl rfl (by kernel_rfl) (by kernel_rfl) (by kernel_rfl) (by kernel_rfl) (fun _ _ _ h => h) (yieldsL_struct (by rfl) 31 _ rfl W2.heap.size 0 rfl (scrRow zz c0 c1 c2 c3) _ (fun _ h => h) Try.underlying31 rfl size_implScr) hHeld ?_; (try simp only [Act.put, List.getElem_toArray, List.getElem_cons_succ, List.getElem_cons_zero, List.setIfInBounds_toArray, List.set_cons_zero, List.set_cons_succ]))
    (refine wpChain_take (i := 1) rfl rfl rfl (by kernel_rfl) (by kernel_rfl) (by kernel_rfl) (by kernel_rfl) (fun _ _ _ h => h) (yieldsL_struct (by rfl) 31 _ rfl W2.heap.size 0 rfl (scrRow zz c0 c1 c2 c3) _ (fun _ h => h) Try.underlying31 rfl size_implScr) hHeld ?_; (try simp only [Act.put, List.getElem_toArray, List.getElem_cons_succ, List.getElem_cons_zero, List.setIfInBounds_toArray, List.set_cons_zero, List.set_cons_succ]))
    (refine wpChain_take (i := 3) (v := ?_) rfl rfl rfl (by kernel_rfl) (by kernel_rfl) (by kernel_rfl) (by kernel_rfl) (fun _ _ _ h => h) (.inl ⟨by rfl, ?_⟩) hHeld ?_; rotate_left; (focus (intro wq hwq; go_simp; (try with_reducible rfl))); (try simp only [Act.put, List.getElem_toArray, List.getElem_cons_succ, List.getElem_cons_zero, List.setIfInBounds_toArray, List.set_cons_zero, List.set_cons_succ]))
    (refine wpChain_take (i := 4) rfl rfl rfl (by kernel_rfl) (by kernel_rfl) (by kernel_rfl) (by kernel_rfl) (fun _ _ _ h => h) (yieldsL_field (by rfl) _ _ rfl _ _ rfl (scrRow zz c0 c1 c2 c3) _ (fun _ h => h) (rfl) (fun wq hcq => by go_simp)) hHeld ?_; (try simp only [Act.put, List.getElem_toArray, List.getElem_cons_succ, List.getElem_cons_zero, List.setIfInBounds_toArray, List.set_cons_zero, List.set_cons_succ]))
    (refine wpChain_take (i := 5) (v := ?_) rfl rfl rfl (by kernel_rfl) (by kernel_rfl) (by kernel_rfl) (by kernel_rfl) (fun _ _ _ h => h) (.inl ⟨by rfl, ?_⟩) hHeld ?_; rotate_left; (focus (intro wq hwq; go_simp; (try with_reducible rfl))); (try simp only [Act.put, List.getElem_toArray, List.getElem_cons_succ, List.getElem_cons_zero, List.setIfInBounds_toArray, List.set_cons_zero, List.set_cons_succ]))
    (refine wpChain_take (i := 6) rfl rfl rfl (by kernel_rfl) (by kernel_rfl) (by kernel_rfl) (by kernel_rfl) (fun _ _ _ h => h) (yieldsL_field (by rfl) _ _ rfl _ _ rfl (scrRow zz c0 c1 c2 c3) _ (fun _ h => h) (rfl) (fun wq hcq => by go_simp)) hHeld ?_; (try simp only [Act.put, List.getElem_toArray, List.getElem_cons_succ, List.getElem_cons_zero, List.setIfInBounds_toArray, List.set_cons_zero, List.set_cons_succ]))
    (refine wpChain_take (i := 7) (v := ?_) rfl rfl rfl (by kernel_rfl) (by kernel_rfl) (by kernel_rfl) (by kernel_rfl) (fun _ _ _ h => h) (.inl ⟨by rfl, ?_⟩) hHeld ?_; rotate_left; (focus (intro wq hwq; go_simp; (try with_reducible rfl))); (try simp only [Act.put, List.getElem_toArray, List.getElem_cons_succ, List.getElem_cons_zero, List.setIfInBounds_toArray, List.set_cons_zero, List.set_cons_succ]))
    (refine wpChain_take (i := 8) (v := ?_) rfl rfl rfl (by kernel_rfl) (by kernel_rfl) (by kernel_rfl) (by kernel_rfl) (fun _ _ _ h => h) (.inl ⟨by rfl, ?_⟩) hHeld ?_; rotate_left; (focus (intro wq hwq; go_simp; (try with_reducible rfl))); (try simp only [Act.put, List.getElem_toArray, List.getElem_cons_succ, List.getElem_cons_zero, List.setIfInBounds_toArray, List.set_cons_zero, List.set_cons_succ]))
    (refine wpChain_take (i := 9) rfl rfl rfl (by kernel_rfl) (by kernel_rfl) (by kernel_rfl) (by kernel_rfl) (fun _ _ _ h => h) (yieldsL_struct (by rfl) 27 _ rfl W2.heap.size 12 rfl [.int .i64 zz.A.Fg, .int .i64 zz.A.Bg, .bool zz.A.Bold, .bool zz.A.Under, .bool zz.A.Turn] _ (fun _ h => range_off h 12 _ rfl) Try.underlying27 rfl size_implAttr) hHeld ?_; (try simp only [Act.put, List.getElem_toArray, List.getElem_cons_succ, List.getElem_cons_zero, List.setIfInBounds_toArray, List.set_cons_zero, List.set_cons_succ]))
    (refine wpChain_take (i := 10) (v := ?_) rfl rfl rfl (by kernel_rfl) (by kernel_rfl) (by kernel_rfl) (by kernel_rfl) (fun _ _ _ h => h) (.inl ⟨by rfl, ?_⟩) hHeld ?_; rotate_left; (focus (intro wq hwq; go_simp; (try with_reducible rfl))); (try simp only [Act.put, List.getElem_toArray, List.getElem_cons_succ, List.getElem_cons_zero, List.setIfInBounds_toArray, List.set_cons_zero, List.set_cons_succ]))
    refine wpChain_step (i := 2) rfl (by kernel_rfl) (fun K hK => ?_)
    go_simp
    refine (spec_l09Shown v5 (scrRow zz c0 c1 c2 c3) zz HAW.out.rep).mono ?_
    rintro e v6 ⟨_, rfl, ⟨cs6, rfl, hrep6⟩, hb6⟩
    rw [show shownG zz = zz.Main from by unfold shownG; rw [drawn_alt HZD.out]; rfl] at hrep6
    obtain ⟨g0, rfl, -, -, hg0⟩ := DGrid.rep_iff.1 hrep6
    have HG0 := Lib.hid hg0
    have HB6 := Lib.hid hb6
    refine hK.out _ _ (range_step hb6 hHeld) ?_
    replace hHeld := range_step hb6 hHeld
    have hz6 := hb6.size
    have hr6 := (hb6.block W2.heap.size hz5).trans hrd
    have hs6 := (hb6.block (w.heap.size + 1) (by omega)).trans hsd
    clear hK K hb6 hrep6 hg0 hrd hsd
    (try simp only [Act.put, List.getElem_toArray, List.getElem_cons_succ, List.getElem_cons_zero, List.setIfInBounds_toArray, List.set_cons_zero, List.set_cons_succ])
    refine wpChain_step (i := 11) rfl (by kernel_rfl) (fun K hK => ?_)
    go_simp
    refine (spec_GridFill v6 zz.Main g0 zz.X zz.Y ⟨r, zz.A⟩ HG0.out (scrOkB_true (drawn_ok HZD.out)).2.2.2.2.1 (by have := (scrOkB_true (drawn_ok HZD.out)).2.2.1; unfold cellOkB; rw [HSH.out, this]; rfl) (drawn_in HZD.out).1 (by have := drawn_in HZD.out; have := drawn_size HZD.out; omega) (drawn_in HZD.out).2.2.1 (by have := drawn_in HZD.out; have := drawn_size HZD.out; omega)).mono ?_
    rintro e v7 ⟨_, rfl, ⟨g', u', rfl, hF, hsame⟩, hb7⟩
    obtain ⟨ga, gn, gc, rfl⟩ := hF.repS.shape
    have hz7 := hb7.size
    have HF7 := Lib.hid hF
    have HSM := Lib.hid hsame
    have HB7 := Lib.hid hb7
    refine hK.out _ _ (range_step hb7 hHeld) ?_
    replace hHeld := range_step hb7 hHeld
    have hr7 := (hb7.block W2.heap.size (by omega)).trans hr6
    have hs7 := (hb7.block (w.heap.size + 1) (by omega)).trans hs6
    clear hK K hb7 hF hsame hr6 hs6
    (try simp only [Act.put, List.getElem_toArray, List.getElem_cons_succ, List.getElem_cons_zero, List.setIfInBounds_toArray, List.set_cons_zero, List.set_cons_succ])
    refine wpChain_step (i := 12) rfl (by kernel_rfl) (fun K hK => ?_)
    go_simp
    refine (spec_l09Put v7 zz g' c0 c1 c2 c3 (.slice ga gn gc) (drawn_alt HZD.out) p0 p1 p2 p3 rfl).mono ?_
    rintro e v8 ⟨_, rfl, rfl, hb8⟩
    have hz8 := hb8.size
    have hyd2 := put_drawn HZD.out HSM.out
    have HA8 := Lib.hid (RepAway.put (g := g') (u := .slice ga gn gc) (((HAW.out.call HB6.out).call HB7.out).call hb8) ((freshS_low HF7.out (by omega)).grow hb8) (drawn_ok hyd2))
    have HB8 := Lib.hid (bel_next (bel_next (bel_next HB5.out HB6.out) HB7.out) hb8)
    have HYD2 := Lib.hid hyd2
    refine hK.out _ _ (range_step hb8 hHeld) ?_
    have hr8 := (hb8.block W2.heap.size (by omega)).trans hr7
    have hs8 := (hb8.block (w.heap.size + 1) (by omega)).trans hs7
    clear hK K hb8 hr7 hs7 hHeld hyd2
    (try simp only [Act.put, List.getElem_toArray, List.getElem_cons_succ, List.getElem_cons_zero, List.setIfInBounds_toArray, List.set_cons_zero, List.set_cons_succ])
    refine wpChain_store rfl rfl (by kernel_rfl) (by kernel_rfl) rfl 31 _ _ rfl W2.heap.size 0 rfl _ rfl (scrRow { zz with Main := g' } (.slice ga gn gc) c1 c2 c3) rfl (scrRow zz c0 c1 c2 c3).toArray 31 (RowAt.of hr8) (Nat.le_of_ble_eq_true rfl) (scrRow_one _ rfl p1 p2 p3) size_implScr ?_
    intro v9 hW
    have hM9 := Moved.row hW
    have hr9 := row_turn hr8 hW (cur' := (scrRow { zz with Main := g' } (.slice ga gn gc) c1 c2 c3)) rfl
    have hs9 := (hM9.other (w.heap.size + 1) (by omega)).trans hs8
    have HA9 := Lib.hid (HA8.out.moved hM9 (.inr hMT) hTL)
    have HB9 := Lib.hid (hM9.below HB8.out (by omega))
    clear hW hr8 hs8 hM9
    (try simp only [Act.put, List.getElem_toArray, List.getElem_cons_succ, List.getElem_cons_zero, List.setIfInBounds_toArray, List.set_cons_zero, List.set_cons_succ])
    have j9 : v9.cell? ⟨W2.heap.size, 9, none⟩ = some (.int .i64 zz.X) := cell_at hr9 rfl
    have j0 : v9.cell? ⟨W2.heap.size, 0, none⟩ = some (.int .i64 zz.W) := cell_at hr9 rfl
    have j19 : v9.cell? ⟨W2.heap.size, 19, none⟩ = some (.bool zz.NoWrap) := cell_at hr9 rfl
    have hin := drawn_in HZD.out
    have hsz := drawn_size HZD.out
    have f1 : IntKind.i64.wrap (zz.W - 1) = zz.W - 1 := by rw [IntKind.wrap_i64]; omega
    have f2 : IntKind.i64.wrap (zz.X + 1) = zz.X + 1 := by rw [IntKind.wrap_i64]; omega
    by_cases hlast : zz.X = zz.W - 1
    · have b1 : decide (zz.X = zz.W - 1) = true := decide_eq_true hlast
      have b2 : (zz.X == zz.W - 1) = true := by simp [hlast]
      have hyd : drawn { zz with Main := g', X := zz.X, Y := zz.Y, Wrap := !zz.NoWrap } := move_drawn HYD2.out hin.1 hin.2.1 hin.2.2.1 hin.2.2.2 (fun _ => hlast)
      have HLA := Lib.hid hlast
      clear hlast
      go_upto_region 13 with ((with_reducible (show wpList _ _ _ (Oper.mk _ (Op.store 4 _ _) _ _ _ _ :: _) _ _)); refine wpList_store_at rfl 4 _ _ rfl W2.heap.size 11 rfl _ rfl [.bool (!zz.NoWrap)] rfl (scrRow { zz with Main := g' } (.slice ga gn gc) c1 c2 c3).toArray 31 hr9 (Nat.le_of_ble_eq_true rfl) (by simp [Value.oneCell']) (show (Try.prog.info? 4).map (·.size) = some 1 by kernel_rfl) ?_; intro Wy hW; have hMWy := Moved.row hW; have hrWy := (row_turn hr9 hW (cur' := (scrRow { zz with Main := g', X := zz.X, Y := zz.Y, Wrap := !zz.NoWrap } (.slice ga gn gc) c1 c2 c3)) rfl); clear hW j9 j0 j19)
      have hsy := (hMWy.other (w.heap.size + 1) (by omega)).trans hs9
      have hay := HA9.out.moved hMWy (.inr hMT) hTL
      have hby := hMWy.below HB9.out (by omega)
      (try simp only [Act.put, List.getElem_toArray, List.getElem_cons_succ, List.getElem_cons_zero, List.setIfInBounds_toArray, List.set_cons_zero, List.set_cons_succ])
      go_wp2_with (first
        | ((with_reducible (show wpList _ _ _ (Oper.mk _ (Op.load 31 _) _ _ _ _ :: _) _ _)); refine wpList_load_row rfl 31 _ rfl W2.heap.size rfl 31 (scrRow { zz with Main := g', X := zz.X, Y := zz.Y, Wrap := !zz.NoWrap } (.slice ga gn gc) c1 c2 c3).toArray (0, 0) _ hrWy Try.underlying31 rfl size_implScr ?_)
        | ((with_reducible (show wpList _ _ _ (Oper.mk _ (Op.store 31 _ _) _ _ _ _ :: _) _ _)); refine wpList_store_at rfl 31 _ _ rfl (w.heap.size + 1) 0 rfl _ rfl (scrRow { zz with Main := g', X := zz.X, Y := zz.Y, Wrap := !zz.NoWrap } (.slice ga gn gc) c1 c2 c3) rfl zeroScr.toArray 31 hsy (Nat.le_of_ble_eq_true rfl) (scrRow_one _ rfl p1 p2 p3) size_implScr ?_; intro Wz hW; have hMWz := Moved.row hW; have hrWz := (row_turn hsy hW (cur' := (scrRow { zz with Main := g', X := zz.X, Y := zz.Y, Wrap := !zz.NoWrap } (.slice ga gn gc) c1 c2 c3)) rfl); clear hW))
      exact bodyPost_ret (results_cell_row Try.results51 _ _ (w.heap.size + 1) 31 (scrRow { zz with Main := g', X := zz.X, Y := zz.Y, Wrap := !zz.NoWrap } (.slice ga gn gc) c1 c2 c3).toArray (0, 0) _ rfl hrWz Try.underlying31 rfl size_implScr) rfl ⟨_, rfl, ⟨(scrRow { zz with Main := g', X := zz.X, Y := zz.Y, Wrap := !zz.NoWrap } (.slice ga gn gc) c1 c2 c3), _, rfl, ((hay.moved hMWz (.inl hz1) (by omega)).same (drawn_ok hyd) rfl rfl rfl rfl).low (by omega) (by omega), hyd⟩, hMWz.below hby (by omega)⟩
    · have b1 : decide (zz.X = zz.W - 1) = false := decide_eq_false hlast
      have b2 : (zz.X == zz.W - 1) = false := by simp [hlast]
      have hyd : drawn { zz with Main := g', X := zz.X + 1, Y := zz.Y, Wrap := zz.Wrap } := move_drawn HYD2.out (by omega) (show zz.X + 1 < zz.W by omega) hin.2.2.1 hin.2.2.2 (fun e => by rw [HZW.out] at e; cases e)
      go_upto_region 13 with ((with_reducible (show wpList _ _ _ (Oper.mk _ (Op.store 3 _ _) _ _ _ _ :: _) _ _)); refine wpList_store_at rfl 3 _ _ rfl W2.heap.size 9 rfl _ rfl [.int .i64 (zz.X + 1)] rfl (scrRow { zz with Main := g' } (.slice ga gn gc) c1 c2 c3).toArray 31 hr9 (Nat.le_of_ble_eq_true rfl) (by simp [Value.oneCell']) (show (Try.prog.info? 3).map (·.size) = some 1 by kernel_rfl) ?_; intro Wy hW; have hMWy := Moved.row hW; have hrWy := (row_turn hr9 hW (cur' := (scrRow { zz with Main := g', X := zz.X + 1, Y := zz.Y, Wrap := zz.Wrap } (.slice ga gn gc) c1 c2 c3)) rfl); clear hW j9 j0 j19)
      have hsy := (hMWy.other (w.heap.size + 1) (by omega)).trans hs9
      have hay := HA9.out.moved hMWy (.inr hMT) hTL
      have hby := hMWy.below HB9.out (by omega)
      (try simp only [Act.put, List.getElem_toArray, List.getElem_cons_succ, List.getElem_cons_zero, List.setIfInBounds_toArray, List.set_cons_zero, List.set_cons_succ])
      go_wp2_with (first
        | ((with_reducible (show wpList _ _ _ (Oper.mk _ (Op.load 31 _) _ _ _ _ :: _) _ _)); refine wpList_load_row rfl 31 _ rfl W2.heap.size rfl 31 (scrRow { zz with Main := g', X := zz.X + 1, Y := zz.Y, Wrap := zz.Wrap } (.slice ga gn gc) c1 c2 c3).toArray (0, 0) _ hrWy Try.underlying31 rfl size_implScr ?_)
        | ((with_reducible (show wpList _ _ _ (Oper.mk _ (Op.store 31 _ _) _ _ _ _ :: _) _ _)); refine wpList_store_at rfl 31 _ _ rfl (w.heap.size + 1) 0 rfl _ rfl (scrRow { zz with Main := g', X := zz.X + 1, Y := zz.Y, Wrap := zz.Wrap } (.slice ga gn gc) c1 c2 c3) rfl zeroScr.toArray 31 hsy (Nat.le_of_ble_eq_true rfl) (scrRow_one _ rfl p1 p2 p3) size_implScr ?_; intro Wz hW; have hMWz := Moved.row hW; have hrWz := (row_turn hsy hW (cur' := (scrRow { zz with Main := g', X := zz.X + 1, Y := zz.Y, Wrap := zz.Wrap } (.slice ga gn gc) c1 c2 c3)) rfl); clear hW))
      exact bodyPost_ret (results_cell_row Try.results51 _ _ (w.heap.size + 1) 31 (scrRow { zz with Main := g', X := zz.X + 1, Y := zz.Y, Wrap := zz.Wrap } (.slice ga gn gc) c1 c2 c3).toArray (0, 0) _ rfl hrWz Try.underlying31 rfl size_implScr) rfl ⟨_, rfl, ⟨(scrRow { zz with Main := g', X := zz.X + 1, Y := zz.Y, Wrap := zz.Wrap } (.slice ga gn gc) c1 c2 c3), _, rfl, ((hay.moved hMWz (.inl hz1) (by omega)).same (drawn_ok hyd) rfl rfl rfl rfl).low (by omega) (by omega), hyd⟩, hMWz.below hby (by omega)⟩
end Go.Proofs.Ytaobgfneeijpmaa
