/- The walk of MakeScr: what it makes is a well formed screen. -/
import Derived.Test.YtaobgfneeijpmaaFnDrawS
set_option linter.unusedSimpArgs false
set_option linter.unusedVariables false
namespace Go.Proofs.Ytaobgfneeijpmaa
open Go.RowKit Go.Mux
set_option maxRecDepth 100000 in
set_option maxHeartbeats 1000000 in
theorem spec_MakeScr (w : World) (v : Value) (l : List UInt8) (h : RepS w v l) (hl : l.length ≤ 1048576) :
    Calls Try.prog 5 #[v] w (Gives w fun r w' => ∃ cs y, r = .agg cs.toArray ∧ Rep.rep w' cs y ∧ scrOkB y = true) := by
  have HR := Lib.hid h
  clear h
  go_enter Try.func5, Try.ntmps5
  go_wp2_with fail
  generalize hwb : World.alloc w _ = W0
  have hb0 : Below w.heap.size w W0 := by rw [← hwb]; exact bel_alloc (Below.refl _ _) _
  have hr0 : W0.heap[w.heap.size]? = some (.cells zeroScr.toArray 31 (0, 0)) := by rw [← hwb]; exact new_at _ _ rfl
  have hz0 : w.heap.size < W0.heap.size := (Array.getElem?_eq_some_iff.1 hr0).1
  have HB0 := Lib.hid hb0
  clear hwb hb0
  refine (spec_l01New W0 v l (HR.out.mono HB0.out) hl).mono ?_
  rintro e W1 ⟨C, rfl, hc1, hb1⟩
  have HC1 := Lib.hid hc1
  have HB1 := Lib.hid hb1
  have hr1 := (hb1.block w.heap.size hz0).trans hr0
  have hz1 := hb1.size
  clear hc1 hb1 hr1
  go_wp2_with fail
  refine (spec_l09Draw W0 W1 C HC1.out HB1.out).mono ?_
  rintro e W2 ⟨cs, y, rfl, haw, hok, hb2⟩
  have HA := Lib.hid haw
  have HOK := Lib.hid hok
  have HB2 := Lib.hid hb2
  obtain ⟨v0, v1, v2, v3, rfl, o0, o1, o2, o3, -⟩ := scr_shape haw.rep
  have hr2 := (hb2.block w.heap.size hz0).trans hr0
  have hz2 := hb2.size
  have ONE := Lib.hid (scrRow_one y o0 o1 o2 o3)
  clear haw hok hb2 hr0
  go_upto_region 3 with ((with_reducible (show wpList _ _ _ (Oper.mk _ (Op.store 31 _ _) _ _ _ _ :: _) _ _)); have HAL := Lib.hid (new_at W2 (.cells zeroScr.toArray 31 (0, 0)) rfl); refine wpList_store_at rfl 31 _ _ rfl W2.heap.size 0 rfl _ rfl (scrRow y v0 v1 v2 v3) rfl zeroScr.toArray 31 HAL.out (Nat.le_of_ble_eq_true rfl) ONE.out size_implScr ?_; intro W3 hW; have hM3 := Moved.row hW; have hr3 := (row_turn HAL.out hW (cur' := (scrRow y v0 v1 v2 v3)) rfl); clear hW HAL)
  have hal := bel_alloc (Below.refl W2.heap.size W2) (.cells zeroScr.toArray 31 (0, 0))
  have hs3 := (hM3.other w.heap.size (by omega)).trans ((hal.block w.heap.size (by omega)).trans hr2)
  have HA3 := Lib.hid (((HA.out.held (L := W2.heap.size + 1)).call hal).moved hM3 (.inr (Nat.le_refl _)) (by omega))
  have HB3 := Lib.hid (hM3.below ((HB0.out.trans (HB2.out.mono (by omega))).trans (hal.mono (by omega))) (by omega))
  clear hal hM3 hr2
  have hq := scrOkB_true HOK.out
  obtain ⟨_, _, _, _, _, _, _, _, p1, p2, p3, p4, p5, p6, p7, p8, p9, p10, p11, p12, p13, _, _⟩ := hq
  obtain ⟨s1, s2, s3, s4, -⟩ := ok_in HOK.out
  have k11 : W3.cell? ⟨W2.heap.size, 11, none⟩ = some (.bool y.Wrap) := cell_at hr3 rfl
  have k9 : W3.cell? ⟨W2.heap.size, 9, none⟩ = some (.int .i64 y.X) := cell_at hr3 rfl
  have k0 : W3.cell? ⟨W2.heap.size, 0, none⟩ = some (.int .i64 y.W) := cell_at hr3 rfl
  have k17 : W3.cell? ⟨W2.heap.size, 17, none⟩ = some (.int .i64 y.Top) := cell_at hr3 rfl
  have k18 : W3.cell? ⟨W2.heap.size, 18, none⟩ = some (.int .i64 y.Bot) := cell_at hr3 rfl
  have k1 : W3.cell? ⟨W2.heap.size, 1, none⟩ = some (.int .i64 y.H) := cell_at hr3 rfl
  have w1 : IntKind.i64.wrap (y.W - 1) = y.W - 1 := by rw [IntKind.wrap_i64]; omega
  have P9 := Lib.hid p9
  have P13 := Lib.hid p13
  clear p9 p13
  (try simp only [Act.put, List.getElem_toArray, List.getElem_cons_succ, List.getElem_cons_zero, List.setIfInBounds_toArray, List.set_cons_zero, List.set_cons_succ])
  go_cut [30] from 9 to 30 (fun c wx => c = .bool false ∧ W3 = wx)
  case first =>
    cases hw : y.Wrap
    · rw [hw] at k11
      clear hw
      by_cases ht : y.Top = y.Bot
      · have hh := P13.out ht
        have d1 : (y.Top == y.Bot) = true := by simp [ht]
        have d2 : (y.H == 1) = true := by simp [hh]
        have d3 : (y.H != 1) = false := by simp [hh]
        have d4 : decide (y.Top = y.Bot) = true := decide_eq_true ht
        have d5 : decide (y.H = 1) = true := decide_eq_true hh
        clear ht hh P13 P9
        go_wp2_with fail
        go_meet
        exact ⟨rfl, rfl⟩
      · have d1 : (y.Top == y.Bot) = false := by simp [ht]
        have d4 : decide (y.Top = y.Bot) = false := decide_eq_false ht
        clear P13 P9
        go_wp2_with fail
        go_meet
        exact ⟨rfl, rfl⟩
    · rw [hw] at k11
      have hx := P9.out hw
      have e1 : (y.X == y.W - 1) = true := by simp [hx]
      have e2 : (y.X != y.W - 1) = false := by simp [hx]
      have e3 : decide (y.X = y.W - 1) = true := decide_eq_true hx
      clear hw hx
      by_cases ht : y.Top = y.Bot
      · have hh := P13.out ht
        have d1 : (y.Top == y.Bot) = true := by simp [ht]
        have d2 : (y.H == 1) = true := by simp [hh]
        have d3 : (y.H != 1) = false := by simp [hh]
        have d4 : decide (y.Top = y.Bot) = true := decide_eq_true ht
        have d5 : decide (y.H = 1) = true := decide_eq_true hh
        clear ht hh P13 P9
        go_wp2_with fail
        go_meet
        exact ⟨rfl, rfl⟩
      · have d1 : (y.Top == y.Bot) = false := by simp [ht]
        have d4 : decide (y.Top = y.Bot) = false := decide_eq_false ht
        clear P13 P9
        go_wp2_with fail
        go_meet
        exact ⟨rfl, rfl⟩
  case rest =>
  obtain ⟨rfl, rfl⟩ := hcut
  clear k11 k9 k0 k17 k18 k1
  go_wp2_with (first
    | ((with_reducible (show wpList _ _ _ (Oper.mk _ (Op.load 31 _) _ _ _ _ :: _) _ _)); refine wpList_load_row rfl 31 _ rfl W2.heap.size rfl 31 (scrRow y v0 v1 v2 v3).toArray (0, 0) _ hr3 Try.underlying31 rfl size_implScr ?_)
    | ((with_reducible (show wpList _ _ _ (Oper.mk _ (Op.store 31 _ _) _ _ _ _ :: _) _ _)); refine wpList_store_at rfl 31 _ _ rfl w.heap.size 0 rfl _ rfl (scrRow y v0 v1 v2 v3) rfl zeroScr.toArray 31 hs3 (Nat.le_of_ble_eq_true rfl) ONE.out size_implScr ?_; intro W9 hW; (try rw [act_put_none]); have hM9 := Moved.row hW; have hr9 := (row_turn hs3 hW (cur' := (scrRow y v0 v1 v2 v3)) rfl); clear hW))
  exact bodyPost_ret (results_cell_row Try.results5 _ _ w.heap.size 31 (scrRow y v0 v1 v2 v3).toArray (0, 0) _ rfl hr9 Try.underlying31 rfl size_implScr) rfl ⟨_, rfl, ⟨(scrRow y v0 v1 v2 v3), y, rfl, (HA3.out.moved hM9 (.inl (by omega)) (by omega)).rep, HOK.out⟩, hM9.below HB3.out (by omega)⟩
end Go.Proofs.Ytaobgfneeijpmaa
