/- The walk of the law FnLook: it returns true. -/
import Derived.Test.YtaobgfneeijpmaaFnLookP
set_option linter.unusedSimpArgs false
set_option linter.unusedVariables false
namespace Go.Proofs.Ytaobgfneeijpmaa
open Go.RowKit Go.Mux
set_option maxRecDepth 100000 in
set_option maxHeartbeats 2000000 in
theorem law_FnLook (w : World) (v : Value) (l : List UInt8) (h : RepS w v l) : Calls Try.prog 3 #[v] w fun e w' => e = .returned (.bool true) ∧ Below w.heap.size w w' := by
  have HR := Lib.hid h
  obtain ⟨a, cap, rfl, ⟨hl, _⟩, -⟩ := h
  by_cases hbig : (1048576 : Int) < (l.length : Int)
  · have d1 : decide ((1048576 : Int) < (l.length : Int)) = true := decide_eq_true hbig
    go_enter Try.func3, Try.ntmps3
    go_wp2_with fail
    go_ret
    exact ⟨rfl, Below.refl _ _⟩
  have d1 : decide ((1048576 : Int) < (l.length : Int)) = false := decide_eq_false hbig
  have hl2 : l.length ≤ 1048576 := by omega
  clear hbig
  go_enter Try.func3, Try.ntmps3
  go_wp2_with fail
  refine (spec_MakeScr w _ l HR.out hl2).mono ?_
  rintro e W1 ⟨_, rfl, ⟨cs, x, rfl, hrep, hok⟩, hb1⟩
  have HB1 := Lib.hid hb1
  have HOK := Lib.hid hok
  obtain ⟨v0, v1, v2, v3, rfl, o0, o1, o2, o3, -, -, -, hbk⟩ := scr_shape hrep
  obtain ⟨a3, c3, rfl, ⟨hl3, hl3'⟩, hbk⟩ := hbk
  have HBK := Lib.hid hbk
  have hlim : x.Back.length ≤ 100 := by have := (scrOkB_true hok).2.2.2.2.2.2.2.2.2.2.2.2.2.2.2.2.2.2.2.2.2.2; omega
  have HR1 := Lib.hid hrep
  have ONE := Lib.hid (scrRow_one x o0 o1 o2 o3)
  clear hb1 hok hrep hl hl2 d1 o0 o1 o2 o3 hbk hl3 hl3'
  go_upto_region 4 with ((with_reducible (show wpList _ _ _ (Oper.mk _ (Op.store 31 _ _) _ _ _ _ :: _) _ _)); have HAL := Lib.hid (new_at W1 (.cells zeroScr.toArray 31 (0, 0)) rfl); refine wpList_store_at rfl 31 _ _ rfl W1.heap.size 0 rfl _ rfl (scrRow x v0 v1 v2 (.slice a3 x.Back.length c3)) rfl zeroScr.toArray 31 HAL.out (Nat.le_of_ble_eq_true rfl) ONE.out size_implScr ?_; intro W2 hW; have hM2 := Moved.row hW; have hr2 := (row_turn HAL.out hW (cur' := (scrRow x v0 v1 v2 (.slice a3 x.Back.length c3))) rfl); clear hW HAL)
  have hal := bel_alloc (Below.refl W1.heap.size W1) (.cells zeroScr.toArray 31 (0, 0))
  have HBN2 := Lib.hid (hM2.below hal (Nat.le_refl _))
  have HR2 := Lib.hid (Rep.mono HR1.out HBN2.out)
  have HB2 := Lib.hid (bel_next HB1.out HBN2.out)
  obtain ⟨T, hT⟩ : ∃ T, T = W1.heap.size := ⟨_, rfl⟩
  rw [← hT] at hr2 ⊢
  clear hal hM2 HBN2 hT HR1 HB1 ONE
  (try simp only [Act.put, List.getElem_toArray, List.getElem_cons_succ, List.getElem_cons_zero, List.setIfInBounds_toArray, List.set_cons_zero, List.set_cons_succ])
  refine wp_region_chain 11 (fun w' => w'.rangeAt T 0 (scrRow x v0 v1 v2 (.slice a3 x.Back.length c3))) (by kernel_rfl) (range_row (w := W2.drew) (cs := (scrRow x v0 v1 v2 (.slice a3 x.Back.length c3))) hr2) (fun hHeld => ?_)
  have hbd := bel_drew W2
  have hrd : W2.drew.heap[T]? = _ := hr2
  obtain ⟨u3, hWd⟩ : ∃ W, W = W2.drew := ⟨_, rfl⟩
  rw [← hWd] at hHeld hbd hrd ⊢
  clear hWd
  have HR3 := Lib.hid (Rep.mono HR2.out hbd)
  have HB3 := Lib.hid (bel_next HB2.out hbd)
  have hT3 : T < u3.heap.size := (Array.getElem?_eq_some_iff.1 hrd).1
  clear hbd hr2 HR2 HB2
  (refine wpChain_take (i := 0) rfl rfl rfl (by kernel_rfl) (by kernel_rfl) (by kernel_rfl) (by kernel_rfl) (fun _ _ _ h => h) (yieldsL_struct (by rfl) 31 _ rfl T 0 rfl (scrRow x v0 v1 v2 (.slice a3 x.Back.length c3)) _ (fun _ h => h) Try.underlying31 rfl size_implScr) hHeld ?_; (try simp only [Act.put, List.getElem_toArray, List.getElem_cons_succ, List.getElem_cons_zero, List.setIfInBounds_toArray, List.set_cons_zero, List.set_cons_succ]))
  (refine wpChain_take (i := 2) rfl rfl rfl (by kernel_rfl) (by kernel_rfl) (by kernel_rfl) (by kernel_rfl) (fun _ _ _ h => h) (yieldsL_struct (by rfl) 31 _ rfl T 0 rfl (scrRow x v0 v1 v2 (.slice a3 x.Back.length c3)) _ (fun _ h => h) Try.underlying31 rfl size_implScr) hHeld ?_; (try simp only [Act.put, List.getElem_toArray, List.getElem_cons_succ, List.getElem_cons_zero, List.setIfInBounds_toArray, List.set_cons_zero, List.set_cons_succ]))
  refine wpChain_step (i := 1) rfl (by kernel_rfl) (fun K hK => ?_)
  go_simp
  refine (impl_Look' u3 _ x 0 HR3.out).mono ?_
  rintro e u4 ⟨_, rfl, ⟨g4, rfl, hF⟩, hb⟩
  have HG4 := Lib.hid (show Rep.rep u4 g4 (shownG x) from by rw [← look_zero HOK.out]; exact hF.rep)
  have HR4 := Lib.hid (Rep.mono HR3.out hb)
  have HB4 := Lib.hid (bel_next HB3.out hb)
  have hr4 := (hb.block T hT3).trans hrd
  have hT4 : T < u4.heap.size := Nat.lt_of_lt_of_le hT3 hb.size
  refine hK.out _ _ (range_step hb hHeld) ?_
  replace hHeld := range_step hb hHeld
  clear hK K hb hF hrd
  (try simp only [Act.put, List.getElem_toArray, List.getElem_cons_succ, List.getElem_cons_zero, List.setIfInBounds_toArray, List.set_cons_zero, List.set_cons_succ])
  refine wpChain_step (i := 3) rfl (by kernel_rfl) (fun K hK => ?_)
  go_simp
  refine (impl_Shown' u4 _ x HR4.out HOK.out).mono ?_
  rintro e u5 ⟨_, rfl, ⟨g5, rfl, hF⟩, hb⟩
  have HG5 := Lib.hid hF.rep
  have HG45 := Lib.hid (Rep.mono HG4.out hb)
  have HR5 := Lib.hid (Rep.mono HR4.out hb)
  have HB5 := Lib.hid (bel_next HB4.out hb)
  have hr5 := (hb.block T hT4).trans hr4
  have hT5 : T < u5.heap.size := Nat.lt_of_lt_of_le hT4 hb.size
  refine hK.out _ _ (range_step hb hHeld) ?_
  replace hHeld := range_step hb hHeld
  clear hK K hb hF hr4
  (try simp only [Act.put, List.getElem_toArray, List.getElem_cons_succ, List.getElem_cons_zero, List.setIfInBounds_toArray, List.set_cons_zero, List.set_cons_succ])
  refine wpChain_step (i := 4) rfl (by kernel_rfl) (fun K hK => ?_)
  go_simp
  refine (impl_SameGrid_refl u5 g4 g5 (shownG x) HG45.out HG5.out).mono ?_
  rintro e u6 ⟨_, rfl, rfl, hb⟩
  have HR6 := Lib.hid (Rep.mono HR5.out hb)
  have HB6 := Lib.hid (bel_next HB5.out hb)
  have hr6 := (hb.block T hT5).trans hr5
  have hT6 : T < u6.heap.size := Nat.lt_of_lt_of_le hT5 hb.size
  refine hK.out _ _ (range_step hb hHeld) ?_
  replace hHeld := range_step hb hHeld
  clear hK K hb hr5
  (try simp only [Act.put, List.getElem_toArray, List.getElem_cons_succ, List.getElem_cons_zero, List.setIfInBounds_toArray, List.set_cons_zero, List.set_cons_succ])
  (refine wpChain_take (i := 5) (v := ?_) rfl rfl rfl (by kernel_rfl) (by kernel_rfl) (by kernel_rfl) (by kernel_rfl) (fun _ _ _ h => h) (.inl ⟨by rfl, ?_⟩) hHeld ?_; rotate_left; (focus (intro wq hwq; go_simp; (try with_reducible rfl))); (try simp only [Act.put, List.getElem_toArray, List.getElem_cons_succ, List.getElem_cons_zero, List.setIfInBounds_toArray, List.set_cons_zero, List.set_cons_succ]))
  (refine wpChain_take (i := 6) (v := ?_) rfl rfl rfl (by kernel_rfl) (by kernel_rfl) (by kernel_rfl) (by kernel_rfl) (fun _ _ _ h => h) (.inl ⟨by rfl, ?_⟩) hHeld ?_; rotate_left; (focus (intro wq hwq; go_simp; (try with_reducible rfl))); (try simp only [Act.put, List.getElem_toArray, List.getElem_cons_succ, List.getElem_cons_zero, List.setIfInBounds_toArray, List.set_cons_zero, List.set_cons_succ]))
  (refine wpChain_take (i := 7) rfl rfl rfl (by kernel_rfl) (by kernel_rfl) (by kernel_rfl) (by kernel_rfl) (fun _ _ _ h => h) (yieldsL_struct (by rfl) 31 _ rfl T 0 rfl (scrRow x v0 v1 v2 (.slice a3 x.Back.length c3)) _ (fun _ h => h) Try.underlying31 rfl size_implScr) hHeld ?_; (try simp only [Act.put, List.getElem_toArray, List.getElem_cons_succ, List.getElem_cons_zero, List.setIfInBounds_toArray, List.set_cons_zero, List.set_cons_succ]))
  (refine wpChain_take (i := 9) rfl rfl rfl (by kernel_rfl) (by kernel_rfl) (by kernel_rfl) (by kernel_rfl) (fun _ _ _ h => h) (yieldsL_struct (by rfl) 31 _ rfl T 0 rfl (scrRow x v0 v1 v2 (.slice a3 x.Back.length c3)) _ (fun _ h => h) Try.underlying31 rfl size_implScr) hHeld ?_; (try simp only [Act.put, List.getElem_toArray, List.getElem_cons_succ, List.getElem_cons_zero, List.setIfInBounds_toArray, List.set_cons_zero, List.set_cons_succ]))
  refine wpChain_step (i := 8) rfl (by kernel_rfl) (fun K hK => ?_)
  go_simp
  refine (impl_Look' u6 _ x (-3) HR6.out).mono ?_
  rintro e u7 ⟨_, rfl, ⟨g7, rfl, hF⟩, hb⟩
  have HG7 := Lib.hid (show Rep.rep u7 g7 (shownG x) from by rw [← look_neg HOK.out]; exact hF.rep)
  have HR7 := Lib.hid (Rep.mono HR6.out hb)
  have HB7 := Lib.hid (bel_next HB6.out hb)
  have hr7 := (hb.block T hT6).trans hr6
  have hT7 : T < u7.heap.size := Nat.lt_of_lt_of_le hT6 hb.size
  refine hK.out _ _ (range_step hb hHeld) ?_
  replace hHeld := range_step hb hHeld
  clear hK K hb hF hr6
  (try simp only [Act.put, List.getElem_toArray, List.getElem_cons_succ, List.getElem_cons_zero, List.setIfInBounds_toArray, List.set_cons_zero, List.set_cons_succ])
  refine wpChain_step (i := 10) rfl (by kernel_rfl) (fun K hK => ?_)
  go_simp
  refine (spec_Shown' u7 _ x HR7.out HOK.out).mono ?_
  rintro e u8 ⟨_, rfl, ⟨g8, rfl, hF⟩, hb⟩
  have HG8 := Lib.hid hF.rep
  have HG78 := Lib.hid (Rep.mono HG7.out hb)
  have HR8 := Lib.hid (Rep.mono HR7.out hb)
  have HB8 := Lib.hid (bel_next HB7.out hb)
  have hr8 := (hb.block T hT7).trans hr7
  have hT8 : T < u8.heap.size := Nat.lt_of_lt_of_le hT7 hb.size
  refine hK.out _ _ (range_step hb hHeld) ?_
  replace hHeld := range_step hb hHeld
  clear hK K hb hF hr7
  (try simp only [Act.put, List.getElem_toArray, List.getElem_cons_succ, List.getElem_cons_zero, List.setIfInBounds_toArray, List.set_cons_zero, List.set_cons_succ])
  refine wpChain_step (i := 11) rfl (by kernel_rfl) (fun K hK => ?_)
  go_simp
  refine (impl_SameGrid_refl u8 g7 g8 (shownG x) HG78.out HG8.out).mono ?_
  rintro e u9 ⟨_, rfl, rfl, hb⟩
  have HR9 := Lib.hid (Rep.mono HR8.out hb)
  have HB9 := Lib.hid (bel_next HB8.out hb)
  have hr9 := (hb.block T hT8).trans hr8
  have hT9 : T < u9.heap.size := Nat.lt_of_lt_of_le hT8 hb.size
  refine hK.out _ _ (range_step hb hHeld) ?_
  replace hHeld := range_step hb hHeld
  clear hK K hb hr8
  (try simp only [Act.put, List.getElem_toArray, List.getElem_cons_succ, List.getElem_cons_zero, List.setIfInBounds_toArray, List.set_cons_zero, List.set_cons_succ])
  refine wpChain_step (i := 12) rfl (by kernel_rfl) (fun K hK => ?_)
  go_simp
  refine hK.out _ _ hHeld ?_
  clear hK K
  (try simp only [Act.put, List.getElem_toArray, List.getElem_cons_succ, List.getElem_cons_zero, List.setIfInBounds_toArray, List.set_cons_zero, List.set_cons_succ])
  refine wpChain_step (i := 13) rfl (by kernel_rfl) (fun K hK => ?_)
  go_simp
  refine hK.out _ _ hHeld ?_
  clear hK K
  (try simp only [Act.put, List.getElem_toArray, List.getElem_cons_succ, List.getElem_cons_zero, List.setIfInBounds_toArray, List.set_cons_zero, List.set_cons_succ])
  refine wpChain_end (by kernel_rfl) ?_
  clear HR3 HB3 HG4 HR4 HB4 hT3 hT4 hT5 hT6 hT7 hT8 HG5 HG45 HR5 HB5 HR6 HB6 HG7 HR7 HB7 HG8 HG78 HR8 HB8 hHeld
  have k30 : u9.cell? ⟨T, 30, none⟩ = some (.slice a3 x.Back.length c3) := cell_at hr9 rfl
  obtain ⟨n, hn⟩ : ∃ n : Int, n = (x.Back.length : Int) := ⟨_, rfl⟩
  go_upto_region 8 with (first
    | ((with_reducible (show wpList _ _ _ (Oper.mk _ (Op.load 31 _) _ _ _ _ :: _) _ _)); refine wpList_load_row rfl 31 _ rfl T rfl 31 (scrRow x v0 v1 v2 (.slice a3 x.Back.length c3)).toArray (0, 0) _ hr9 Try.underlying31 rfl size_implScr ?_)
    | (go_at_call 7; refine (impl_Look' u9 _ x (x.Back.length : Int) HR9.out).mono ?_; rintro e u10 ⟨_, rfl, ⟨g10, rfl, hF⟩, hb⟩; have HG10 := Lib.hid hF.rep; have HR10 := Lib.hid (Rep.mono HR9.out hb); have HB10 := Lib.hid (bel_next HB9.out hb); have hr10 := (hb.block T hT9).trans hr9; have hT10 : T < u10.heap.size := Nat.lt_of_lt_of_le hT9 hb.size; have hl10 := Rep.len hF.rep; have ho10 := Rep.one hF.rep; clear hb hF hr9 k30)
    | ((with_reducible (show wpList _ _ _ (Oper.mk _ (Op.store 25 _ _) _ _ _ _ :: _) _ _)); have HAL := Lib.hid (new_at u10 (.cells [.int .i64 0, .int .i64 0, .slice none 0 0].toArray 25 (0, 0)) rfl); refine wpList_store_at rfl 25 _ _ rfl u10.heap.size 0 rfl _ rfl g10 rfl [.int .i64 0, .int .i64 0, .slice none 0 0].toArray 25 HAL.out (by rw [hl10]; decide) ho10 (by rw [hl10]; exact size_implGrid) ?_; intro u11 hW; have hM11 := Moved.row hW; have hg11 := (row_turn HAL.out hW (cur' := g10) (by rw [List.take_zero, List.nil_append, List.drop_eq_nil_of_le (by rw [hl10]; decide), List.append_nil])); clear hW HAL))
  have hal11 := bel_alloc (Below.refl u10.heap.size u10) (.cells [.int .i64 0, .int .i64 0, .slice none 0 0].toArray 25 (0, 0))
  have hbn := hM11.below hal11 (Nat.le_refl _)
  have HR11 := Lib.hid (Rep.mono HR10.out hbn)
  have HG11 := Lib.hid (Rep.mono HG10.out hbn)
  have HB11 := Lib.hid (bel_next HB10.out hbn)
  have hr11 := (hbn.block T hT10).trans hr10
  have hT11 : T < u11.heap.size := Nat.lt_of_lt_of_le hT10 hbn.size
  have hG11 : u10.heap.size < u11.heap.size := (Array.getElem?_eq_some_iff.1 hg11).1
  obtain ⟨G, hG⟩ : ∃ G, G = u10.heap.size := ⟨_, rfl⟩
  rw [← hG] at hg11 hG11 ⊢
  clear hal11 hbn hM11 hr10 HR10 HG10 HB10 hT10 hG hT9 HR9 HB9 ho10 n hn
  (try simp only [Act.put, List.getElem_toArray, List.getElem_cons_succ, List.getElem_cons_zero, List.setIfInBounds_toArray, List.set_cons_zero, List.set_cons_succ])
  have k8 : u11.cell? ⟨T, 8, none⟩ = some (.bool x.OnAlt) := cell_at hr11 rfl
  go_cut [38] from 33 to 38 (fun c wx => c = .bool (x.OnAlt || decide ((x.Back.length : Int) = 0)) ∧ u11 = wx)
  case first =>
    cases ho : x.OnAlt
    · rw [ho] at k8
      have HO := Lib.hid ho
      by_cases hz : (x.Back.length : Int) = 0
      · have d1 : decide ((x.Back.length : Int) = 0) = true := decide_eq_true hz
        have d2 : ((x.Back.length : Int) == 0) = true := by rw [hz]; rfl
        have HD := Lib.hid d1
        clear hz ho
        go_wp2_with fail
        go_meet
        exact ⟨by rw [HO.out, HD.out]; rfl, rfl⟩
      · have d1 : decide ((x.Back.length : Int) = 0) = false := decide_eq_false hz
        have d2 : ((x.Back.length : Int) == 0) = false := beq_eq_false_iff_ne.2 hz
        have HD := Lib.hid d1
        clear hz ho
        go_wp2_with fail
        go_meet
        exact ⟨by rw [HO.out, HD.out]; rfl, rfl⟩
    · rw [ho] at k8
      have HO := Lib.hid ho
      clear ho
      go_wp2_with fail
      go_meet
      exact ⟨by rw [HO.out]; rfl, rfl⟩
  case rest =>
  obtain ⟨rfl, rfl⟩ := hcut
  clear k8
  cases hs : (x.OnAlt || decide ((x.Back.length : Int) = 0))
  · have HS := Lib.hid hs
    have HFULL := Lib.hid (look_full HOK.out hs)
    have HMORE := Lib.hid (look_more HOK.out hs)
    obtain ⟨r, l2, hbr⟩ : ∃ r l2, x.Back = r :: l2 := by
      cases hb : x.Back with
      | nil => rw [hb] at hs; simp at hs
      | cons r l2 => exact ⟨r, l2, rfl⟩
    have HBR := Lib.hid hbr
    obtain ⟨-, -, -, hbk⟩ := scr_parts HR11.out
    obtain ⟨a4, c4, e4, -, hbk2⟩ := hbk
    obtain ⟨b3, off3, e5, hbk3⟩ := hbk2 (by rw [hbr]; simp)
    cases e4
    subst e5
    obtain ⟨rr, hrr, hcr⟩ := hbk3 0 r (by rw [hbr]; rfl)
    obtain ⟨vr, rfl, hrc⟩ := DRow.rep_iff.1 hrr
    have kr0 := hcr 0 vr rfl
    obtain ⟨ar, cr, rfl, ⟨hr5, hr6⟩, -, hrc⟩ := cells_open hrc
    have KR := Lib.hid (show u11.cell? ⟨b3, off3, none⟩ = some (.slice ar r.Cells.length cr) from by simpa using kr0)
    have HRC := Lib.hid hrc
    obtain ⟨w1, w2, -⟩ := ok_in HOK.out
    obtain ⟨m, hm⟩ : ∃ m : Nat, x.W = (m : Int) := ⟨x.W.toNat, by omega⟩
    have HM := Lib.hid hm
    have hm120 : m ≤ 120 := by omega
    have hne1 : 1 ≤ x.Back.length := by rw [hbr]; simp
    have HRT := Lib.hid hr11
    have HRG := Lib.hid hg11
    clear hs hbr hbk2 hbk3 hrr hcr kr0 hrc hm w1 w2 hr11 hg11
    go_wp2_with fail
    go_loopw [6] (fun iv wr => ∃ k : Nat, k ≤ m ∧ iv = .int .i64 (k : Int) ∧ Hid (Below u11.heap.size u11 wr)) (fun iv _ => m - (intOf iv).toNat)
    case atStart => exact ⟨0, Nat.zero_le _, rfl, Below.refl _ _⟩
    case round =>
      obtain ⟨k, hk, rfl, HW⟩ := hrel
      have hrT := (HW.out.block T hT11).trans HRT.out
      have hrG := (HW.out.block G hG11).trans HRG.out
      have HRw := Lib.hid (Rep.mono HR11.out HW.out)
      have HGw := Lib.hid (Rep.mono HG11.out HW.out)
      have k0 : wr.cell? ⟨T, 0, none⟩ = some (.int .i64 (m : Int)) := by rw [← HM.out]; exact cell_at hrT rfl
      by_cases hkm : k < m
      · have d1 : decide ((k : Int) < (m : Int)) = true := decide_eq_true (by omega)
        have kB : wr.cell? ⟨T, 30, none⟩ = some (.slice (some ⟨b3, off3, none⟩) x.Back.length c3) := cell_at hrT rfl
        have kR : wr.cell? ⟨b3, off3, none⟩ = some (.slice ar r.Cells.length cr) := (HW.out.cell (p := ⟨b3, off3, none⟩) (World.block_lt_of_cell? u11 _ KR.out)).trans KR.out
        have hb30 : b3 < wr.heap.size := World.block_lt_of_cell? wr _ kR
        have hTr : T < wr.heap.size := (Array.getElem?_eq_some_iff.1 hrT).1
        have b0 : (0 : Int) < (x.Back.length : Int) := by omega
        have hbz : wr.heap[wr.heap.size]? = none := by simp
        obtain ⟨c, hc⟩ : ∃ c, c = r.Cells[k]?.getD blankC := ⟨_, rfl⟩
        have HCE := Lib.hid hc
        clear hc hbz
        go_upto_region 14 with (first
          | ((with_reducible (show wpList _ _ _ (Oper.mk _ (Op.store 37 (Operand.tmp 7) (Operand.tmp 49)) _ _ _ _ :: _) _ _)); have HAL := Lib.hid (new_at wr (.cells [.int .i64 0, .int .i64 0, .int .i64 0, .bool false, .bool false, .bool false].toArray 37 (0, 0)) rfl); refine wpList_store_at rfl 37 _ _ rfl wr.heap.size 0 rfl _ rfl (cv blankC) rfl [.int .i64 0, .int .i64 0, .int .i64 0, .bool false, .bool false, .bool false].toArray 37 HAL.out (Nat.le_of_ble_eq_true rfl) (by simp [cv, Value.oneCell']) size_implCell ?_; intro V1 hW; (try rw [act_put_none]); have hM1 := Moved.row hW; have hrB := (row_turn HAL.out hW (cur' := cv blankC) rfl); clear hW HAL k0))
        have hbn1 := hM1.below (bel_alloc (Below.refl wr.heap.size wr) (.cells [.int .i64 0, .int .i64 0, .int .i64 0, .bool false, .bool false, .bool false].toArray 37 (0, 0))) (Nat.le_refl _)
        replace kB := (hbn1.cell (p := ⟨T, 30, none⟩) hTr).trans kB
        replace kR := (hbn1.cell (p := ⟨b3, off3, none⟩) hb30).trans kR
        clear hM1
        (try simp only [Act.put, List.getElem_toArray, List.getElem_cons_succ, List.getElem_cons_zero, List.setIfInBounds_toArray, List.set_cons_zero, List.set_cons_succ])
        by_cases hkr : k < r.Cells.length
        · have d2 : decide ((k : Int) < (r.Cells.length : Int)) = true := decide_eq_true (by omega)
          have n0 : (0 : Int) ≤ (k : Int) := by omega
          have n1 : (k : Int) < (r.Cells.length : Int) := by omega
          obtain ⟨bc, oc, rfl, hcc⟩ := HRC.out (by intro e; rw [e] at hkr; simp at hkr)
          have hcx : r.Cells[k]? = some c := by rw [HCE.out, List.getElem?_eq_getElem hkr]; rfl
          have HCX := Lib.hid hcx
          have HCC := Lib.hid (fun (j : Nat) u (hu : (cvs r.Cells)[j]? = some u) => ((bel_next HW.out hbn1).cell (p := ⟨bc, oc + j, none⟩) (World.block_lt_of_cell? u11 _ (hcc j u hu))).trans (hcc j u hu))
          clear hcc hcx
          go_upto_region 16 with (first
            | ((with_reducible (show wpList _ _ _ (Oper.mk _ (Op.load 37 _) _ _ _ _ :: _) _ _)); refine wpList_load_agg rfl 37 _ rfl bc (oc + k * 6) rfl (cv c) _ (fun j u hu => by rw [Nat.add_assoc]; exact HCC.out _ u (cvs_get HCX.out hu)) Try.underlying37 size_implCell ?_)
            | ((with_reducible (show wpList _ _ _ (Oper.mk _ (Op.store 37 (Operand.tmp 7) (Operand.tmp 65)) _ _ _ _ :: _) _ _)); refine wpList_store_at rfl 37 _ _ rfl wr.heap.size 0 rfl _ rfl (cv c) rfl (cv blankC).toArray 37 hrB (Nat.le_of_ble_eq_true rfl) (by simp [cv, Value.oneCell']) size_implCell ?_; intro V2 hW; (try rw [act_put_none]); have hMV2 := Moved.row hW; have hrV2 := (row_turn hrB hW (cur' := (cv c)) rfl); clear hW))
          have hbn2 := hMV2.below hbn1 (Nat.le_refl _)
          clear hbn1 hrB hMV2 kB kR
          have hbn1 := hbn2
          have hrB := hrV2
          clear hbn2 hrV2
          (try simp only [Act.put, List.getElem_toArray, List.getElem_cons_succ, List.getElem_cons_zero, List.setIfInBounds_toArray, List.set_cons_zero, List.set_cons_succ])
          have hgd : Try.prog.eqGuardType Try.prog.depth 37 = false := by kernel_rfl
          have heq : ∀ w, (Op.equalIn 10000 37 (.agg (cv c).toArray) (.agg (cv c).toArray)).run Try.prog w = .ok true w := fun w => eq_cell_refl c w
          have hgG := (hbn1.block G (by have := HW.out.size; omega)).trans hrG
          go_wp2_with fail
          refine wp_region_chain 4 (fun w' => w'.rangeAt G 0 g10 ∧ w'.rangeAt wr.heap.size 0 (cv c)) (by kernel_rfl) ⟨range_row (w := V2.drew) (cs := g10) hgG, range_row (w := V2.drew) (cs := cv c) hrB⟩ (fun hHeld => ?_)
          have hbd := bel_drew V2
          obtain ⟨u12, hWd⟩ : ∃ W, W = V2.drew := ⟨_, rfl⟩
          rw [← hWd] at hHeld hbd ⊢
          clear hWd
          have HW12 := Lib.hid (bel_next (bel_next HW.out hbn1) hbd)
          have HG12 := Lib.hid (show Rep.rep u12 g10 ({ W := x.W, H := x.H, Cells := (lookAll x).take (x.W.toNat * x.H.toNat) } : DGrid) from by rw [← HFULL.out]; exact Rep.mono HG11.out HW12.out)
          clear hbd hgG hrB hbn1
          (refine wpChain_take (i := 0) rfl rfl rfl (by kernel_rfl) (by kernel_rfl) (by kernel_rfl) (by kernel_rfl) (fun _ _ _ h => h) (yieldsL_struct (by rfl) 25 _ rfl G 0 rfl g10 _ (fun _ h => h.1) Try.underlying25 rfl (by rw [hl10]; exact size_implGrid)) hHeld ?_; (try simp only [Act.put, List.getElem_toArray, List.getElem_cons_succ, List.getElem_cons_zero, List.setIfInBounds_toArray, List.set_cons_zero, List.set_cons_succ]))
          (refine wpChain_take (i := 1) (v := ?_) rfl rfl rfl (by kernel_rfl) (by kernel_rfl) (by kernel_rfl) (by kernel_rfl) (fun _ _ _ h => h) (.inl ⟨by rfl, ?_⟩) hHeld ?_; rotate_left; (focus (intro wq hwq; go_simp; (try with_reducible rfl))); (try simp only [Act.put, List.getElem_toArray, List.getElem_cons_succ, List.getElem_cons_zero, List.setIfInBounds_toArray, List.set_cons_zero, List.set_cons_succ]))
          (refine wpChain_take (i := 3) rfl rfl rfl (by kernel_rfl) (by kernel_rfl) (by kernel_rfl) (by kernel_rfl) (fun _ _ _ h => h) (yieldsL_struct (by rfl) 37 _ rfl wr.heap.size 0 rfl (cv c) _ (fun _ h => h.2) Try.underlying37 rfl size_implCell) hHeld ?_; (try simp only [Act.put, List.getElem_toArray, List.getElem_cons_succ, List.getElem_cons_zero, List.setIfInBounds_toArray, List.set_cons_zero, List.set_cons_succ]))
          refine wpChain_step (i := 2) rfl (by kernel_rfl) (fun K hK => ?_)
          go_simp
          refine (impl_GridAt' u12 _ _ k HG12.out (full_ok HOK.out) (show (k : Int) < x.W by rw [HM.out]; omega)).mono ?_
          rintro e u13 ⟨_, rfl, ⟨c', hc', rfl⟩, hb⟩
          have hcc : c' = c := by
            rw [full_row HOK.out HBR.out (show (k : Int) < x.W by rw [HM.out]; omega)] at hc'
            rw [HCE.out]
            exact (Option.some.inj hc').symm
          subst hcc
          have HW13 := Lib.hid (bel_next HW12.out hb)
          clear hc'
          refine hK.out _ _ ⟨range_step hb hHeld.1, range_step hb hHeld.2⟩ ?_
          replace hHeld : _ ∧ _ := ⟨range_step hb hHeld.1, range_step hb hHeld.2⟩
          clear hK K hb
          (try simp only [Act.put, List.getElem_toArray, List.getElem_cons_succ, List.getElem_cons_zero, List.setIfInBounds_toArray, List.set_cons_zero, List.set_cons_succ])
          refine wpChain_step (i := 4) rfl (by kernel_rfl) (fun K hK => ?_)
          go_simp
          refine hK.out _ _ hHeld ?_
          clear hK K
          (try simp only [Act.put, List.getElem_toArray, List.getElem_cons_succ, List.getElem_cons_zero, List.setIfInBounds_toArray, List.set_cons_zero, List.set_cons_succ])
          refine wpChain_end (by kernel_rfl) ?_
          go_wp2_with fail
          go_roundw
          case rel => exact ⟨k + 1, by omega, by go_num, HW13.out⟩
          case measure => simp [intOf]; omega
        · have d2 : decide ((k : Int) < (r.Cells.length : Int)) = false := decide_eq_false (by omega)
          have hcb : c = blankC := by rw [HCE.out, List.getElem?_eq_none (by omega)]; rfl
          rw [← hcb] at hrB
          go_upto_region 16 with fail
          clear kB kR hcb
          have hgd : Try.prog.eqGuardType Try.prog.depth 37 = false := by kernel_rfl
          have heq : ∀ w, (Op.equalIn 10000 37 (.agg (cv c).toArray) (.agg (cv c).toArray)).run Try.prog w = .ok true w := fun w => eq_cell_refl c w
          have hgG := (hbn1.block G (by have := HW.out.size; omega)).trans hrG
          go_wp2_with fail
          refine wp_region_chain 4 (fun w' => w'.rangeAt G 0 g10 ∧ w'.rangeAt wr.heap.size 0 (cv c)) (by kernel_rfl) ⟨range_row (w := V1.drew) (cs := g10) hgG, range_row (w := V1.drew) (cs := cv c) hrB⟩ (fun hHeld => ?_)
          have hbd := bel_drew V1
          obtain ⟨u12, hWd⟩ : ∃ W, W = V1.drew := ⟨_, rfl⟩
          rw [← hWd] at hHeld hbd ⊢
          clear hWd
          have HW12 := Lib.hid (bel_next (bel_next HW.out hbn1) hbd)
          have HG12 := Lib.hid (show Rep.rep u12 g10 ({ W := x.W, H := x.H, Cells := (lookAll x).take (x.W.toNat * x.H.toNat) } : DGrid) from by rw [← HFULL.out]; exact Rep.mono HG11.out HW12.out)
          clear hbd hgG hrB hbn1
          (refine wpChain_take (i := 0) rfl rfl rfl (by kernel_rfl) (by kernel_rfl) (by kernel_rfl) (by kernel_rfl) (fun _ _ _ h => h) (yieldsL_struct (by rfl) 25 _ rfl G 0 rfl g10 _ (fun _ h => h.1) Try.underlying25 rfl (by rw [hl10]; exact size_implGrid)) hHeld ?_; (try simp only [Act.put, List.getElem_toArray, List.getElem_cons_succ, List.getElem_cons_zero, List.setIfInBounds_toArray, List.set_cons_zero, List.set_cons_succ]))
          (refine wpChain_take (i := 1) (v := ?_) rfl rfl rfl (by kernel_rfl) (by kernel_rfl) (by kernel_rfl) (by kernel_rfl) (fun _ _ _ h => h) (.inl ⟨by rfl, ?_⟩) hHeld ?_; rotate_left; (focus (intro wq hwq; go_simp; (try with_reducible rfl))); (try simp only [Act.put, List.getElem_toArray, List.getElem_cons_succ, List.getElem_cons_zero, List.setIfInBounds_toArray, List.set_cons_zero, List.set_cons_succ]))
          (refine wpChain_take (i := 3) rfl rfl rfl (by kernel_rfl) (by kernel_rfl) (by kernel_rfl) (by kernel_rfl) (fun _ _ _ h => h) (yieldsL_struct (by rfl) 37 _ rfl wr.heap.size 0 rfl (cv c) _ (fun _ h => h.2) Try.underlying37 rfl size_implCell) hHeld ?_; (try simp only [Act.put, List.getElem_toArray, List.getElem_cons_succ, List.getElem_cons_zero, List.setIfInBounds_toArray, List.set_cons_zero, List.set_cons_succ]))
          refine wpChain_step (i := 2) rfl (by kernel_rfl) (fun K hK => ?_)
          go_simp
          refine (impl_GridAt' u12 _ _ k HG12.out (full_ok HOK.out) (show (k : Int) < x.W by rw [HM.out]; omega)).mono ?_
          rintro e u13 ⟨_, rfl, ⟨c', hc', rfl⟩, hb⟩
          have hcc : c' = c := by
            rw [full_row HOK.out HBR.out (show (k : Int) < x.W by rw [HM.out]; omega)] at hc'
            rw [HCE.out]
            exact (Option.some.inj hc').symm
          subst hcc
          have HW13 := Lib.hid (bel_next HW12.out hb)
          clear hc'
          refine hK.out _ _ ⟨range_step hb hHeld.1, range_step hb hHeld.2⟩ ?_
          replace hHeld : _ ∧ _ := ⟨range_step hb hHeld.1, range_step hb hHeld.2⟩
          clear hK K hb
          (try simp only [Act.put, List.getElem_toArray, List.getElem_cons_succ, List.getElem_cons_zero, List.setIfInBounds_toArray, List.set_cons_zero, List.set_cons_succ])
          refine wpChain_step (i := 4) rfl (by kernel_rfl) (fun K hK => ?_)
          go_simp
          refine hK.out _ _ hHeld ?_
          clear hK K
          (try simp only [Act.put, List.getElem_toArray, List.getElem_cons_succ, List.getElem_cons_zero, List.setIfInBounds_toArray, List.set_cons_zero, List.set_cons_succ])
          refine wpChain_end (by kernel_rfl) ?_
          go_wp2_with fail
          go_roundw
          case rel => exact ⟨k + 1, by omega, by go_num, HW13.out⟩
          case measure => simp [intOf]; omega
      · have d1 : decide ((k : Int) < (m : Int)) = false := decide_eq_false (by omega)
        have HWB := Lib.hid (bel_next HB11.out HW.out)
        have wn : IntKind.i64.wrap ((x.Back.length : Int) + 5) = (x.Back.length : Int) + 5 := by rw [IntKind.wrap_i64]; omega
        go_wp2_with fail
        refine wp_region_chain 5 (fun w' => w'.rangeAt T 0 (scrRow x v0 v1 v2 (.slice (some ⟨b3, off3, none⟩) x.Back.length c3)) ∧ w'.rangeAt G 0 g10) (by kernel_rfl) ⟨range_row (w := wr.drew) (cs := (scrRow x v0 v1 v2 (.slice (some ⟨b3, off3, none⟩) x.Back.length c3))) hrT, range_row (w := wr.drew) (cs := g10) hrG⟩ (fun hHeld => ?_)
        have hbd := bel_drew wr
        obtain ⟨u12, hWd⟩ : ∃ W, W = wr.drew := ⟨_, rfl⟩
        rw [← hWd] at hHeld hbd ⊢
        clear hWd
        have HR12 := Lib.hid (Rep.mono HRw.out hbd)
        have HG12 := Lib.hid (Rep.mono HGw.out hbd)
        have HB12 := Lib.hid (bel_next HWB.out hbd)
        clear hbd hrT hrG HRw HGw k0
        (refine wpChain_take (i := 0) rfl rfl rfl (by kernel_rfl) (by kernel_rfl) (by kernel_rfl) (by kernel_rfl) (fun _ _ _ h => h) (yieldsL_struct (by rfl) 31 _ rfl T 0 rfl (scrRow x v0 v1 v2 (.slice (some ⟨b3, off3, none⟩) x.Back.length c3)) _ (fun _ h => h.1) Try.underlying31 rfl size_implScr) hHeld ?_; (try simp only [Act.put, List.getElem_toArray, List.getElem_cons_succ, List.getElem_cons_zero, List.setIfInBounds_toArray, List.set_cons_zero, List.set_cons_succ]))
        (refine wpChain_take (i := 1) (v := ?_) rfl rfl rfl (by kernel_rfl) (by kernel_rfl) (by kernel_rfl) (by kernel_rfl) (fun _ _ _ h => h) (.inl ⟨by rfl, ?_⟩) hHeld ?_; rotate_left; (focus (intro wq hwq; go_simp; (try with_reducible rfl))); (try simp only [Act.put, List.getElem_toArray, List.getElem_cons_succ, List.getElem_cons_zero, List.setIfInBounds_toArray, List.set_cons_zero, List.set_cons_succ]))
        (refine wpChain_take (i := 2) (v := ?_) rfl rfl rfl (by kernel_rfl) (by kernel_rfl) (by kernel_rfl) (by kernel_rfl) (fun _ _ _ h => h) (.inl ⟨by rfl, ?_⟩) hHeld ?_; rotate_left; (focus (intro wq hwq; go_simp; (try with_reducible rfl))); (try simp only [Act.put, List.getElem_toArray, List.getElem_cons_succ, List.getElem_cons_zero, List.setIfInBounds_toArray, List.set_cons_zero, List.set_cons_succ]))
        (refine wpChain_take (i := 4) rfl rfl rfl (by kernel_rfl) (by kernel_rfl) (by kernel_rfl) (by kernel_rfl) (fun _ _ _ h => h) (yieldsL_struct (by rfl) 25 _ rfl G 0 rfl g10 _ (fun _ h => h.2) Try.underlying25 rfl (by rw [hl10]; exact size_implGrid)) hHeld ?_; (try simp only [Act.put, List.getElem_toArray, List.getElem_cons_succ, List.getElem_cons_zero, List.setIfInBounds_toArray, List.set_cons_zero, List.set_cons_succ]))
        refine wpChain_step (i := 3) rfl (by kernel_rfl) (fun K hK => ?_)
        go_simp
        refine (impl_Look' u12 _ x ((x.Back.length : Int) + 5) HR12.out).mono ?_
        rintro e u13 ⟨_, rfl, ⟨g13, rfl, hF⟩, hb⟩
        have HG13 := Lib.hid (show Rep.rep u13 g13 (lookG x (x.Back.length : Int)) from by rw [← HMORE.out]; exact hF.rep)
        have HG14 := Lib.hid (Rep.mono HG12.out hb)
        have HB13 := Lib.hid (bel_next HB12.out hb)
        clear hF
        refine hK.out _ _ ⟨range_step hb hHeld.1, range_step hb hHeld.2⟩ ?_
        replace hHeld : _ ∧ _ := ⟨range_step hb hHeld.1, range_step hb hHeld.2⟩
        clear hK K hb
        (try simp only [Act.put, List.getElem_toArray, List.getElem_cons_succ, List.getElem_cons_zero, List.setIfInBounds_toArray, List.set_cons_zero, List.set_cons_succ])
        refine wpChain_step (i := 5) rfl (by kernel_rfl) (fun K hK => ?_)
        go_simp
        refine (impl_SameGrid_refl u13 g13 g10 (lookG x (x.Back.length : Int)) HG13.out HG14.out).mono ?_
        rintro e u14 ⟨_, rfl, rfl, hb⟩
        have HB14 := Lib.hid (bel_next HB13.out hb)
        refine hK.out _ _ ⟨range_step hb hHeld.1, range_step hb hHeld.2⟩ ?_
        replace hHeld : _ ∧ _ := ⟨range_step hb hHeld.1, range_step hb hHeld.2⟩
        clear hK K hb
        (try simp only [Act.put, List.getElem_toArray, List.getElem_cons_succ, List.getElem_cons_zero, List.setIfInBounds_toArray, List.set_cons_zero, List.set_cons_succ])
        refine wpChain_step (i := 6) rfl (by kernel_rfl) (fun K hK => ?_)
        go_simp
        refine hK.out _ _ hHeld ?_
        clear hK K
        (try simp only [Act.put, List.getElem_toArray, List.getElem_cons_succ, List.getElem_cons_zero, List.setIfInBounds_toArray, List.set_cons_zero, List.set_cons_succ])
        refine wpChain_end (by kernel_rfl) ?_
        go_wp2_with fail
        go_ret
        exact ⟨rfl, HB14.out⟩
  · have HE := Lib.hid (look_alt (n := (x.Back.length : Int)) HOK.out hs)
    have hrT := hr11
    have hrG := hg11
    clear hs
    go_wp2_with fail
    refine wp_region_chain 3 (fun w' => w'.rangeAt T 0 (scrRow x v0 v1 v2 (.slice a3 x.Back.length c3)) ∧ w'.rangeAt G 0 g10) (by kernel_rfl) ⟨range_row (w := u11.drew) (cs := (scrRow x v0 v1 v2 (.slice a3 x.Back.length c3))) hrT, range_row (w := u11.drew) (cs := g10) hrG⟩ (fun hHeld => ?_)
    have hbd := bel_drew u11
    obtain ⟨u12, hWd⟩ : ∃ W, W = u11.drew := ⟨_, rfl⟩
    rw [← hWd] at hHeld hbd ⊢
    clear hWd
    have HR12 := Lib.hid (Rep.mono HR11.out hbd)
    have HG12 := Lib.hid (show Rep.rep u12 g10 (shownG x) from by rw [← HE.out]; exact Rep.mono HG11.out hbd)
    have HB12 := Lib.hid (bel_next HB11.out hbd)
    clear hbd hrT hrG hr11 hg11 HR11 HG11 HB11
    (refine wpChain_take (i := 0) rfl rfl rfl (by kernel_rfl) (by kernel_rfl) (by kernel_rfl) (by kernel_rfl) (fun _ _ _ h => h) (yieldsL_struct (by rfl) 25 _ rfl G 0 rfl g10 _ (fun _ h => h.2) Try.underlying25 rfl (by rw [hl10]; exact size_implGrid)) hHeld ?_; (try simp only [Act.put, List.getElem_toArray, List.getElem_cons_succ, List.getElem_cons_zero, List.setIfInBounds_toArray, List.set_cons_zero, List.set_cons_succ]))
    (refine wpChain_take (i := 1) rfl rfl rfl (by kernel_rfl) (by kernel_rfl) (by kernel_rfl) (by kernel_rfl) (fun _ _ _ h => h) (yieldsL_struct (by rfl) 31 _ rfl T 0 rfl (scrRow x v0 v1 v2 (.slice a3 x.Back.length c3)) _ (fun _ h => h.1) Try.underlying31 rfl size_implScr) hHeld ?_; (try simp only [Act.put, List.getElem_toArray, List.getElem_cons_succ, List.getElem_cons_zero, List.setIfInBounds_toArray, List.set_cons_zero, List.set_cons_succ]))
    refine wpChain_step (i := 2) rfl (by kernel_rfl) (fun K hK => ?_)
    go_simp
    refine (spec_Shown' u12 _ x HR12.out HOK.out).mono ?_
    rintro e u13 ⟨_, rfl, ⟨g13, rfl, hF⟩, hb⟩
    have HG13 := Lib.hid hF.rep
    have HG14 := Lib.hid (Rep.mono HG12.out hb)
    have HB13 := Lib.hid (bel_next HB12.out hb)
    clear hF
    refine hK.out _ _ ⟨range_step hb hHeld.1, range_step hb hHeld.2⟩ ?_
    replace hHeld : _ ∧ _ := ⟨range_step hb hHeld.1, range_step hb hHeld.2⟩
    clear hK K hb
    (try simp only [Act.put, List.getElem_toArray, List.getElem_cons_succ, List.getElem_cons_zero, List.setIfInBounds_toArray, List.set_cons_zero, List.set_cons_succ])
    refine wpChain_step (i := 3) rfl (by kernel_rfl) (fun K hK => ?_)
    go_simp
    refine (impl_SameGrid_refl u13 g10 g13 (shownG x) HG14.out HG13.out).mono ?_
    rintro e u14 ⟨_, rfl, rfl, hb⟩
    have HB14 := Lib.hid (bel_next HB13.out hb)
    refine hK.out _ _ ⟨range_step hb hHeld.1, range_step hb hHeld.2⟩ ?_
    replace hHeld : _ ∧ _ := ⟨range_step hb hHeld.1, range_step hb hHeld.2⟩
    clear hK K hb
    (try simp only [Act.put, List.getElem_toArray, List.getElem_cons_succ, List.getElem_cons_zero, List.setIfInBounds_toArray, List.set_cons_zero, List.set_cons_succ])
    refine wpChain_step (i := 4) rfl (by kernel_rfl) (fun K hK => ?_)
    go_simp
    refine hK.out _ _ hHeld ?_
    clear hK K
    (try simp only [Act.put, List.getElem_toArray, List.getElem_cons_succ, List.getElem_cons_zero, List.setIfInBounds_toArray, List.set_cons_zero, List.set_cons_succ])
    refine wpChain_end (by kernel_rfl) ?_
    go_wp2_with fail
    go_ret
    exact ⟨rfl, HB14.out⟩
end Go.Proofs.Ytaobgfneeijpmaa
