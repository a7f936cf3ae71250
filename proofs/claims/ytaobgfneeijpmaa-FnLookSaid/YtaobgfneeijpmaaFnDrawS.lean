/- The walk of l09Draw: a screen on which something was written. -/
import Derived.Test.YtaobgfneeijpmaaFnPen
set_option linter.unusedSimpArgs false
set_option linter.unusedVariables false
namespace Go.Mux
open Go.RowKit
/-- The controls that are drawn. -/
def ctls : List Int := [8, 9, 10, 13]
theorem ctl_in {m : Nat} {x : Int} (h : ctls[m]? = some x) : x = 8 ∨ x = 9 ∨ x = 10 ∨ x = 13 := by
  have hm := List.mem_of_getElem? h
  simpa only [ctls, List.mem_cons, List.not_mem_nil, or_false] using hm
end Go.Mux
namespace Go.Proofs.Ytaobgfneeijpmaa
open Go.RowKit Go.Mux
set_option maxRecDepth 100000 in
set_option maxHeartbeats 2000000 in
theorem spec_l09Draw (w0 w : World) (C : Nat) (hc : Cur w0 C w) (hb : Below w0.heap.size w0 w) :
    Calls Try.prog 20 #[.pointer (some ⟨C, 0, none⟩)] w (fun e w' => ∃ cs y, e = .returned (.agg cs.toArray) ∧ RepAway 0 0 w.heap.size w' cs y ∧ scrOkB y = true ∧ Below w0.heap.size w0 w') := by
  have HC := Lib.hid hc
  have HB := Lib.hid hb
  have hC := hc.base
  have hCl := hc.lt
  clear hc hb
  go_enter Try.func20, Try.ntmps20
  go_wp2_with fail
  generalize hwb : World.alloc w _ = W0
  have hb0 : Below w.heap.size w W0 := by rw [← hwb]; exact bel_alloc (Below.refl _ _) _
  have hr0 : W0.heap[w.heap.size]? = some (.cells zeroScr.toArray 31 (0, 0)) := by rw [← hwb]; exact new_at _ _ rfl
  have hz0 : w.heap.size < W0.heap.size := (Array.getElem?_eq_some_iff.1 hr0).1
  have HC0 := Lib.hid (HC.out.call hb0)
  have HB0 := Lib.hid (HB.out.trans (hb0.mono HB.out.size))
  clear hwb hb0
  refine (spec_l01Below w0 _ C 10 HC0.out HB0.out (by omega) (by omega)).mono ?_
  rintro e W1 ⟨n1, rfl, ha1, hb1, hc1, hp1⟩
  have HC1 := Lib.hid hc1
  have HB1 := Lib.hid (hp1.below HB0.out hC HB0.out.size)
  have hr1 := (hp1.other w.heap.size hz0 (by omega)).trans hr0
  have hz1 : w.heap.size < W1.heap.size := Nat.lt_of_lt_of_le hz0 hp1.size
  have i1 : IntKind.i64.wrap (1 + n1) = 1 + n1 := by rw [IntKind.wrap_i64]; omega
  clear hc1 hp1 hr0
  go_wp2_with fail
  refine (spec_l01Below w0 _ C 4 HC1.out HB1.out (by omega) (by omega)).mono ?_
  rintro e W2 ⟨n2, rfl, ha2, hb2, hc2, hp2⟩
  have HC2 := Lib.hid hc2
  have HB2 := Lib.hid (hp2.below HB1.out hC HB1.out.size)
  have hr2 := (hp2.other w.heap.size hz1 (by omega)).trans hr1
  have hz2 : w.heap.size < W2.heap.size := Nat.lt_of_lt_of_le hz1 hp2.size
  have i2 : IntKind.i64.wrap (1 + n2) = 1 + n2 := by rw [IntKind.wrap_i64]; omega
  clear hc2 hp2 hr1
  go_wp2_with fail
  refine (spec_l01Below w0 _ C 4 HC2.out HB2.out (by omega) (by omega)).mono ?_
  rintro e W3 ⟨n3, rfl, ha3, hb3, hc3, hp3⟩
  have HC3 := Lib.hid hc3
  have HB3 := Lib.hid (hp3.below HB2.out hC HB2.out.size)
  have hr3 := (hp3.other w.heap.size hz2 (by omega)).trans hr2
  have hz3 : w.heap.size < W3.heap.size := Nat.lt_of_lt_of_le hz2 hp3.size
  clear hc3 hp3 hr2
  obtain ⟨nn, hnn⟩ : ∃ nn : Nat, (1 + n1) * (1 + n2) = (nn : Int) := ⟨((1 + n1) * (1 + n2)).toNat, (Int.toNat_of_nonneg (Int.mul_nonneg (by omega) (by omega))).symm⟩
  have HNN := Lib.hid hnn
  clear hnn
  go_wp2_with fail
  refine (spec_ScrNew _ (1 + n1) (1 + n2) n3 nn (by omega) (by omega) (by omega) (by omega) HNN.out (by omega) (by omega)).mono ?_
  rintro e W4 ⟨_, rfl, ⟨cs, y, rfl, haw, hyd⟩, hb4⟩
  have HA4 := Lib.hid haw
  have HYD := Lib.hid hyd
  obtain ⟨v0, v1, v2, v3, rfl, o0, o1, o2, o3, -⟩ := scr_shape haw.rep
  have HC4 := Lib.hid (HC3.out.call hb4)
  have HB4 := Lib.hid (HB3.out.trans (hb4.mono HB3.out.size))
  have hr4 := (hb4.block w.heap.size hz3).trans hr3
  have hz4 := hb4.size
  have ONE := Lib.hid (scrRow_one y o0 o1 o2 o3)
  clear haw hyd hb4 hr3
  go_upto_region 2 with ((with_reducible (show wpList _ _ _ (Oper.mk _ (Op.store 31 _ _) _ _ _ _ :: _) _ _)); have HAL := Lib.hid (new_at W4 (.cells zeroScr.toArray 31 (0, 0)) rfl); refine wpList_store_at rfl 31 _ _ rfl W4.heap.size 0 rfl _ rfl (scrRow y v0 v1 v2 v3) rfl zeroScr.toArray 31 HAL.out (Nat.le_of_ble_eq_true rfl) ONE.out size_implScr ?_; intro W5 hW; have hM5 := Moved.row hW; have hr5 := (row_turn HAL.out hW (cur' := (scrRow y v0 v1 v2 v3)) rfl); clear hW HAL)
  have HP5 := Lib.hid (Pen.first HC4.out HB4.out hr4 (by omega) hz3 hz4 HA4.out hM5 hr5)
  clear hr4 hM5 hr5 HA4 ONE o0 o1 o2 o3 HC4 HB4 HC3 HB3 HC2 HB2 HC1 HB1 HC0 HB0 hz0 hz1 hz2 hz3 hz4
  obtain ⟨T, hTT⟩ : ∃ T, T = W4.heap.size := ⟨_, rfl⟩
  rw [← hTT] at HP5 ⊢
  clear hTT
  (try simp only [Act.put, List.getElem_toArray, List.getElem_cons_succ, List.getElem_cons_zero, List.setIfInBounds_toArray, List.set_cons_zero, List.set_cons_succ])
  go_wp2_with fail
  refine (spec_l01Below w0 W5 C 14 HP5.out.cur HP5.out.bel (by omega) (by omega)).mono ?_
  rintro e W6 ⟨n6, rfl, a6, b6, hcd, hpp⟩
  have HP6 := Lib.hid (HP5.out.draw hcd hpp)
  clear hcd hpp HP5
  have hA := HP6.out.ca
  have hAT := HP6.out.ta
  go_wp2_with fail
  go_loopw [5] (fun iv wr => ∃ n : Int, iv = .int .i64 n ∧ 0 ≤ n ∧ n ≤ 13 ∧ ∃ cs y, Hid (Pen w0 C w.heap.size T wr cs y) ∧ Hid (drawn y)) (fun iv _ => (intOf iv).toNat)
  case atStart => exact ⟨_, rfl, a6, b6, _, _, HP6.out, HYD.out⟩
  case round =>
    clear HP6 HYD
    obtain ⟨n, rfl, hn0, hn13, cs, z, HP, HY⟩ := hrel
    obtain ⟨q0, q1, q2, q3, rfl, o0, o1, o2, o3, -⟩ := scr_shape HP.out.rep
    obtain ⟨y, hyz⟩ : ∃ y, y = z := ⟨_, rfl⟩
    rw [← hyz] at HP HY
    obtain ⟨v0, h0⟩ : ∃ v, v = q0 := ⟨_, rfl⟩
    obtain ⟨v1, h1⟩ : ∃ v, v = q1 := ⟨_, rfl⟩
    obtain ⟨v2, h2⟩ : ∃ v, v = q2 := ⟨_, rfl⟩
    obtain ⟨v3, h3⟩ : ∃ v, v = q3 := ⟨_, rfl⟩
    rw [← h0, ← h1, ← h2, ← h3] at HP
    rw [← h0] at o0
    rw [← h1] at o1
    rw [← h2] at o2
    rw [← h3] at o3
    clear hyz h0 h1 h2 h3
    by_cases hn : 0 < n
    · have d0 : decide (0 < n) = true := decide_eq_true hn
      have w1 : IntKind.i64.wrap (n - 1) = n - 1 := by rw [IntKind.wrap_i64]; omega
      go_wp2_with fail
      refine (spec_l01Below w0 wr C 8 HP.out.cur HP.out.bel (by omega) (by omega)).mono ?_
      rintro e W7 ⟨k, rfl, k0, k1, hcd, hpp⟩
      replace HP := Lib.hid (HP.out.draw hcd hpp)
      clear hcd hpp
      by_cases hk5 : k < 5
      · have d1 : decide (k < 5) = true := decide_eq_true hk5
        go_wp2_with fail
        refine wp_region_chain 4 (fun w' => w'.rangeAt T 0 (scrRow y v0 v1 v2 v3)) (by kernel_rfl) (range_row (w := W7.drew) (cs := (scrRow y v0 v1 v2 v3)) (HP.out.call (bel_drew W7)).row) (fun hHeld => ?_)
        have hpd := HP.out.call (bel_drew W7)
        obtain ⟨v5, hWd⟩ : ∃ W, W = W7.drew := ⟨_, rfl⟩
        rw [← hWd] at hHeld hpd ⊢
        have HPv5 := Lib.hid hpd
        clear hWd hpd
        (refine wpChain_take (i := 0) rfl rfl rfl (by kernel_rfl) (by kernel_rfl) (by kernel_rfl) (by kernel_rfl) (fun _ _ _ h => h) (yieldsL_struct (by rfl) 31 _ rfl T 0 rfl (scrRow y v0 v1 v2 v3) _ (fun _ h => h) Try.underlying31 rfl size_implScr) hHeld ?_; (try simp only [Act.put, List.getElem_toArray, List.getElem_cons_succ, List.getElem_cons_zero, List.setIfInBounds_toArray, List.set_cons_zero, List.set_cons_succ]))
        (refine wpChain_take (i := 1) (v := ?_) rfl rfl rfl (by kernel_rfl) (by kernel_rfl) (by kernel_rfl) (by kernel_rfl) (fun _ _ _ h => h) (.inl ⟨by rfl, ?_⟩) hHeld ?_; rotate_left; (focus (intro wq hwq; go_simp; (try with_reducible rfl))); (try simp only [Act.put, List.getElem_toArray, List.getElem_cons_succ, List.getElem_cons_zero, List.setIfInBounds_toArray, List.set_cons_zero, List.set_cons_succ]))
        refine wpChain_step (i := 2) rfl (by kernel_rfl) (fun K hK => ?_)
        go_simp
        refine (spec_l06Rune w0 v5 C HPv5.out.cur HPv5.out.bel).mono ?_
        rintro e v6 ⟨r, rfl, hsh, hcd, hpp⟩
        have HPv6 := Lib.hid (HPv5.out.draw hcd hpp)
        have HSH := Lib.hid hsh
        clear hcd hpp hsh
        refine hK.out _ _ (range_row (cs := (scrRow y v0 v1 v2 v3)) HPv6.out.row) ?_
        clear hK K
        (try simp only [Act.put, List.getElem_toArray, List.getElem_cons_succ, List.getElem_cons_zero, List.setIfInBounds_toArray, List.set_cons_zero, List.set_cons_succ])
        refine wpChain_step (i := 3) rfl (by kernel_rfl) (fun K hK => ?_)
        go_simp
        refine (spec_ScrRune v6 (scrRow y v0 v1 v2 v3) y r HPv6.out.rep HY.out HSH.out).mono ?_
        rintro e v7 ⟨_, rfl, ⟨cs2, y2, rfl, haw, hyd⟩, hbl⟩
        obtain ⟨c0, c1, c2, c3, rfl, p0, p1, p2, p3, -⟩ := scr_shape haw.rep
        have hpl := HPv6.out.call hbl
        refine hK.out _ _ (range_row (cs := (scrRow y v0 v1 v2 v3)) hpl.row) ?_
        clear hK K hHeld
        (try simp only [Act.put, List.getElem_toArray, List.getElem_cons_succ, List.getElem_cons_zero, List.setIfInBounds_toArray, List.set_cons_zero, List.set_cons_succ])
        refine wpChain_store rfl rfl (by kernel_rfl) (by kernel_rfl) rfl 31 _ _ rfl T 0 rfl _ rfl (scrRow y2 c0 c1 c2 c3) rfl (scrRow y v0 v1 v2 v3).toArray 31 (RowAt.of hpl.row) (Nat.le_of_ble_eq_true rfl) (scrRow_one y2 p0 p1 p2 p3) size_implScr ?_
        intro v9 hW
        have hM9 := Moved.row hW
        have hr9 := row_turn hpl.row hW (cur' := (scrRow y2 c0 c1 c2 c3)) rfl
        have HP9 := Lib.hid (HPv6.out.give hbl haw hM9 hr9)
        have HY9 := Lib.hid hyd
        clear hW hM9 hr9 hpl haw hbl hyd
        (try simp only [Act.put, List.getElem_toArray, List.getElem_cons_succ, List.getElem_cons_zero, List.setIfInBounds_toArray, List.set_cons_zero, List.set_cons_succ])
        go_wp2_with fail
        go_roundw
        case rel => exact ⟨n - 1, rfl, (by omega), (by omega), _, _, HP9.out, HY9.out⟩
        case measure => simp [intOf]; omega
      · have d1 : decide (k < 5) = false := decide_eq_false hk5
        by_cases hk6 : k = 5
        · have d2 : decide (k = 5) = true := decide_eq_true hk6
          have d2b : (k == 5) = true := by simp [hk6]
          clear hk6
          go_wp2_with fail
          refine wp_region_chain 7 (fun w' => w'.rangeAt T 0 (scrRow y v0 v1 v2 v3)) (by kernel_rfl) (range_row (w := W7.drew) (cs := (scrRow y v0 v1 v2 v3)) (HP.out.call (bel_drew W7)).row) (fun hHeld => ?_)
          have hpd := HP.out.call (bel_drew W7)
          obtain ⟨v5, hWd⟩ : ∃ W, W = W7.drew := ⟨_, rfl⟩
          rw [← hWd] at hHeld hpd ⊢
          have HPv5 := Lib.hid hpd
          clear hWd hpd
          (refine wpChain_take (i := 0) rfl rfl rfl (by kernel_rfl) (by kernel_rfl) (by kernel_rfl) (by kernel_rfl) (fun _ _ _ h => h) (yieldsL_struct (by rfl) 31 _ rfl T 0 rfl (scrRow y v0 v1 v2 v3) _ (fun _ h => h) Try.underlying31 rfl size_implScr) hHeld ?_; (try simp only [Act.put, List.getElem_toArray, List.getElem_cons_succ, List.getElem_cons_zero, List.setIfInBounds_toArray, List.set_cons_zero, List.set_cons_succ]))
          (refine wpChain_take (i := 2) (v := ?_) rfl rfl rfl (by kernel_rfl) (by kernel_rfl) (by kernel_rfl) (by kernel_rfl) (fun _ _ _ h => h) (.inl ⟨by rfl, ?_⟩) hHeld ?_; rotate_left; (focus (intro wq hwq; go_simp; (try with_reducible rfl))); (try simp only [Act.put, List.getElem_toArray, List.getElem_cons_succ, List.getElem_cons_zero, List.setIfInBounds_toArray, List.set_cons_zero, List.set_cons_succ]))
          refine wpChain_two (i := 1) (j := 3) rfl rfl (by kernel_rfl) (fun K hK => ?_) (fun K hK => ?_)
          · go_simp
            generalize hwb : World.alloc v5 _ = v6
            have hba : Below v5.heap.size v5 v6 := by rw [← hwb]; exact bel_alloc (Below.refl _ _) _
            have hbg : v6.heap[v5.heap.size]? = some (.cells #[.int .i64 8, .int .i64 9, .int .i64 10, .int .i64 13] 3 (0, 0)) := by rw [← hwb]; exact new_at _ _ rfl
            have HPv6 := Lib.hid (HPv5.out.call hba)
            refine hK.out _ _ (range_row (cs := (scrRow y v0 v1 v2 v3)) HPv6.out.row) ?_
            clear hK K hwb hba
            (try simp only [Act.put, List.getElem_toArray, List.getElem_cons_succ, List.getElem_cons_zero, List.setIfInBounds_toArray, List.set_cons_zero, List.set_cons_succ])
            have HG := Lib.hid hbg
            obtain ⟨G, hGG⟩ : ∃ G, G = v5.heap.size := ⟨_, rfl⟩
            rw [← hGG] at HG ⊢
            have hGs : G < v6.heap.size := by rw [hGG]; exact (Array.getElem?_eq_some_iff.1 hbg).1
            have hGC : C < G := by have := HPv5.out.cur.lt; omega
            clear hbg hGG
            refine wpChain_step (i := 3) rfl (by kernel_rfl) (fun K hK => ?_)
            go_simp
            refine (spec_l01Below w0 v6 C 4 HPv6.out.cur HPv6.out.bel (by omega) (by omega)).mono ?_
            rintro e v7 ⟨x, rfl, x0, x1, hcd, hpp⟩
            have HPv7 := Lib.hid (HPv6.out.draw hcd hpp)
            replace HG := Lib.hid ((hpp.other G hGs (by omega)).trans HG.out)
            refine hK.out _ _ (range_row (cs := (scrRow y v0 v1 v2 v3)) HPv7.out.row) ?_
            replace hHeld := range_row (cs := (scrRow y v0 v1 v2 v3)) HPv7.out.row
            clear hK K hcd hpp
            (try simp only [Act.put, List.getElem_toArray, List.getElem_cons_succ, List.getElem_cons_zero, List.setIfInBounds_toArray, List.set_cons_zero, List.set_cons_succ])
            obtain ⟨m, rfl⟩ : ∃ m : Nat, x = (m : Int) := ⟨x.toNat, by omega⟩
            obtain ⟨b, hbv⟩ : ∃ b, ctls[m]? = some b := ⟨ctls[m]'(by simp [ctls]; omega), by simp⟩
            have hb4 := ctl_in hbv
            have hcell : v7.cell? ⟨G, m, none⟩ = some (.int .i64 b) := by
              rw [cell_of_row v7 _ m _ _ _ HG.out]
              have : (#[.int .i64 8, .int .i64 9, .int .i64 10, .int .i64 13] : Array Value) = (ctls.map (Value.int .i64 ·)).toArray := rfl
              rw [this, List.getElem?_toArray, List.getElem?_map, hbv]
              rfl
            have m0 : (0 : Int) ≤ (m : Int) := by omega
            have m1 : (m : Int) < 4 := by omega
            have HB4 := Lib.hid hb4
            clear hbv hb4
            refine wpChain_step (i := 4) rfl (by kernel_rfl) (fun K hK => ?_)
            go_simp
            refine hK.out _ _ hHeld ?_
            clear hK K
            (try simp only [Act.put, List.getElem_toArray, List.getElem_cons_succ, List.getElem_cons_zero, List.setIfInBounds_toArray, List.set_cons_zero, List.set_cons_succ])
            refine wpChain_step (i := 5) rfl (by kernel_rfl) (fun K hK => ?_)
            go_simp
            refine hK.out _ _ hHeld ?_
            clear hK K
            (try simp only [Act.put, List.getElem_toArray, List.getElem_cons_succ, List.getElem_cons_zero, List.setIfInBounds_toArray, List.set_cons_zero, List.set_cons_succ])
            refine wpChain_step (i := 6) rfl (by kernel_rfl) (fun K hK => ?_)
            go_simp
            refine (spec_ScrCtl v7 (scrRow y v0 v1 v2 v3) y b HPv7.out.rep HY.out HB4.out).mono ?_
            rintro e v8 ⟨_, rfl, ⟨cs2, y2, rfl, haw, hyd⟩, hbl⟩
            obtain ⟨c0, c1, c2, c3, rfl, p0, p1, p2, p3, -⟩ := scr_shape haw.rep
            have hpl := HPv7.out.call hbl
            refine hK.out _ _ (range_row (cs := (scrRow y v0 v1 v2 v3)) hpl.row) ?_
            clear hK K hHeld
            (try simp only [Act.put, List.getElem_toArray, List.getElem_cons_succ, List.getElem_cons_zero, List.setIfInBounds_toArray, List.set_cons_zero, List.set_cons_succ])
            refine wpChain_store rfl rfl (by kernel_rfl) (by kernel_rfl) rfl 31 _ _ rfl T 0 rfl _ rfl (scrRow y2 c0 c1 c2 c3) rfl (scrRow y v0 v1 v2 v3).toArray 31 (RowAt.of hpl.row) (Nat.le_of_ble_eq_true rfl) (scrRow_one y2 p0 p1 p2 p3) size_implScr ?_
            intro v9 hW
            have hM9 := Moved.row hW
            have hr9 := row_turn hpl.row hW (cur' := (scrRow y2 c0 c1 c2 c3)) rfl
            have HP9 := Lib.hid (HPv7.out.give hbl haw hM9 hr9)
            have HY9 := Lib.hid hyd
            clear hW hM9 hr9 hpl haw hbl hyd
            (try simp only [Act.put, List.getElem_toArray, List.getElem_cons_succ, List.getElem_cons_zero, List.setIfInBounds_toArray, List.set_cons_zero, List.set_cons_succ])
            go_wp2_with fail
            go_roundw
            case rel => exact ⟨n - 1, rfl, (by omega), (by omega), _, _, HP9.out, HY9.out⟩
            case measure => simp [intOf]; omega
          · go_simp
            refine (spec_l01Below w0 v5 C 4 HPv5.out.cur HPv5.out.bel (by omega) (by omega)).mono ?_
            rintro e v6 ⟨x, rfl, x0, x1, hcd, hpp⟩
            have HPv6 := Lib.hid (HPv5.out.draw hcd hpp)
            refine hK.out _ _ (range_row (cs := (scrRow y v0 v1 v2 v3)) HPv6.out.row) ?_
            clear hK K hcd hpp
            (try simp only [Act.put, List.getElem_toArray, List.getElem_cons_succ, List.getElem_cons_zero, List.setIfInBounds_toArray, List.set_cons_zero, List.set_cons_succ])
            refine wpChain_step (i := 1) rfl (by kernel_rfl) (fun K hK => ?_)
            go_simp
            generalize hwb : World.alloc v6 _ = v7
            have hba : Below v6.heap.size v6 v7 := by rw [← hwb]; exact bel_alloc (Below.refl _ _) _
            have hbg : v7.heap[v6.heap.size]? = some (.cells #[.int .i64 8, .int .i64 9, .int .i64 10, .int .i64 13] 3 (0, 0)) := by rw [← hwb]; exact new_at _ _ rfl
            have HPv7 := Lib.hid (HPv6.out.call hba)
            refine hK.out _ _ (range_row (cs := (scrRow y v0 v1 v2 v3)) HPv7.out.row) ?_
            clear hK K hwb hba
            (try simp only [Act.put, List.getElem_toArray, List.getElem_cons_succ, List.getElem_cons_zero, List.setIfInBounds_toArray, List.set_cons_zero, List.set_cons_succ])
            replace hHeld := range_row (cs := (scrRow y v0 v1 v2 v3)) HPv7.out.row
            have HG := Lib.hid hbg
            obtain ⟨G, hGG⟩ : ∃ G, G = v6.heap.size := ⟨_, rfl⟩
            rw [← hGG] at HG ⊢
            clear hbg hGG
            obtain ⟨m, rfl⟩ : ∃ m : Nat, x = (m : Int) := ⟨x.toNat, by omega⟩
            obtain ⟨b, hbv⟩ : ∃ b, ctls[m]? = some b := ⟨ctls[m]'(by simp [ctls]; omega), by simp⟩
            have hb4 := ctl_in hbv
            have hcell : v7.cell? ⟨G, m, none⟩ = some (.int .i64 b) := by
              rw [cell_of_row v7 _ m _ _ _ HG.out]
              have : (#[.int .i64 8, .int .i64 9, .int .i64 10, .int .i64 13] : Array Value) = (ctls.map (Value.int .i64 ·)).toArray := rfl
              rw [this, List.getElem?_toArray, List.getElem?_map, hbv]
              rfl
            have m0 : (0 : Int) ≤ (m : Int) := by omega
            have m1 : (m : Int) < 4 := by omega
            have HB4 := Lib.hid hb4
            clear hbv hb4
            refine wpChain_step (i := 4) rfl (by kernel_rfl) (fun K hK => ?_)
            go_simp
            refine hK.out _ _ hHeld ?_
            clear hK K
            (try simp only [Act.put, List.getElem_toArray, List.getElem_cons_succ, List.getElem_cons_zero, List.setIfInBounds_toArray, List.set_cons_zero, List.set_cons_succ])
            refine wpChain_step (i := 5) rfl (by kernel_rfl) (fun K hK => ?_)
            go_simp
            refine hK.out _ _ hHeld ?_
            clear hK K
            (try simp only [Act.put, List.getElem_toArray, List.getElem_cons_succ, List.getElem_cons_zero, List.setIfInBounds_toArray, List.set_cons_zero, List.set_cons_succ])
            refine wpChain_step (i := 6) rfl (by kernel_rfl) (fun K hK => ?_)
            go_simp
            refine (spec_ScrCtl v7 (scrRow y v0 v1 v2 v3) y b HPv7.out.rep HY.out HB4.out).mono ?_
            rintro e v8 ⟨_, rfl, ⟨cs2, y2, rfl, haw, hyd⟩, hbl⟩
            obtain ⟨c0, c1, c2, c3, rfl, p0, p1, p2, p3, -⟩ := scr_shape haw.rep
            have hpl := HPv7.out.call hbl
            refine hK.out _ _ (range_row (cs := (scrRow y v0 v1 v2 v3)) hpl.row) ?_
            clear hK K hHeld
            (try simp only [Act.put, List.getElem_toArray, List.getElem_cons_succ, List.getElem_cons_zero, List.setIfInBounds_toArray, List.set_cons_zero, List.set_cons_succ])
            refine wpChain_store rfl rfl (by kernel_rfl) (by kernel_rfl) rfl 31 _ _ rfl T 0 rfl _ rfl (scrRow y2 c0 c1 c2 c3) rfl (scrRow y v0 v1 v2 v3).toArray 31 (RowAt.of hpl.row) (Nat.le_of_ble_eq_true rfl) (scrRow_one y2 p0 p1 p2 p3) size_implScr ?_
            intro v9 hW
            have hM9 := Moved.row hW
            have hr9 := row_turn hpl.row hW (cur' := (scrRow y2 c0 c1 c2 c3)) rfl
            have HP9 := Lib.hid (HPv7.out.give hbl haw hM9 hr9)
            have HY9 := Lib.hid hyd
            clear hW hM9 hr9 hpl haw hbl hyd
            (try simp only [Act.put, List.getElem_toArray, List.getElem_cons_succ, List.getElem_cons_zero, List.setIfInBounds_toArray, List.set_cons_zero, List.set_cons_succ])
            go_wp2_with fail
            go_roundw
            case rel => exact ⟨n - 1, rfl, (by omega), (by omega), _, _, HP9.out, HY9.out⟩
            case measure => simp [intOf]; omega
        · have d2 : decide (k = 5) = false := decide_eq_false hk6
          have d2b : (k == 5) = false := by simp [hk6]
          have hs := drawn_size HY.out
          by_cases hk7 : k = 6
          · have d3 : decide (k = 6) = true := decide_eq_true hk7
            have d3b : (k == 6) = true := by simp [hk7]
            clear hk7 hk6
            go_wp2_with fail
            refine wp_region_chain 10 (fun w' => w'.rangeAt T 0 (scrRow y v0 v1 v2 v3)) (by kernel_rfl) (range_row (w := W7.drew) (cs := (scrRow y v0 v1 v2 v3)) (HP.out.call (bel_drew W7)).row) (fun hHeld => ?_)
            have hpd := HP.out.call (bel_drew W7)
            obtain ⟨v5, hWd⟩ : ∃ W, W = W7.drew := ⟨_, rfl⟩
            rw [← hWd] at hHeld hpd ⊢
            have HPv5 := Lib.hid hpd
            clear hWd hpd
            (refine wpChain_take (i := 0) rfl rfl rfl (by kernel_rfl) (by kernel_rfl) (by kernel_rfl) (by kernel_rfl) (fun _ _ _ h => h) (yieldsL_struct (by rfl) 31 _ rfl T 0 rfl (scrRow y v0 v1 v2 v3) _ (fun _ h => h) Try.underlying31 rfl size_implScr) hHeld ?_; (try simp only [Act.put, List.getElem_toArray, List.getElem_cons_succ, List.getElem_cons_zero, List.setIfInBounds_toArray, List.set_cons_zero, List.set_cons_succ]))
            (refine wpChain_take (i := 1) (v := ?_) rfl rfl rfl (by kernel_rfl) (by kernel_rfl) (by kernel_rfl) (by kernel_rfl) (fun _ _ _ h => h) (.inl ⟨by rfl, ?_⟩) hHeld ?_; rotate_left; (focus (intro wq hwq; go_simp; (try with_reducible rfl))); (try simp only [Act.put, List.getElem_toArray, List.getElem_cons_succ, List.getElem_cons_zero, List.setIfInBounds_toArray, List.set_cons_zero, List.set_cons_succ]))
            (refine wpChain_take (i := 2) (v := ?_) rfl rfl rfl (by kernel_rfl) (by kernel_rfl) (by kernel_rfl) (by kernel_rfl) (fun _ _ _ h => h) (.inl ⟨by rfl, ?_⟩) hHeld ?_; rotate_left; (focus (intro wq hwq; go_simp; (try with_reducible rfl))); (try simp only [Act.put, List.getElem_toArray, List.getElem_cons_succ, List.getElem_cons_zero, List.setIfInBounds_toArray, List.set_cons_zero, List.set_cons_succ]))
            (refine wpChain_take (i := 3) rfl rfl rfl (by kernel_rfl) (by kernel_rfl) (by kernel_rfl) (by kernel_rfl) (fun _ _ _ h => h) (yieldsL_field (by rfl) _ _ rfl _ _ rfl (scrRow y v0 v1 v2 v3) _ (fun _ h => h) (rfl) (fun wq hcq => by go_simp)) hHeld ?_; (try simp only [Act.put, List.getElem_toArray, List.getElem_cons_succ, List.getElem_cons_zero, List.setIfInBounds_toArray, List.set_cons_zero, List.set_cons_succ]))
            (refine wpChain_take (i := 5) (v := ?_) rfl rfl rfl (by kernel_rfl) (by kernel_rfl) (by kernel_rfl) (by kernel_rfl) (fun _ _ _ h => h) (.inl ⟨by rfl, ?_⟩) hHeld ?_; rotate_left; (focus (intro wq hwq; go_simp; (try with_reducible rfl))); (try simp only [Act.put, List.getElem_toArray, List.getElem_cons_succ, List.getElem_cons_zero, List.setIfInBounds_toArray, List.set_cons_zero, List.set_cons_succ]))
            (refine wpChain_take (i := 6) (v := ?_) rfl rfl rfl (by kernel_rfl) (by kernel_rfl) (by kernel_rfl) (by kernel_rfl) (fun _ _ _ h => h) (.inl ⟨by rfl, ?_⟩) hHeld ?_; rotate_left; (focus (intro wq hwq; go_simp; (try with_reducible rfl))); (try simp only [Act.put, List.getElem_toArray, List.getElem_cons_succ, List.getElem_cons_zero, List.setIfInBounds_toArray, List.set_cons_zero, List.set_cons_succ]))
            (refine wpChain_take (i := 7) rfl rfl rfl (by kernel_rfl) (by kernel_rfl) (by kernel_rfl) (by kernel_rfl) (fun _ _ _ h => h) (yieldsL_field (by rfl) _ _ rfl _ _ rfl (scrRow y v0 v1 v2 v3) _ (fun _ h => h) (rfl) (fun wq hcq => by go_simp)) hHeld ?_; (try simp only [Act.put, List.getElem_toArray, List.getElem_cons_succ, List.getElem_cons_zero, List.setIfInBounds_toArray, List.set_cons_zero, List.set_cons_succ]))
            refine wpChain_step (i := 4) rfl (by kernel_rfl) (fun K hK => ?_)
            go_simp
            refine (spec_l01Below w0 v5 C y.W HPv5.out.cur HPv5.out.bel (by omega) (by omega)).mono ?_
            rintro e v6 ⟨x1, rfl, -, -, hcd, hpp⟩
            have HPv6 := Lib.hid (HPv5.out.draw hcd hpp)
            refine hK.out _ _ (range_row (cs := (scrRow y v0 v1 v2 v3)) HPv6.out.row) ?_
            clear hK K hcd hpp
            (try simp only [Act.put, List.getElem_toArray, List.getElem_cons_succ, List.getElem_cons_zero, List.setIfInBounds_toArray, List.set_cons_zero, List.set_cons_succ])
            refine wpChain_step (i := 8) rfl (by kernel_rfl) (fun K hK => ?_)
            go_simp
            refine (spec_l01Below w0 v6 C y.H HPv6.out.cur HPv6.out.bel (by omega) (by omega)).mono ?_
            rintro e v7 ⟨x2, rfl, -, -, hcd, hpp⟩
            have HPv7 := Lib.hid (HPv6.out.draw hcd hpp)
            refine hK.out _ _ (range_row (cs := (scrRow y v0 v1 v2 v3)) HPv7.out.row) ?_
            clear hK K hcd hpp
            (try simp only [Act.put, List.getElem_toArray, List.getElem_cons_succ, List.getElem_cons_zero, List.setIfInBounds_toArray, List.set_cons_zero, List.set_cons_succ])
            refine wpChain_step (i := 9) rfl (by kernel_rfl) (fun K hK => ?_)
            go_simp
            refine (spec_ScrGo v7 (scrRow y v0 v1 v2 v3) y x1 x2 HPv7.out.rep HY.out).mono ?_
            rintro e v8 ⟨_, rfl, ⟨cs2, y2, rfl, haw, hyd⟩, hbl⟩
            obtain ⟨c0, c1, c2, c3, rfl, p0, p1, p2, p3, -⟩ := scr_shape haw.rep
            have hpl := HPv7.out.call hbl
            refine hK.out _ _ (range_row (cs := (scrRow y v0 v1 v2 v3)) hpl.row) ?_
            clear hK K hHeld
            (try simp only [Act.put, List.getElem_toArray, List.getElem_cons_succ, List.getElem_cons_zero, List.setIfInBounds_toArray, List.set_cons_zero, List.set_cons_succ])
            refine wpChain_store rfl rfl (by kernel_rfl) (by kernel_rfl) rfl 31 _ _ rfl T 0 rfl _ rfl (scrRow y2 c0 c1 c2 c3) rfl (scrRow y v0 v1 v2 v3).toArray 31 (RowAt.of hpl.row) (Nat.le_of_ble_eq_true rfl) (scrRow_one y2 p0 p1 p2 p3) size_implScr ?_
            intro v9 hW
            have hM9 := Moved.row hW
            have hr9 := row_turn hpl.row hW (cur' := (scrRow y2 c0 c1 c2 c3)) rfl
            have HP9 := Lib.hid (HPv7.out.give hbl haw hM9 hr9)
            have HY9 := Lib.hid hyd
            clear hW hM9 hr9 hpl haw hbl hyd
            (try simp only [Act.put, List.getElem_toArray, List.getElem_cons_succ, List.getElem_cons_zero, List.setIfInBounds_toArray, List.set_cons_zero, List.set_cons_succ])
            go_wp2_with fail
            go_roundw
            case rel => exact ⟨n - 1, rfl, (by omega), (by omega), _, _, HP9.out, HY9.out⟩
            case measure => simp [intOf]; omega
          · have d3 : decide (k = 6) = false := decide_eq_false hk7
            have d3b : (k == 6) = false := by simp [hk7]
            go_wp2_with fail
            refine (spec_l06Attr w0 W7 C HP.out.cur HP.out.bel).mono ?_
            rintro e v6 ⟨a, rfl, hat, hcd, hpp⟩
            have HPv6 := Lib.hid (HP.out.draw hcd hpp)
            have HAT := Lib.hid hat
            have hr6 := HPv6.out.row
            clear hcd hpp hat
            go_wp2_with ((with_reducible (show wpList _ _ _ (Oper.mk _ (Op.store 27 _ _) _ _ _ _ :: _) _ _)); refine wpList_store_at rfl 27 _ _ rfl T 12 rfl _ rfl [.int .i64 a.Fg, .int .i64 a.Bg, .bool a.Bold, .bool a.Under, .bool a.Turn] rfl (scrRow y v0 v1 v2 v3).toArray 31 hr6 (Nat.le_of_ble_eq_true rfl) (by simp [Value.oneCell']) size_implAttr ?_; intro v9 hW; have hM9 := Moved.row hW; have hr9 := (row_turn hr6 hW (cur' := (scrRow { y with A := a } v0 v1 v2 v3)) rfl); clear hW)
            have hyd := drawn_attr HY.out HAT.out
            have HP9 := HPv6.out.turn hM9 hr9 (drawn_ok hyd) rfl rfl rfl rfl
            go_roundw
            case rel => exact ⟨n - 1, rfl, (by omega), (by omega), _, _, HP9, hyd⟩
            case measure => simp [intOf]; omega
    · have d0 : decide (0 < n) = false := decide_eq_false hn
      have HK := Lib.hid (drawn_ok HY.out)
      clear HY
      clear hn
      have HY := HK
      clear HK
      go_upto_if 59 with (go_at_call 50; refine (spec_l01Below w0 wr C 4 HP.out.cur HP.out.bel (by omega) (by omega)).mono ?_; rintro e W7 ⟨k, rfl, k0, k1, hcd, hpp⟩; replace HP := Lib.hid (HP.out.draw hcd hpp); clear hcd hpp)
      go_cut [] from 59 to 60 (fun wx => ∃ cs z, Hid (Pen w0 C w.heap.size T wx cs z) ∧ Hid (scrOkB z = true))
      case first =>
        by_cases hk : k = 0
        · have dk : decide (k = 0) = true := decide_eq_true hk
          have dkb : (k == 0) = true := by simp [hk]
          clear hk
          have hr := HP.out.row
          go_wp2_with ((with_reducible (show wpList _ _ _ (Oper.mk _ (Op.store 4 _ _) _ _ _ _ :: _) _ _)); refine wpList_store_at rfl 4 _ _ rfl T 8 rfl _ rfl [.bool true] rfl (scrRow y v0 v1 v2 v3).toArray 31 hr (Nat.le_of_ble_eq_true rfl) (by simp [Value.oneCell']) (show (Try.prog.info? 4).map (·.size) = some 1 by kernel_rfl) ?_; intro v9 hW; (try rw [act_put_none]); have hMv9 := Moved.row hW; have hrv9 := (row_turn hr hW (cur' := (scrRow { y with OnAlt := true } v0 v1 v2 v3)) rfl); clear hW)
          obtain ⟨s1, s2, s3, s4, s5, s6, s7, s8, s9, s10, s11, s12, s13, s14⟩ := ok_in HY.out
          go_meet
          exact ⟨_, _, HP.out.turn hMv9 hrv9 (ok_turn (a := true) HY.out s13 s14 s5 s6 s7 s8 s9 s10 s11 s12) rfl rfl rfl rfl, ok_turn (a := true) HY.out s13 s14 s5 s6 s7 s8 s9 s10 s11 s12⟩
        · have dk : decide (k = 0) = false := decide_eq_false hk
          have dkb : (k == 0) = false := by simp [hk]
          go_wp2_with fail
          go_meet
          exact ⟨_, _, HP.out, HY.out⟩
      case rest =>
      clear HP HY
      obtain ⟨cs, z, HP, HY⟩ := hcut
      obtain ⟨v0, v1, v2, v3, rfl, o0, o1, o2, o3, -⟩ := scr_shape HP.out.rep
      obtain ⟨W7, hW7⟩ : ∃ W, W = wc := ⟨_, rfl⟩
      rw [← hW7] at HP ⊢
      clear hW7
      go_upto_region 15 with fail
      go_cut [68] from 61 to 68 (fun c wx => ∃ kk : Bool, c = .bool kk ∧ Hid (kk = true → 1 < z.H) ∧ Hid (Pen w0 C w.heap.size T wx (scrRow z v0 v1 v2 v3) z))
      case first =>
        go_wp2_with fail
        refine (spec_l01Below w0 W7 C 4 HP.out.cur HP.out.bel (by omega) (by omega)).mono ?_
        rintro e W8 ⟨k, rfl, k0, k1, hcd, hpp⟩
        replace HP := Lib.hid (HP.out.draw hcd hpp)
        clear hcd hpp
        by_cases hk : k = 0
        · have dk : decide (k = 0) = true := decide_eq_true hk
          have dkb : (k == 0) = true := by simp [hk]
          clear hk
          have j1 : W8.cell? ⟨T, 1, none⟩ = some (.int .i64 z.H) := cell_at HP.out.row rfl
          by_cases hh : 1 < z.H
          · have dh : decide (1 < z.H) = true := decide_eq_true hh
            have HH := Lib.hid hh
            clear hh
            go_wp2_with fail
            go_meet
            exact ⟨true, rfl, Lib.hid (fun _ => HH.out), HP.out⟩
          · have dh : decide (1 < z.H) = false := decide_eq_false hh
            go_wp2_with fail
            go_meet
            exact ⟨false, rfl, Lib.hid (fun h => Bool.noConfusion h), HP.out⟩
        · have dk : decide (k = 0) = false := decide_eq_false hk
          have dkb : (k == 0) = false := by simp [hk]
          go_wp2_with fail
          go_meet
          exact ⟨false, rfl, Lib.hid (fun h => Bool.noConfusion h), HP.out⟩
      case rest =>
      clear HP
      obtain ⟨kk, rfl, HH, HP⟩ := hcut
      obtain ⟨W7, hW7⟩ : ∃ W, W = wc := ⟨_, rfl⟩
      rw [← hW7] at HP ⊢
      clear hW7
      go_upto_if 68 with fail
      go_cut [] from 68 to 78 (fun wx => ∃ cs z, Hid (Pen w0 C w.heap.size T wx cs z) ∧ Hid (scrOkB z = true))
      case first =>
        cases kk
        · go_wp2_with fail
          go_meet
          exact ⟨_, _, HP.out, HY.out⟩
        · obtain ⟨s1, s2, s3, s4, s5, s6, s7, s8, s9, s10, s11, s12, s13, s14⟩ := ok_in HY.out
          have hh := HH.out rfl
          have j1 : W7.cell? ⟨T, 1, none⟩ = some (.int .i64 z.H) := cell_at HP.out.row rfl
          have w1 : IntKind.i64.wrap (z.H - 1) = z.H - 1 := by rw [IntKind.wrap_i64]; omega
          go_wp2_with fail
          refine (spec_l01Below w0 W7 C (z.H - 1) HP.out.cur HP.out.bel (by omega) (by omega)).mono ?_
          rintro e W8 ⟨t, rfl, t0, t1, hcd, hpp⟩
          replace HP := Lib.hid (HP.out.draw hcd hpp)
          clear hcd hpp j1
          have hr := HP.out.row
          have w2 : IntKind.i64.wrap (t + 1) = t + 1 := by rw [IntKind.wrap_i64]; omega
          go_upto_region 17 with ((with_reducible (show wpList _ _ _ (Oper.mk _ (Op.store 3 _ _) _ _ _ _ :: _) _ _)); refine wpList_store_at rfl 3 _ _ rfl T 17 rfl _ rfl [.int .i64 t] rfl (scrRow z v0 v1 v2 v3).toArray 31 hr (Nat.le_of_ble_eq_true rfl) (by simp [Value.oneCell']) (show (Try.prog.info? 3).map (·.size) = some 1 by kernel_rfl) ?_; intro v8 hW; (try rw [act_put_none]); have hMv8 := Moved.row hW; have hrv8 := (row_turn hr hW (cur' := (scrRow { z with Top := t } v0 v1 v2 v3)) rfl); clear hW)
          have j2 : v8.cell? ⟨T, 17, none⟩ = some (.int .i64 t) := cell_at hrv8 rfl
          go_wp2_with ((with_reducible (show wpList _ _ _ (Oper.mk _ (Op.store 3 _ _) _ _ _ _ :: _) _ _)); refine wpList_store_at rfl 3 _ _ rfl T 18 rfl _ rfl [.int .i64 (t + 1)] rfl (scrRow { z with Top := t } v0 v1 v2 v3).toArray 31 hrv8 (Nat.le_of_ble_eq_true rfl) (by simp [Value.oneCell']) (show (Try.prog.info? 3).map (·.size) = some 1 by kernel_rfl) ?_; intro v9 hW; (try rw [act_put_none]); have hMv9 := Moved.row hW; have hrv9 := (row_turn hrv8 hW (cur' := (scrRow { z with Top := t, Bot := t + 1 } v0 v1 v2 v3)) rfl); clear hW)
          go_meet
          have hok : scrOkB { z with Top := t, Bot := t + 1 } = true := ok_turn HY.out s13 s14 t0 (show t ≤ t + 1 by omega) (by omega) (fun e => by omega) s9 s10 s11 s12
          exact ⟨_, _, HP.out.turn (hMv8.trans hMv9) hrv9 hok rfl rfl rfl rfl, hok⟩
      case rest =>
      clear HP HY
      obtain ⟨cs, z, HP, HY⟩ := hcut
      obtain ⟨v0, v1, v2, v3, rfl, o0, o1, o2, o3, -⟩ := scr_shape HP.out.rep
      obtain ⟨W7, hW7⟩ : ∃ W, W = wc := ⟨_, rfl⟩
      rw [← hW7] at HP ⊢
      clear hW7
      go_upto_if 81 with (go_at_call 50; refine (spec_l01Below w0 W7 C 5 HP.out.cur HP.out.bel (by omega) (by omega)).mono ?_; rintro e W8 ⟨k, rfl, k0, k1, hcd, hpp⟩; have HQ := Lib.hid (HP.out.draw hcd hpp); clear hcd hpp HP)
      go_cut [] from 81 to 82 (fun wx => ∃ cs z, Hid (Pen w0 C w.heap.size T wx cs z) ∧ Hid (scrOkB z = true))
      case first =>
        have HP := HQ
        by_cases hk : k = 0
        · have dk : decide (k = 0) = true := decide_eq_true hk
          have dkb : (k == 0) = true := by simp [hk]
          clear hk
          have hr := HP.out.row
          go_wp2_with ((with_reducible (show wpList _ _ _ (Oper.mk _ (Op.store 4 _ _) _ _ _ _ :: _) _ _)); refine wpList_store_at rfl 4 _ _ rfl T 19 rfl _ rfl [.bool true] rfl (scrRow z v0 v1 v2 v3).toArray 31 hr (Nat.le_of_ble_eq_true rfl) (by simp [Value.oneCell']) (show (Try.prog.info? 4).map (·.size) = some 1 by kernel_rfl) ?_; intro v9 hW; (try rw [act_put_none]); have hMv9 := Moved.row hW; have hrv9 := (row_turn hr hW (cur' := (scrRow { z with NoWrap := true } v0 v1 v2 v3)) rfl); clear hW)
          obtain ⟨s1, s2, s3, s4, s5, s6, s7, s8, s9, s10, s11, s12, s13, s14⟩ := ok_in HY.out
          go_meet
          exact ⟨_, _, HP.out.turn hMv9 hrv9 (ok_turn (n := true) HY.out s13 s14 s5 s6 s7 s8 s9 s10 s11 s12) rfl rfl rfl rfl, ok_turn (n := true) HY.out s13 s14 s5 s6 s7 s8 s9 s10 s11 s12⟩
        · have dk : decide (k = 0) = false := decide_eq_false hk
          have dkb : (k == 0) = false := by simp [hk]
          go_wp2_with fail
          go_meet
          exact ⟨_, _, HP.out, HY.out⟩
      case rest =>
      clear HQ HY
      obtain ⟨cs, z, HP, HY⟩ := hcut
      obtain ⟨v0, v1, v2, v3, rfl, o0, o1, o2, o3, -⟩ := scr_shape HP.out.rep
      obtain ⟨W7, hW7⟩ : ∃ W, W = wc := ⟨_, rfl⟩
      rw [← hW7] at HP ⊢
      clear hW7
      go_upto_if 85 with (go_at_call 50; refine (spec_l01Below w0 W7 C 5 HP.out.cur HP.out.bel (by omega) (by omega)).mono ?_; rintro e W8 ⟨k, rfl, k0, k1, hcd, hpp⟩; have HQ := Lib.hid (HP.out.draw hcd hpp); clear hcd hpp HP)
      go_cut [] from 85 to 98 (fun wx => ∃ cs z, Hid (Pen w0 C w.heap.size T wx cs z) ∧ Hid (scrOkB z = true))
      case first =>
        have HP := HQ
        by_cases hk : k = 0
        · have dk : decide (k = 0) = true := decide_eq_true hk
          have dkb : (k == 0) = true := by simp [hk]
          clear hk
          obtain ⟨s1, s2, s3, s4, s5, s6, s7, s8, s9, s10, s11, s12, s13, s14⟩ := ok_in HY.out
          have j0 : W8.cell? ⟨T, 0, none⟩ = some (.int .i64 z.W) := cell_at HP.out.row rfl
          go_wp2_with fail
          refine (spec_l01Below w0 W8 C z.W HP.out.cur HP.out.bel (by omega) (by omega)).mono ?_
          rintro e W9 ⟨sx, rfl, sx0, sx1, hcd, hpp⟩
          replace HP := Lib.hid (HP.out.draw hcd hpp)
          clear hcd hpp j0
          have hr := HP.out.row
          go_upto_region 22 with ((with_reducible (show wpList _ _ _ (Oper.mk _ (Op.store 3 _ _) _ _ _ _ :: _) _ _)); refine wpList_store_at rfl 3 _ _ rfl T 21 rfl _ rfl [.int .i64 sx] rfl (scrRow z v0 v1 v2 v3).toArray 31 hr (Nat.le_of_ble_eq_true rfl) (by simp [Value.oneCell']) (show (Try.prog.info? 3).map (·.size) = some 1 by kernel_rfl) ?_; intro v8 hW; (try rw [act_put_none]); have hMv8 := Moved.row hW; have hrv8 := (row_turn hr hW (cur' := (scrRow { z with SaveX := sx } v0 v1 v2 v3)) rfl); clear hW)
          have hok1 : scrOkB { z with SaveX := sx } = true := ok_turn HY.out s13 s14 s5 s6 s7 s8 sx0 (show sx < z.W by omega) s11 s12
          have HP8 := Lib.hid (HP.out.turn hMv8 hrv8 hok1 rfl rfl rfl rfl)
          have j1 : v8.cell? ⟨T, 1, none⟩ = some (.int .i64 z.H) := cell_at hrv8 rfl
          clear hr
          go_wp2_with fail
          refine (spec_l01Below w0 v8 C z.H HP8.out.cur HP8.out.bel (by omega) (by omega)).mono ?_
          rintro e v9 ⟨sy, rfl, sy0, sy1, hcd, hpp⟩
          have HP9 := Lib.hid (HP8.out.draw hcd hpp)
          clear hcd hpp j1 hrv8 hMv8
          have hr := HP9.out.row
          go_upto_region 23 with ((with_reducible (show wpList _ _ _ (Oper.mk _ (Op.store 3 _ _) _ _ _ _ :: _) _ _)); refine wpList_store_at rfl 3 _ _ rfl T 22 rfl _ rfl [.int .i64 sy] rfl (scrRow { z with SaveX := sx } v0 v1 v2 v3).toArray 31 hr (Nat.le_of_ble_eq_true rfl) (by simp [Value.oneCell']) (show (Try.prog.info? 3).map (·.size) = some 1 by kernel_rfl) ?_; intro u1 hW; (try rw [act_put_none]); have hMu1 := Moved.row hW; have hru1 := (row_turn hr hW (cur' := (scrRow { z with SaveX := sx, SaveY := sy } v0 v1 v2 v3)) rfl); clear hW)
          have hok2 : scrOkB { z with SaveX := sx, SaveY := sy } = true := ok_turn HY.out s13 s14 s5 s6 s7 s8 sx0 (show sx < z.W by omega) sy0 (show sy < z.H by omega)
          have HP10 := Lib.hid (HP9.out.turn hMu1 hru1 hok2 rfl rfl rfl rfl)
          clear hr hru1 hMu1
          go_wp2_with fail
          refine (spec_l06Attr w0 u1 C HP10.out.cur HP10.out.bel).mono ?_
          rintro e u2 ⟨a, rfl, hat, hcd, hpp⟩
          have HP11 := Lib.hid (HP10.out.draw hcd hpp)
          clear hcd hpp
          have hr := HP11.out.row
          go_wp2_with ((with_reducible (show wpList _ _ _ (Oper.mk _ (Op.store 27 _ _) _ _ _ _ :: _) _ _)); refine wpList_store_at rfl 27 _ _ rfl T 23 rfl _ rfl [.int .i64 a.Fg, .int .i64 a.Bg, .bool a.Bold, .bool a.Under, .bool a.Turn] rfl (scrRow { z with SaveX := sx, SaveY := sy } v0 v1 v2 v3).toArray 31 hr (Nat.le_of_ble_eq_true rfl) (by simp [Value.oneCell']) size_implAttr ?_; intro u3 hW; (try rw [act_put_none]); have hMu3 := Moved.row hW; have hru3 := (row_turn hr hW (cur' := (scrRow { z with SaveX := sx, SaveY := sy, SaveA := a } v0 v1 v2 v3)) rfl); clear hW)
          go_meet
          have hok3 : scrOkB { z with SaveX := sx, SaveY := sy, SaveA := a } = true := ok_turn HY.out s13 hat s5 s6 s7 s8 sx0 (show sx < z.W by omega) sy0 (show sy < z.H by omega)
          exact ⟨_, _, HP11.out.turn hMu3 hru3 hok3 rfl rfl rfl rfl, hok3⟩
        · have dk : decide (k = 0) = false := decide_eq_false hk
          have dkb : (k == 0) = false := by simp [hk]
          go_wp2_with fail
          go_meet
          exact ⟨_, _, HP.out, HY.out⟩
      case rest =>
      clear HQ HY
      obtain ⟨cs, z, HP, HY⟩ := hcut
      obtain ⟨v0, v1, v2, v3, rfl, o0, o1, o2, o3, -⟩ := scr_shape HP.out.rep
      obtain ⟨W7, hW7⟩ : ∃ W, W = wc := ⟨_, rfl⟩
      rw [← hW7] at HP ⊢
      clear hW7
      have hr := HP.out.row
      have hb := HP.out.box
      have hrl := HP.out.lt
      go_wp2_with (first
        | ((with_reducible (show wpList _ _ _ (Oper.mk _ (Op.load 31 _) _ _ _ _ :: _) _ _)); refine wpList_load_row rfl 31 _ rfl T rfl 31 (scrRow z v0 v1 v2 v3).toArray (0, 0) _ hr Try.underlying31 rfl size_implScr ?_)
        | ((with_reducible (show wpList _ _ _ (Oper.mk _ (Op.store 31 _ _) _ _ _ _ :: _) _ _)); refine wpList_store_at rfl 31 _ _ rfl w.heap.size 0 rfl _ rfl (scrRow z v0 v1 v2 v3) rfl zeroScr.toArray 31 hb (Nat.le_of_ble_eq_true rfl) (scrRow_one _ o0 o1 o2 o3) size_implScr ?_; intro W9 hW; have hM9 := Moved.row hW; have hr9 := (row_turn hb hW (cur' := (scrRow z v0 v1 v2 v3)) rfl); clear hW))
      obtain ⟨lo, M, h1, h2, h3⟩ := HP.out.away
      exact bodyPost_ret (results_cell_row Try.results20 _ _ w.heap.size 31 (scrRow z v0 v1 v2 v3).toArray (0, 0) _ rfl hr9 Try.underlying31 rfl size_implScr) rfl ⟨(scrRow z v0 v1 v2 v3), z, rfl, (h3.moved hM9 (.inl h1) (by omega)).low (by omega) (by omega), HY.out, hM9.below HP.out.bel (by have := HP.out.cur.base; omega)⟩
end Go.Proofs.Ytaobgfneeijpmaa
