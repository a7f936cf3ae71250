/- The walk of the reference's TextStep. -/
import Derived.Test.YtjglknaojfnllaaDoorFnTextStepI
import Derived.Test.YtjglknaojfnllaaDoorFnStepS
import Derived.Test.YtjglknaojfnllaaDoorStepApp
import Derived.Deep.CutBlock
set_option linter.unusedSimpArgs false
set_option linter.unusedVariables false
namespace Go.Mux
open Go.RowKit
theorem FreshS.grow0 {α : Type} [Rep α] {B : Nat} {W W1 : World} {v : Value} {l : List α} (h : FreshS B W v l) (hb : Below W.heap.size W W1) : FreshS B W1 v l := by
  obtain ⟨fp, ho, hn, hf⟩ := h
  exact ⟨fp, ho.grow hb, hn, hf⟩
theorem int_lit0 {w : World} {x : Int} (h : I64 x) : RepS (w.alloc (.cells #[.int .i64 x] 3)) (.slice (some ⟨w.heap.size, 0, none⟩) 1 1) [x] := by
  refine ⟨_, _, rfl, by simp, fun _ => ⟨w.heap.size, 0, rfl, fun i y hy => ?_⟩⟩
  have hi : i = 0 := by have := (List.getElem?_eq_some_iff.1 hy).1; simp at this; omega
  subst hi
  obtain rfl : x = y := by simpa using hy
  refine ⟨[.int .i64 x], ⟨rfl, h⟩, fun j u hu => ?_⟩
  have hj : j = 0 := by have := (List.getElem?_eq_some_iff.1 hu).1; simp at this; omega
  subst hj
  obtain rfl : Value.int .i64 x = u := by simpa using hu
  simp
/-- A slice that reads so, whatever block g holds. -/
def Ap {α : Type} [Rep α] (g : Nat) (W : World) (v : Value) (l : List α) : Prop := ∀ W' : World, (∀ b, b < W.heap.size → b ≠ g → W'.heap[b]? = W.heap[b]?) → RepS W' v l
section
variable {α : Type} [Rep α] {g lo : Nat} {W W1 : World} {v : Value} {l : List α}
theorem fresh_ap (h : FreshS lo W v l) (hg : g < lo) : Ap g W v l := fun W' hk => by
  obtain ⟨fp, ho, hn, hf⟩ := h
  exact (ho.mono fun b hb => hk b (ho.lt b hb) (by have := hf b hb; omega)).repS
theorem Ap.at_ (h : Ap g W v l) (_ : Unit) : RepS W v l := h W fun _ _ _ => rfl
theorem Ap.call (h : Ap g W v l) (hb : Below W.heap.size W W1) : Ap g W1 v l := fun W' hk => h W' fun b h1 h2 => (hk b (Nat.lt_of_lt_of_le h1 hb.size) h2).trans (hb.block b h1)
theorem Ap.moved (h : Ap g W v l) (hM : Moved g W W1) : RepS W1 v l := h W1 fun b _ h2 => hM.other b h2
theorem freshS_one {g' : Nat} (h : FreshS lo W v l) (hM : Moved g' W W1) (hg : g' < lo) : FreshS lo W1 v l := by
  obtain ⟨fp, ho, hn, hf⟩ := h
  exact ⟨fp, ho.mono fun b hb => hM.other b (by have := hf b hb; omega), hn, hf⟩
end
theorem zero_rep (W : World) : Rep.rep W (row6 0 0 0 ByteArray.empty (.slice none 0 0) (.slice none 0 0)) zeroStep := by
  refine DStep.rep_iff.2 ⟨_, _, rfl, ?_, ?_, ?_, ?_, (nil_freshB 0 W).repS, (nil_freshB 0 W).repS⟩
  · exact ⟨by decide, by decide⟩
  · exact ⟨by decide, by decide⟩
  · exact ⟨by decide, by decide⟩
  · exact Nat.zero_le _
section
variable {dec : List UInt8 → List UInt8} {s : ByteArray}
theorem rd_4 (hk : kindOf (wordAt (partsOf s) 0) = 4) : readStep dec s = { zeroStep with Kind := 4, A := numAt (partsOf s) 1, Cuts := ((partsOf s).drop 2).map fun w => (textNum w).1 } := by
  unfold readStep
  simp only [hk, if_true]
theorem rd_5 (hk : kindOf (wordAt (partsOf s) 0) = 5) : readStep dec s = { zeroStep with Kind := 5, A := numAt (partsOf s) 1, B := if wordAt (partsOf s) 2 = ⟨#[110, 111, 110, 101]⟩ then -1 else numAt (partsOf s) 2 } := by
  unfold readStep
  simp only [hk, if_true]
  rfl
theorem rd_6 (hk : kindOf (wordAt (partsOf s) 0) = 6) : readStep dec s = { zeroStep with Kind := 6, Text := restOf s 1 } := by
  unfold readStep
  simp only [hk, if_true]
  rfl
theorem rd_7 (hk : kindOf (wordAt (partsOf s) 0) = 7) : readStep dec s = { zeroStep with Kind := 7, A := numAt (partsOf s) 1, Data := dec (wordAt (partsOf s) 2).data.toList } := by
  unfold readStep
  simp only [hk, if_true]
  rfl
theorem rd_8 (hk : kindOf (wordAt (partsOf s) 0) = 8) : readStep dec s = { zeroStep with Kind := 8, A := numAt (partsOf s) 1, B := numAt (partsOf s) 2 } := by
  unfold readStep
  simp only [hk, if_true]
  rfl
end
end Go.Mux
namespace Go.Proofs.YtjglknaojfnllaaDoor
open Go.RowKit Go.Mux
set_option maxRecDepth 100000 in
set_option maxHeartbeats 1000000 in
theorem spec_TextStep' (w : World) (s : ByteArray) (hs : s.size ≤ 1048576) : Calls Tryd.prog 5 #[.string s] w (Gives w fun r w' => ∃ cs, r = .tuple #[.agg cs.toArray, .bool (textStep unhexS s).2] ∧ Rep.rep w' cs (textStep unhexS s).1) := by
  have hsm := read_small unhexS_bulk s
  have HSM := Lib.hid hsm
  clear hsm
  obtain ⟨x, hx⟩ : ∃ x, x = readStep unhexS s := ⟨_, rfl⟩
  have HX := Lib.hid hx
  rw [← hx] at HSM
  clear hx
  go_enter Tryd.func5, Tryd.ntmps5
  go_wp2_with fail
  generalize hwb : World.alloc w _ = W0
  have hb0 : Below w.heap.size w W0 := by rw [← hwb]; exact bel_alloc (Below.refl _ _) _
  have hr0 : W0.heap[w.heap.size]? = some (.cells (row6 0 0 0 ByteArray.empty (.slice none 0 0) (.slice none 0 0)).toArray 25 (0, 0)) := by rw [← hwb]; exact heap_alloc_new w _
  have hz0 : w.heap.size < W0.heap.size := (Array.getElem?_eq_some_iff.1 hr0).1
  have HB0 := Lib.hid hb0
  clear hwb hb0
  refine (spec_Parts W0 s hs).mono ?_
  rintro e W1 ⟨_, rfl, hF, hb⟩
  have HWS := Lib.hid hF.repS
  obtain ⟨wa, wc, rfl, hwl, hwc, hcell⟩ := strs_open hF.repS
  have HB1 := Lib.hid (bel_next HB0.out hb)
  have hr1 := (hb.block w.heap.size hz0).trans hr0
  have hz1 : w.heap.size < W1.heap.size := Nat.lt_of_lt_of_le hz0 hb.size
  have hlen := partsOf_len s
  have hcnt : s.data.toList.count 32 ≤ s.size := Nat.le_trans List.count_le_length (Nat.le_of_eq Array.length_toList)
  have hL1 : 1 ≤ (partsOf s).length := by omega
  have hL2 : (partsOf s).length ≤ 1048577 := by omega
  obtain ⟨bw, ow, rfl, hcw⟩ := hcell (by intro e; rw [e] at hL1; simp at hL1)
  have kw0 := hcw 0 _ (List.getElem?_eq_getElem (by omega))
  obtain ⟨wd, hwd⟩ : ∃ wd, wd = (partsOf s)[0]'(by omega) := ⟨_, rfl⟩
  rw [← hwd] at kw0
  have HWD := Lib.hid (show wordAt (partsOf s) 0 = wd from wordAt_some (by rw [hwd]; exact List.getElem?_eq_getElem _))
  clear hb hr0 hF hcell hwl hwc hlen hcnt hcw hwd
  obtain ⟨L, hL⟩ : ∃ L, L = (partsOf s).length := ⟨_, rfl⟩
  have HL := Lib.hid hL
  rw [← hL] at hL1 hL2 ⊢
  have b0 : (0 : Int) < (L : Int) := by omega
  have b0n : 0 < L := by omega
  clear hL
  go_upto_region 3 with ((with_reducible (show wpList _ _ _ (Oper.mk _ (Op.store 25 _ _) _ _ _ _ :: _) _ _)); have HAL := Lib.hid (heap_alloc_new W1 (.cells (row6 0 0 0 ByteArray.empty (.slice none 0 0) (.slice none 0 0)).toArray 25 (0, 0))); refine wpList_store_at rfl 25 _ _ rfl W1.heap.size 0 rfl _ rfl (row6 0 0 0 ByteArray.empty (.slice none 0 0) (.slice none 0 0)) rfl (row6 0 0 0 ByteArray.empty (.slice none 0 0) (.slice none 0 0)).toArray 25 HAL.out (Nat.le_of_ble_eq_true rfl) (by simp [row6, Value.oneCell']) size_step6 ?_; intro W2 hW; (try rw [act_put_none0]); have hM2 := Moved.row hW; have ht2 := row_turnN HAL.out hW (cur' := (row6 0 0 0 ByteArray.empty (.slice none 0 0) (.slice none 0 0))) rfl; clear hW HAL)
  have hal2 := bel_alloc (Below.refl W1.heap.size W1) (.cells (row6 0 0 0 ByteArray.empty (.slice none 0 0) (.slice none 0 0)).toArray 25 (0, 0))
  have hb2 := hM2.below hal2 (Nat.le_refl _)
  have hs2 := (hb2.block w.heap.size hz1).trans hr1
  have HB2 := Lib.hid (bel_next HB1.out hb2)
  have HBW := Lib.hid hb2
  have kw := (hb2.cell (p := ⟨bw, ow + 0, none⟩) (World.block_lt_of_cell? W1 _ kw0)).trans kw0
  have kw : W2.cell? ⟨bw, ow, none⟩ = some (.string wd) := kw
  obtain ⟨T, hT⟩ : ∃ T, T = W1.heap.size := ⟨_, rfl⟩
  rw [← hT] at ht2 ⊢
  have hTw : w.heap.size < T := by omega
  have hT1 : W1.heap.size ≤ T := by omega
  have hT2 : T < W2.heap.size := (Array.getElem?_eq_some_iff.1 ht2).1
  clear hal2 hb2 hM2 hr1 hT kw0
  (try simp only [Act.put, List.getElem_toArray, List.getElem_cons_succ, List.getElem_cons_zero, List.setIfInBounds_toArray, List.set_cons_zero, List.set_cons_succ])
  go_upto_block 0 with fail
  go_cut [] from 10 to 79 (fun wx => ∃ vd vc, Hid (Below w.heap.size w wx) ∧ Hid (wx.heap[w.heap.size]? = some (.cells (row6 0 0 0 ByteArray.empty (.slice none 0 0) (.slice none 0 0)).toArray 25 (0, 0))) ∧ Hid (wx.heap[T]? = some (.cells (row6 x.Kind x.A x.B x.Text vd vc).toArray 25 (0, 0))) ∧ Hid (Ap w.heap.size wx vd x.Data) ∧ Hid (Ap w.heap.size wx vc x.Cuts))
  case first =>
    have HWL := Lib.hid (show RepS W1 (.slice (some ⟨bw, ow, none⟩) L wc) (partsOf s) from by rw [HL.out]; exact HWS.out)
    by_cases h1 : wd = ⟨#[115, 116, 97, 114, 116]⟩
    · have q : wd.toList = [115, 116, 97, 114, 116] := (toList_iff _ _).2 h1
      have HXE := Lib.hid (show x = { zeroStep with Kind := 1 } from by rw [HX.out]; exact read_else (by rw [HWD.out, h1]; unfold kindOf; rfl) (by decide) (by decide) (by decide) (by decide) (by decide))
      clear h1
      go_wp2_with ((with_reducible (show wpList _ _ _ (Oper.mk _ (Op.store 3 _ _) _ _ _ _ :: _) _ _)); refine wpList_store_at rfl 3 _ _ rfl T 0 rfl _ rfl [.int .i64 1] rfl (row6 0 0 0 ByteArray.empty (.slice none 0 0) (.slice none 0 0)).toArray 25 ht2 (Nat.le_of_ble_eq_true rfl) (by simp [row6, Value.oneCell']) (show (Tryd.prog.info? 3).map (·.size) = some 1 by kernel_rfl) ?_; intro W3 hW; (try rw [act_put_none0]); have hMW3 := Moved.row hW; have hrW3 := row_turnN ht2 hW (cur' := (row6 1 0 0 ByteArray.empty (.slice none 0 0) (.slice none 0 0))) rfl; clear hW)
      go_meet
      exact ⟨_, _, hMW3.below HB2.out (by omega), (hMW3.other w.heap.size (by omega)).trans hs2, by rw [HXE.out]; exact hrW3, by rw [HXE.out]; exact fresh_ap (nil_freshB (w.heap.size + 1) _) (by omega), by rw [HXE.out]; exact fresh_ap (nil_freshB (w.heap.size + 1) _) (by omega)⟩
    by_cases h2 : wd = ⟨#[115, 121, 110, 99]⟩
    · have q : wd.toList = [115, 121, 110, 99] := (toList_iff _ _).2 h2
      have HXE := Lib.hid (show x = { zeroStep with Kind := 2 } from by rw [HX.out]; exact read_else (by rw [HWD.out, h2]; unfold kindOf; rfl) (by decide) (by decide) (by decide) (by decide) (by decide))
      clear h2
      go_wp2_with ((with_reducible (show wpList _ _ _ (Oper.mk _ (Op.store 3 _ _) _ _ _ _ :: _) _ _)); refine wpList_store_at rfl 3 _ _ rfl T 0 rfl _ rfl [.int .i64 2] rfl (row6 0 0 0 ByteArray.empty (.slice none 0 0) (.slice none 0 0)).toArray 25 ht2 (Nat.le_of_ble_eq_true rfl) (by simp [row6, Value.oneCell']) (show (Tryd.prog.info? 3).map (·.size) = some 1 by kernel_rfl) ?_; intro W3 hW; (try rw [act_put_none0]); have hMW3 := Moved.row hW; have hrW3 := row_turnN ht2 hW (cur' := (row6 2 0 0 ByteArray.empty (.slice none 0 0) (.slice none 0 0))) rfl; clear hW)
      go_meet
      exact ⟨_, _, hMW3.below HB2.out (by omega), (hMW3.other w.heap.size (by omega)).trans hs2, by rw [HXE.out]; exact hrW3, by rw [HXE.out]; exact fresh_ap (nil_freshB (w.heap.size + 1) _) (by omega), by rw [HXE.out]; exact fresh_ap (nil_freshB (w.heap.size + 1) _) (by omega)⟩
    by_cases h3 : wd = ⟨#[112, 97, 99, 107]⟩
    · have q : wd.toList = [112, 97, 99, 107] := (toList_iff _ _).2 h3
      have HXE := Lib.hid (show x = { zeroStep with Kind := 3 } from by rw [HX.out]; exact read_else (by rw [HWD.out, h3]; unfold kindOf; rfl) (by decide) (by decide) (by decide) (by decide) (by decide))
      clear h3
      go_wp2_with ((with_reducible (show wpList _ _ _ (Oper.mk _ (Op.store 3 _ _) _ _ _ _ :: _) _ _)); refine wpList_store_at rfl 3 _ _ rfl T 0 rfl _ rfl [.int .i64 3] rfl (row6 0 0 0 ByteArray.empty (.slice none 0 0) (.slice none 0 0)).toArray 25 ht2 (Nat.le_of_ble_eq_true rfl) (by simp [row6, Value.oneCell']) (show (Tryd.prog.info? 3).map (·.size) = some 1 by kernel_rfl) ?_; intro W3 hW; (try rw [act_put_none0]); have hMW3 := Moved.row hW; have hrW3 := row_turnN ht2 hW (cur' := (row6 3 0 0 ByteArray.empty (.slice none 0 0) (.slice none 0 0))) rfl; clear hW)
      go_meet
      exact ⟨_, _, hMW3.below HB2.out (by omega), (hMW3.other w.heap.size (by omega)).trans hs2, by rw [HXE.out]; exact hrW3, by rw [HXE.out]; exact fresh_ap (nil_freshB (w.heap.size + 1) _) (by omega), by rw [HXE.out]; exact fresh_ap (nil_freshB (w.heap.size + 1) _) (by omega)⟩
    by_cases h6 : wd = ⟨#[108, 105, 110, 101]⟩
    · have q : wd.toList = [108, 105, 110, 101] := (toList_iff _ _).2 h6
      have HXE := Lib.hid (show x = { zeroStep with Kind := 6, Text := restOf s 1 } from by rw [HX.out]; exact rd_6 (by rw [HWD.out, h6]; unfold kindOf; rfl))
      clear h6
      go_wp2_with fail
      refine (spec_l18Rest W2 s 1 hs (by omega) (by omega)).mono ?_
      rintro e w' ⟨rfl, rfl⟩
      go_wp2_with ((with_reducible (show wpList _ _ _ (Oper.mk _ (Op.store 25 _ _) _ _ _ _ :: _) _ _)); refine wpList_store_at rfl 25 _ _ rfl T 0 rfl _ rfl (row6 6 0 0 (restOf s 1) (.slice none 0 0) (.slice none 0 0)) rfl (row6 0 0 0 ByteArray.empty (.slice none 0 0) (.slice none 0 0)).toArray 25 ht2 (Nat.le_of_ble_eq_true rfl) (by simp [row6, Value.oneCell']) size_step6 ?_; intro W3 hW; (try rw [act_put_none0]); have hMW3 := Moved.row hW; have hrW3 := row_turnN ht2 hW (cur' := (row6 6 0 0 (restOf s 1) (.slice none 0 0) (.slice none 0 0))) rfl; clear hW)
      go_meet
      exact ⟨_, _, hMW3.below HB2.out (by omega), (hMW3.other w.heap.size (by omega)).trans hs2, by rw [HXE.out]; exact hrW3, by rw [HXE.out]; exact fresh_ap (nil_freshB (w.heap.size + 1) _) (by omega), by rw [HXE.out]; exact fresh_ap (nil_freshB (w.heap.size + 1) _) (by omega)⟩
    by_cases h8 : wd = ⟨#[101, 110, 100]⟩
    · have q : wd.toList = [101, 110, 100] := (toList_iff _ _).2 h8
      have HXE := Lib.hid (show x = { zeroStep with Kind := 8, A := numAt (partsOf s) 1, B := numAt (partsOf s) 2 } from by rw [HX.out]; exact rd_8 (by rw [HWD.out, h8]; unfold kindOf; rfl))
      clear h8
      go_wp2_with fail
      refine (spec_l18Word W1 W2 _ (partsOf s) 1 HWL.out HBW.out).mono ?_
      rintro e w' ⟨rfl, rfl⟩
      go_wp2_with fail
      refine (spec_l18Num W2 (wordAt (partsOf s) 1)).mono ?_
      rintro e W3 ⟨_, rfl, rfl, hb⟩
      have HBW3 := Lib.hid (bel_next HB2.out hb)
      have HBWW3 := Lib.hid (HBW.out.trans (hb.mono HBW.out.size))
      have hsW3 := (hb.block w.heap.size (by omega)).trans hs2
      have htW3 := (hb.block T (by omega)).trans ht2
      have hzW3 := hb.size
      clear hb hs2 ht2
      go_wp2_with fail
      refine (spec_l18Word W1 W3 _ (partsOf s) 2 HWL.out HBWW3.out).mono ?_
      rintro e w' ⟨rfl, rfl⟩
      go_wp2_with fail
      refine (spec_l18Num W3 (wordAt (partsOf s) 2)).mono ?_
      rintro e W4 ⟨_, rfl, rfl, hb⟩
      have HBW4 := Lib.hid (bel_next HBW3.out hb)
      have HBWW4 := Lib.hid (HBWW3.out.trans (hb.mono HBWW3.out.size))
      have hsW4 := (hb.block w.heap.size (by omega)).trans hsW3
      have htW4 := (hb.block T (by omega)).trans htW3
      have hzW4 := hb.size
      clear hb hsW3 htW3
      obtain ⟨n1, hn1⟩ : ∃ n1, n1 = (textNum (wordAt (partsOf s) 1)).1 := ⟨_, rfl⟩
      obtain ⟨n2, hn2⟩ : ∃ n2, n2 = (textNum (wordAt (partsOf s) 2)).1 := ⟨_, rfl⟩
      rw [← hn1, ← hn2]
      have HN1 := Lib.hid (show n1 = numAt (partsOf s) 1 from hn1)
      have HN2 := Lib.hid (show n2 = numAt (partsOf s) 2 from hn2)
      clear hn1 hn2
      go_wp2_with ((with_reducible (show wpList _ _ _ (Oper.mk _ (Op.store 25 _ _) _ _ _ _ :: _) _ _)); refine wpList_store_at rfl 25 _ _ rfl T 0 rfl _ rfl (row6 8 n1 n2 ByteArray.empty (.slice none 0 0) (.slice none 0 0)) rfl (row6 0 0 0 ByteArray.empty (.slice none 0 0) (.slice none 0 0)).toArray 25 htW4 (Nat.le_of_ble_eq_true rfl) (by simp [row6, Value.oneCell']) size_step6 ?_; intro W5 hW; (try rw [act_put_none0]); have hMW5 := Moved.row hW; have hrW5 := row_turnN htW4 hW (cur' := (row6 8 n1 n2 ByteArray.empty (.slice none 0 0) (.slice none 0 0))) rfl; clear hW)
      go_meet
      exact ⟨_, _, hMW5.below HBW4.out (by omega), (hMW5.other w.heap.size (by omega)).trans hsW4, by rw [HXE.out]; exact (by rw [← HN1.out, ← HN2.out]; exact hrW5), by rw [HXE.out]; exact fresh_ap (nil_freshB (w.heap.size + 1) _) (by omega), by rw [HXE.out]; exact fresh_ap (nil_freshB (w.heap.size + 1) _) (by omega)⟩
    by_cases h5 : wd = ⟨#[112, 111, 119, 101, 114]⟩
    · have q : wd.toList = [112, 111, 119, 101, 114] := (toList_iff _ _).2 h5
      have HXE := Lib.hid (show x = { zeroStep with Kind := 5, A := numAt (partsOf s) 1, B := if wordAt (partsOf s) 2 = ⟨#[110, 111, 110, 101]⟩ then -1 else numAt (partsOf s) 2 } from by rw [HX.out]; exact rd_5 (by rw [HWD.out, h5]; unfold kindOf; rfl))
      clear h5
      go_wp2_with fail
      refine (spec_l18Word W1 W2 _ (partsOf s) 1 HWL.out HBW.out).mono ?_
      rintro e w' ⟨rfl, rfl⟩
      go_wp2_with fail
      refine (spec_l18Num W2 (wordAt (partsOf s) 1)).mono ?_
      rintro e W3 ⟨_, rfl, rfl, hb⟩
      have HBW3 := Lib.hid (bel_next HB2.out hb)
      have HBWW3 := Lib.hid (HBW.out.trans (hb.mono HBW.out.size))
      have hsW3 := (hb.block w.heap.size (by omega)).trans hs2
      have htW3 := (hb.block T (by omega)).trans ht2
      have hzW3 := hb.size
      clear hb hs2 ht2
      go_wp2_with fail
      refine (spec_l18Word W1 W3 _ (partsOf s) 2 HWL.out HBWW3.out).mono ?_
      rintro e w' ⟨rfl, rfl⟩
      go_wp2_with fail
      refine (spec_l18Num W3 (wordAt (partsOf s) 2)).mono ?_
      rintro e W4 ⟨_, rfl, rfl, hb⟩
      have HBW4 := Lib.hid (bel_next HBW3.out hb)
      have HBWW4 := Lib.hid (HBWW3.out.trans (hb.mono HBWW3.out.size))
      have hsW4 := (hb.block w.heap.size (by omega)).trans hsW3
      have htW4 := (hb.block T (by omega)).trans htW3
      have hzW4 := hb.size
      clear hb hsW3 htW3
      obtain ⟨n1, hn1⟩ : ∃ n1, n1 = (textNum (wordAt (partsOf s) 1)).1 := ⟨_, rfl⟩
      obtain ⟨n2, hn2⟩ : ∃ n2, n2 = (textNum (wordAt (partsOf s) 2)).1 := ⟨_, rfl⟩
      rw [← hn1, ← hn2]
      have HN1 := Lib.hid (show n1 = numAt (partsOf s) 1 from hn1)
      have HN2 := Lib.hid (show n2 = numAt (partsOf s) 2 from hn2)
      clear hn1 hn2
      go_upto_region 18 with ((with_reducible (show wpList _ _ _ (Oper.mk _ (Op.store 25 _ _) _ _ _ _ :: _) _ _)); refine wpList_store_at rfl 25 _ _ rfl T 0 rfl _ rfl (row6 5 n1 n2 ByteArray.empty (.slice none 0 0) (.slice none 0 0)) rfl (row6 0 0 0 ByteArray.empty (.slice none 0 0) (.slice none 0 0)).toArray 25 htW4 (Nat.le_of_ble_eq_true rfl) (by simp [row6, Value.oneCell']) size_step6 ?_; intro W5 hW; (try rw [act_put_none0]); have hMW5 := Moved.row hW; have hrW5 := row_turnN htW4 hW (cur' := (row6 5 n1 n2 ByteArray.empty (.slice none 0 0) (.slice none 0 0))) rfl; clear hW)
      have hb5 := hMW5.below HBW4.out (by omega)
      have hbw5 := hMW5.below HBWW4.out (by omega)
      have hs5 := (hMW5.other w.heap.size (by omega)).trans hsW4
      clear hsW4 htW4
      go_wp2_with fail
      refine (spec_l18Word W1 W5 _ (partsOf s) 2 HWL.out hbw5).mono ?_
      rintro e w' ⟨rfl, rfl⟩
      obtain ⟨w2, hw2⟩ : ∃ w2, w2 = wordAt (partsOf s) 2 := ⟨_, rfl⟩
      rw [← hw2]
      have HW2 := Lib.hid hw2
      clear hw2
      by_cases hq : w2 = ⟨#[110, 111, 110, 101]⟩
      · have q2 : w2.toList = [110, 111, 110, 101] := (toList_iff _ _).2 hq
        have HQ := Lib.hid hq
        clear hq
        go_upto_region 19 with fail
        go_wp2_with ((with_reducible (show wpList _ _ _ (Oper.mk _ (Op.store 3 _ _) _ _ _ _ :: _) _ _)); refine wpList_store_at rfl 3 _ _ rfl T 2 rfl _ rfl [.int .i64 (-1)] rfl (row6 5 n1 n2 ByteArray.empty (.slice none 0 0) (.slice none 0 0)).toArray 25 hrW5 (Nat.le_of_ble_eq_true rfl) (by simp [row6, Value.oneCell']) (show (Tryd.prog.info? 3).map (·.size) = some 1 by kernel_rfl) ?_; intro W6 hW; (try rw [act_put_none0]); have hMW6 := Moved.row hW; have hrW6 := row_turnN hrW5 hW (cur' := (row6 5 n1 (-1) ByteArray.empty (.slice none 0 0) (.slice none 0 0))) rfl; clear hW)
        go_meet
        exact ⟨_, _, hMW6.below hb5 (by omega), (hMW6.other w.heap.size (by omega)).trans hs5, by rw [HXE.out]; exact (by rw [if_pos (HW2.out.symm.trans HQ.out), ← HN1.out]; exact hrW6), by rw [HXE.out]; exact fresh_ap (nil_freshB (w.heap.size + 1) _) (by omega), by rw [HXE.out]; exact fresh_ap (nil_freshB (w.heap.size + 1) _) (by omega)⟩
      · have q2 : ¬ w2.toList = [110, 111, 110, 101] := fun h => hq ((toList_iff _ _).1 h)
        have r2 : (w2.toList == [110, 111, 110, 101]) = false := beq_eq_false_iff_ne.2 q2
        have HQ := Lib.hid hq
        clear hq
        go_wp2_with fail
        go_meet
        exact ⟨_, _, hb5, hs5, by rw [HXE.out]; exact (by rw [if_neg (fun h => HQ.out (HW2.out.trans h)), ← HN1.out, ← HN2.out]; exact hrW5), by rw [HXE.out]; exact fresh_ap (nil_freshB (w.heap.size + 1) _) (by omega), by rw [HXE.out]; exact fresh_ap (nil_freshB (w.heap.size + 1) _) (by omega)⟩
    by_cases h7 : wd = ⟨#[111, 117, 116]⟩
    · have q : wd.toList = [111, 117, 116] := (toList_iff _ _).2 h7
      have HXE := Lib.hid (show x = { zeroStep with Kind := 7, A := numAt (partsOf s) 1, Data := unhexS (wordAt (partsOf s) 2).data.toList } from by rw [HX.out]; exact rd_7 (by rw [HWD.out, h7]; unfold kindOf; rfl))
      clear h7
      go_wp2_with fail
      refine (spec_l18Word W1 W2 _ (partsOf s) 1 HWL.out HBW.out).mono ?_
      rintro e w' ⟨rfl, rfl⟩
      go_wp2_with fail
      refine (spec_l18Num W2 (wordAt (partsOf s) 1)).mono ?_
      rintro e W3 ⟨_, rfl, rfl, hb⟩
      have HBW3 := Lib.hid (bel_next HB2.out hb)
      have HBWW3 := Lib.hid (HBW.out.trans (hb.mono HBW.out.size))
      have hsW3 := (hb.block w.heap.size (by omega)).trans hs2
      have htW3 := (hb.block T (by omega)).trans ht2
      have hzW3 := hb.size
      clear hb hs2 ht2
      go_wp2_with fail
      refine (spec_l18Word W1 W3 _ (partsOf s) 2 HWL.out HBWW3.out).mono ?_
      rintro e w' ⟨rfl, rfl⟩
      go_wp2_with fail
      have hsz2 := wordAt_size s 2
      refine (spec_l23Unhex W3 (wordAt (partsOf s) 2) (by omega)).mono ?_
      rintro e W4 ⟨_, rfl, hF, hb⟩
      obtain ⟨da, dn, dc, rfl⟩ := hF.repS.shape
      have HD4 := Lib.hid hF
      have hb4 := bel_next HBW3.out hb
      have hs4 := (hb.block w.heap.size (by omega)).trans hsW3
      have ht4 := (hb.block T (by omega)).trans htW3
      have hz4 := hb.size
      clear hb hF hsW3 htW3
      obtain ⟨n1, hn1⟩ : ∃ n1, n1 = (textNum (wordAt (partsOf s) 1)).1 := ⟨_, rfl⟩
      rw [← hn1]
      have HN1 := Lib.hid (show n1 = numAt (partsOf s) 1 from hn1)
      clear hn1
      go_wp2_with ((with_reducible (show wpList _ _ _ (Oper.mk _ (Op.store 25 _ _) _ _ _ _ :: _) _ _)); refine wpList_store_at rfl 25 _ _ rfl T 0 rfl _ rfl (row6 7 n1 0 ByteArray.empty (.slice da dn dc) (.slice none 0 0)) rfl (row6 0 0 0 ByteArray.empty (.slice none 0 0) (.slice none 0 0)).toArray 25 ht4 (Nat.le_of_ble_eq_true rfl) (by simp [row6, Value.oneCell']) size_step6 ?_; intro W5 hW; (try rw [act_put_none0]); have hMW5 := Moved.row hW; have hrW5 := row_turnN ht4 hW (cur' := (row6 7 n1 0 ByteArray.empty (.slice da dn dc) (.slice none 0 0))) rfl; clear hW)
      go_meet
      exact ⟨_, _, hMW5.below hb4 (by omega), (hMW5.other w.heap.size (by omega)).trans hs4, by rw [HXE.out]; exact (by rw [← HN1.out]; exact hrW5), by rw [HXE.out]; exact fresh_ap (freshS_one HD4.out hMW5 (by omega)) (by omega), by rw [HXE.out]; exact fresh_ap (nil_freshB (w.heap.size + 1) _) (by omega)⟩
    by_cases h4 : wd = ⟨#[99, 114, 97, 115, 104]⟩
    · have q : wd.toList = [99, 114, 97, 115, 104] := (toList_iff _ _).2 h4
      have HXE := Lib.hid (show x = { zeroStep with Kind := 4, A := numAt (partsOf s) 1, Cuts := ((partsOf s).drop 2).map fun w => (textNum w).1 } from by rw [HX.out]; exact rd_4 (by rw [HWD.out, h4]; unfold kindOf; rfl))
      clear h4
      go_wp2_with fail
      refine (spec_l18Word W1 W2 _ (partsOf s) 1 HWL.out HBW.out).mono ?_
      rintro e w' ⟨rfl, rfl⟩
      go_wp2_with fail
      refine (spec_l18Num W2 (wordAt (partsOf s) 1)).mono ?_
      rintro e W3 ⟨_, rfl, rfl, hb⟩
      have HBW3 := Lib.hid (bel_next HB2.out hb)
      have HBWW3 := Lib.hid (HBW.out.trans (hb.mono HBW.out.size))
      have hsW3 := (hb.block w.heap.size (by omega)).trans hs2
      have htW3 := (hb.block T (by omega)).trans ht2
      have hzW3 := hb.size
      clear hb hs2 ht2
      obtain ⟨n1, hn1⟩ : ∃ n1, n1 = (textNum (wordAt (partsOf s) 1)).1 := ⟨_, rfl⟩
      rw [← hn1]
      have HN1 := Lib.hid (show n1 = numAt (partsOf s) 1 from hn1)
      clear hn1
      go_upto_region 12 with ((with_reducible (show wpList _ _ _ (Oper.mk _ (Op.store 25 _ _) _ _ _ _ :: _) _ _)); refine wpList_store_at rfl 25 _ _ rfl T 0 rfl _ rfl (row6 4 n1 0 ByteArray.empty (.slice none 0 0) (.slice none 0 0)) rfl (row6 0 0 0 ByteArray.empty (.slice none 0 0) (.slice none 0 0)).toArray 25 htW3 (Nat.le_of_ble_eq_true rfl) (by simp [row6, Value.oneCell']) size_step6 ?_; intro W4 hW; (try rw [act_put_none0]); have hMW4 := Moved.row hW; have hrW4 := row_turnN htW3 hW (cur' := (row6 4 n1 0 ByteArray.empty (.slice none 0 0) (.slice none 0 0))) rfl; clear hW)
      have HB4 := Lib.hid (hMW4.below HBW3.out (by omega))
      have HBW4 := Lib.hid (hMW4.below HBWW3.out (by omega))
      have HS4 := Lib.hid ((hMW4.other w.heap.size (by omega)).trans hsW3)
      have HT4 := Lib.hid hrW4
      have hT4 : T < W4.heap.size := (Array.getElem?_eq_some_iff.1 hrW4).1
      clear hsW3 htW3 hrW4 hMW4
      obtain ⟨a9, c9, e9, -, -, hcw⟩ := strs_open HWL.out
      have ea : (some ⟨bw, ow, none⟩ : Option Addr) = a9 := by injection e9
      obtain ⟨b9, o9, e8, hcw2⟩ := hcw (by intro e; have := HL.out; rw [e] at this; simp at this; omega)
      rw [← ea] at e8
      cases e8
      clear ea e9
      have HCW := Lib.hid hcw2
      clear hcw hcw2
      go_wp2_with fail
      go_loopw [6] (fun iv wr => ∃ (k cn cc : Nat) (ca : Option Addr), 2 ≤ k ∧ (k ≤ L ∨ k = 2) ∧ iv = .int .i64 (k : Int) ∧ Hid (Below w.heap.size w wr) ∧ Hid (Below W1.heap.size W1 wr) ∧ Hid (wr.heap[w.heap.size]? = some (.cells (row6 0 0 0 ByteArray.empty (.slice none 0 0) (.slice none 0 0)).toArray 25 (0, 0))) ∧ Hid (wr.heap[T]? = some (.cells (row6 4 n1 0 ByteArray.empty (.slice none 0 0) (.slice ca cn cc)).toArray 25 (0, 0))) ∧ Hid (FreshS W4.heap.size wr (.slice ca cn cc) ((((partsOf s).drop 2).take (k - 2)).map fun w => (textNum w).1)) ∧ W4.heap.size ≤ wr.heap.size) (fun iv _ => L - (intOf iv).toNat)
      case atStart => exact ⟨2, 0, 0, none, by omega, .inr rfl, rfl, HB4.out, HBW4.out, HS4.out, HT4.out, by show FreshS _ _ _ _; simpa using nil_freshB _ _, Nat.le_refl _⟩
      case round =>
        obtain ⟨k, cn, cc, ca, hk2, hkL, rfl, HBr, HBWr, HSr, HTr, HFr, hzr⟩ := hrel
        by_cases hlt : k < L
        · have d1 : decide ((k : Int) < (L : Int)) = true := decide_eq_true (by omega)
          have k0 : (0 : Int) ≤ (k : Int) := by omega
          have k1 : (k : Int) < (L : Int) := by omega
          have k1n : k < L := hlt
          obtain ⟨p, hp⟩ : ∃ p, (partsOf s)[k]? = some p := ⟨(partsOf s)[k]'(by rw [← HL.out]; exact hlt), by simp [← HL.out, hlt]⟩
          have kx := HCW.out k p hp
          have kp : wr.cell? ⟨bw, ow + k, none⟩ = some (.string p) := (HBWr.out.cell (p := ⟨bw, ow + k, none⟩) (World.block_lt_of_cell? W1 _ kx)).trans kx
          have hbl := World.block_lt_of_cell? wr _ kp
          have hbl1 : bw < W1.heap.size := World.block_lt_of_cell? W1 _ kx
          have HNX := Lib.hid (show (((partsOf s).drop 2).take (k + 1 - 2)).map (fun w => (textNum w).1) = (((partsOf s).drop 2).take (k - 2)).map (fun w => (textNum w).1) ++ [(textNum p).1] from by
            rw [show k + 1 - 2 = (k - 2) + 1 by omega, List.take_add_one, List.getElem?_drop, show 2 + (k - 2) = k by omega, hp, List.map_append]
            rfl)
          have hflen : ((((partsOf s).drop 2).take (k - 2)).map fun w => (textNum w).1).length ≤ L := by rw [List.length_map, List.length_take, List.length_drop, ← HL.out]; omega
          clear kx hp
          go_wp2_with fail
          refine wp_region_chain 10 (fun w' => w'.rangeAt T 0 (row6 4 n1 0 ByteArray.empty (.slice none 0 0) (.slice ca cn cc)) ∧ w'.cell? ⟨bw, ow + k, none⟩ = some (.string p)) (by kernel_rfl) ⟨range_row0 (w := wr.drew) (cs := (row6 4 n1 0 ByteArray.empty (.slice none 0 0) (.slice ca cn cc))) HTr.out, kp⟩ (fun hHeld => ?_)
          have hbd := bel_drew0 wr
          have htd : wr.drew.heap[T]? = _ := HTr.out
          obtain ⟨v5, hWd⟩ : ∃ W, W = wr.drew := ⟨_, rfl⟩
          rw [← hWd] at hHeld hbd htd ⊢
          clear hWd kp
          have hT5 : T < v5.heap.size := (Array.getElem?_eq_some_iff.1 htd).1
          have HF5 := Lib.hid (HFr.out.grow0 hbd)
          have HB5 := Lib.hid (bel_next HBr.out hbd)
          have HBW5 := Lib.hid (HBWr.out.trans (hbd.mono HBWr.out.size))
          have hs5 := (hbd.block w.heap.size (by omega)).trans HSr.out
          have hz5 := hbd.size
          clear hbd
          (refine wpChain_take (i := 0) (v := ?_) rfl rfl rfl (by kernel_rfl) (by kernel_rfl) (by kernel_rfl) (by kernel_rfl) (fun _ _ _ h => h) (.inl ⟨by rfl, ?_⟩) hHeld ?_; rotate_left; (focus (intro wq hwq; go_simp; (try with_reducible rfl))); (try simp only [Act.put, List.getElem_toArray, List.getElem_cons_succ, List.getElem_cons_zero, List.setIfInBounds_toArray, List.set_cons_zero, List.set_cons_succ]))
          refine wpChain_take (i := 1) rfl rfl rfl (by kernel_rfl) (by kernel_rfl) (by kernel_rfl) (by kernel_rfl) (fun _ _ _ h => h) (yieldsL_field (by rfl) _ _ rfl T 5 rfl (row6 4 n1 0 ByteArray.empty (.slice none 0 0) (.slice ca cn cc)) (.slice ca cn cc) (fun _ h => h.1) rfl (fun wq hcq => by go_simp)) hHeld ?_
          (try simp only [Act.put, List.getElem_toArray, List.getElem_cons_succ, List.getElem_cons_zero, List.setIfInBounds_toArray, List.set_cons_zero, List.set_cons_succ])
          (refine wpChain_take (i := 2) (v := ?_) rfl rfl rfl (by kernel_rfl) (by kernel_rfl) (by kernel_rfl) (by kernel_rfl) (fun _ _ _ h => h) (.inl ⟨by rfl, ?_⟩) hHeld ?_; rotate_left; (focus (intro wq hwq; go_simp; (try with_reducible rfl))); (try simp only [Act.put, List.getElem_toArray, List.getElem_cons_succ, List.getElem_cons_zero, List.setIfInBounds_toArray, List.set_cons_zero, List.set_cons_succ]))
          (refine wpChain_take (i := 3) (v := ?_) rfl rfl rfl (by kernel_rfl) (by kernel_rfl) (by kernel_rfl) (by kernel_rfl) (fun _ _ _ h => h) (.inl ⟨by rfl, ?_⟩) hHeld ?_; rotate_left; (focus (intro wq hwq; go_simp; (try with_reducible rfl))); (try simp only [Act.put, List.getElem_toArray, List.getElem_cons_succ, List.getElem_cons_zero, List.setIfInBounds_toArray, List.set_cons_zero, List.set_cons_succ]))
          (refine wpChain_take (i := 4) (v := ?_) rfl rfl rfl (by kernel_rfl) (by kernel_rfl) (by kernel_rfl) (by kernel_rfl) (fun _ _ _ h => h) (.inl ⟨by rfl, ?_⟩) hHeld ?_; rotate_left; (focus (intro wq hwq; go_simp; (try with_reducible rfl))); (try simp only [Act.put, List.getElem_toArray, List.getElem_cons_succ, List.getElem_cons_zero, List.setIfInBounds_toArray, List.set_cons_zero, List.set_cons_succ]))
          refine wpChain_take (i := 5) (v := .string p) rfl rfl rfl (by kernel_rfl) (by kernel_rfl) (by kernel_rfl) (by kernel_rfl) (fun _ _ _ h => h) (.inl ⟨by rfl, fun wq hwq => ?_⟩) hHeld ?_
          · have hcq := hwq.2
            clear hwq
            go_simp
          (try simp only [Act.put, List.getElem_toArray, List.getElem_cons_succ, List.getElem_cons_zero, List.setIfInBounds_toArray, List.set_cons_zero, List.set_cons_succ])
          refine wpChain_step (i := 6) rfl (by kernel_rfl) (fun K hK => ?_)
          go_simp
          refine (spec_l18Num v5 p).mono ?_
          rintro e v6 ⟨_, rfl, rfl, hb⟩
          have ht6 := (hb.block T hT5).trans htd
          have hT6 : T < v6.heap.size := Nat.lt_of_lt_of_le hT5 hb.size
          have hc6 := (hb.cell (p := ⟨bw, ow + k, none⟩) (by have : bw < v5.heap.size := Nat.lt_of_lt_of_le hbl hz5; exact this)).trans hHeld.2
          have HF6 := Lib.hid (HF5.out.grow0 hb)
          have HB6 := Lib.hid (bel_next HB5.out hb)
          have HBW6 := Lib.hid (HBW5.out.trans (hb.mono HBW5.out.size))
          have hs6 := (hb.block w.heap.size (by omega)).trans hs5
          have hz6 := hb.size
          refine hK.out _ _ ⟨range_row0 ht6, hc6⟩ ?_
          clear hK K hHeld hb htd hs5
          (try simp only [Act.put, List.getElem_toArray, List.getElem_cons_succ, List.getElem_cons_zero, List.setIfInBounds_toArray, List.set_cons_zero, List.set_cons_succ])
          obtain ⟨np, hnp⟩ : ∃ np, np = (textNum p).1 := ⟨_, rfl⟩
          rw [← hnp]
          rw [← hnp] at HNX
          have hi64 : I64 np := by have := num_bounds p; rw [← hnp] at this; exact ⟨by omega, by omega⟩
          clear hnp
          refine wpChain_step (i := 7) rfl (by kernel_rfl) (fun K hK => ?_)
          go_simp
          generalize hwb : World.alloc v6 _ = v7
          have hba : Below v6.heap.size v6 v7 := by rw [← hwb]; exact bel_alloc (Below.refl _ _) _
          have HLIT := Lib.hid (show RepS v7 (.slice (some ⟨v6.heap.size, 0, none⟩) 1 1) [np] from by rw [← hwb]; exact int_lit0 hi64)
          have ht7 := (hba.block T hT6).trans ht6
          have hc7 := (hba.cell (p := ⟨bw, ow + k, none⟩) (by have : bw < v6.heap.size := (by omega); exact this)).trans hc6
          have HF7 := Lib.hid (HF6.out.grow0 hba)
          have HB7 := Lib.hid (bel_next HB6.out hba)
          have HBW7 := Lib.hid (HBW6.out.trans (hba.mono HBW6.out.size))
          have hs7 := (hba.block w.heap.size (by omega)).trans hs6
          have hz7 := hba.size
          refine hK.out _ _ ⟨range_row0 ht7, hc7⟩ ?_
          clear hK K hba hwb ht6 hc6 hs6
          (try simp only [Act.put, List.getElem_toArray, List.getElem_cons_succ, List.getElem_cons_zero, List.setIfInBounds_toArray, List.set_cons_zero, List.set_cons_succ])
          refine wpChain_step (i := 8) rfl (by kernel_rfl) (fun K hK => ?_)
          refine step_append_flat (α := Int) rfl _ _ 23 rfl 3 _ _ Tryd.underlying23 info_int rfl rfl (by decide) W4.heap.size (by omega) _ _ rfl HF7.out _ [np] rfl HLIT.out (by simp; omega) (by simp; omega) ?_
          intro vv v8 hF8 hb8
          obtain ⟨ca8, cn8, cc8, rfl⟩ := hF8.repS.shape
          rw [← HNX.out] at hF8
          have ht8 := (hb8.block T hT4).trans ht7
          have hs8 := (hb8.block w.heap.size (by omega)).trans hs7
          have hc8 := (hb8.cell (p := ⟨bw, ow + k, none⟩) (by have := HBW4.out.size; have : bw < W4.heap.size := (by omega); exact this)).trans hc7
          have HF8 := Lib.hid hF8
          have hB8 := HB7.out.trans (hb8.mono (by omega))
          have hBW8 := HBW7.out.trans (hb8.mono (by omega))
          have hz8 := hb8.size
          refine hK.out _ _ ⟨range_row0 ht8, hc8⟩ ?_
          replace hHeld := And.intro (range_row0 ht8) hc8
          clear hK K hF8 hb8 ht7 hs7 hc7
          (try simp only [Act.put, List.getElem_toArray, List.getElem_cons_succ, List.getElem_cons_zero, List.setIfInBounds_toArray, List.set_cons_zero, List.set_cons_succ])
          (refine wpChain_take (i := 9) (v := ?_) rfl rfl rfl (by kernel_rfl) (by kernel_rfl) (by kernel_rfl) (by kernel_rfl) (fun _ _ _ h => h) (.inl ⟨by rfl, ?_⟩) hHeld ?_; rotate_left; (focus (intro wq hwq; go_simp; (try with_reducible rfl))); (try simp only [Act.put, List.getElem_toArray, List.getElem_cons_succ, List.getElem_cons_zero, List.setIfInBounds_toArray, List.set_cons_zero, List.set_cons_succ]))
          refine wpChain_store rfl rfl (by kernel_rfl) (by kernel_rfl) rfl 23 _ _ rfl T 5 rfl _ rfl [.slice ca8 cn8 cc8] rfl (row6 4 n1 0 ByteArray.empty (.slice none 0 0) (.slice ca cn cc)).toArray 25 (RowAt.of ht8) (Nat.le_of_ble_eq_true rfl) (by simp [Value.oneCell']) (show (Tryd.prog.info? 23).map (·.size) = some 1 by kernel_rfl) ?_
          intro v9 hW
          have hM9 := Moved.row hW
          have ht9 := row_turnN ht8 hW (cur' := (row6 4 n1 0 ByteArray.empty (.slice none 0 0) (.slice ca8 cn8 cc8))) rfl
          clear hW
          (try simp only [Act.put, List.getElem_toArray, List.getElem_cons_succ, List.getElem_cons_zero, List.setIfInBounds_toArray, List.set_cons_zero, List.set_cons_succ])
          go_wp2_with fail
          go_roundw
          case rel => exact ⟨k + 1, cn8, cc8, ca8, by omega, .inl (by omega), by go_num, hM9.below hB8 (by omega), hM9.below hBW8 (by omega), (hM9.other w.heap.size (by omega)).trans hs8, ht9, freshS_one HF8.out hM9 hT4, by have := hM9.size; omega⟩
          case measure => simp [intOf]; omega
        · have d1 : decide ((k : Int) < (L : Int)) = false := decide_eq_false (by omega)
          have HCT := Lib.hid (show (((partsOf s).drop 2).take (k - 2)).map (fun w => (textNum w).1) = ((partsOf s).drop 2).map (fun w => (textNum w).1) from by rw [List.take_of_length_le (by rw [List.length_drop, ← HL.out]; omega)])
          go_wp2_with fail
          go_meet
          exact ⟨_, _, HBr.out, HSr.out, by rw [HXE.out]; exact (by rw [← HN1.out]; exact HTr.out), by rw [HXE.out]; exact fresh_ap (nil_freshB (w.heap.size + 1) _) (by omega), by rw [HXE.out]; exact (fresh_ap (by rw [← HCT.out]; exact HFr.out) (by omega))⟩
    have q1 : ¬ wd.toList = [115, 116, 97, 114, 116] := fun h => h1 ((toList_iff _ _).1 h)
    have p1 : (wd.toList == [115, 116, 97, 114, 116]) = false := beq_eq_false_iff_ne.2 q1
    have q2 : ¬ wd.toList = [115, 121, 110, 99] := fun h => h2 ((toList_iff _ _).1 h)
    have p2 : (wd.toList == [115, 121, 110, 99]) = false := beq_eq_false_iff_ne.2 q2
    have q3 : ¬ wd.toList = [112, 97, 99, 107] := fun h => h3 ((toList_iff _ _).1 h)
    have p3 : (wd.toList == [112, 97, 99, 107]) = false := beq_eq_false_iff_ne.2 q3
    have q4 : ¬ wd.toList = [99, 114, 97, 115, 104] := fun h => h4 ((toList_iff _ _).1 h)
    have p4 : (wd.toList == [99, 114, 97, 115, 104]) = false := beq_eq_false_iff_ne.2 q4
    have q5 : ¬ wd.toList = [112, 111, 119, 101, 114] := fun h => h5 ((toList_iff _ _).1 h)
    have p5 : (wd.toList == [112, 111, 119, 101, 114]) = false := beq_eq_false_iff_ne.2 q5
    have q6 : ¬ wd.toList = [108, 105, 110, 101] := fun h => h6 ((toList_iff _ _).1 h)
    have p6 : (wd.toList == [108, 105, 110, 101]) = false := beq_eq_false_iff_ne.2 q6
    have q7 : ¬ wd.toList = [111, 117, 116] := fun h => h7 ((toList_iff _ _).1 h)
    have p7 : (wd.toList == [111, 117, 116]) = false := beq_eq_false_iff_ne.2 q7
    have q8 : ¬ wd.toList = [101, 110, 100] := fun h => h8 ((toList_iff _ _).1 h)
    have p8 : (wd.toList == [101, 110, 100]) = false := beq_eq_false_iff_ne.2 q8
    have HXE := Lib.hid (show x = { zeroStep with Kind := 0 } from by rw [HX.out]; exact read_else (by rw [HWD.out]; unfold kindOf; rw [if_neg h1, if_neg h2, if_neg h3, if_neg h4, if_neg h5, if_neg h6, if_neg h7, if_neg h8]) (by decide) (by decide) (by decide) (by decide) (by decide))
    clear h1 h2 h3 h4 h5 h6 h7 h8
    go_wp2_with fail
    go_meet
    exact ⟨_, _, HB2.out, hs2, by rw [HXE.out]; exact ht2, by rw [HXE.out]; exact fresh_ap (nil_freshB (w.heap.size + 1) _) (by omega), by rw [HXE.out]; exact fresh_ap (nil_freshB (w.heap.size + 1) _) (by omega)⟩
  case rest =>
    obtain ⟨vd, vc, HBC, HBX, HRW, HD, HC⟩ := hcut
    obtain ⟨V2, hV2⟩ : ∃ W, W = wc := ⟨_, rfl⟩
    rw [← hV2] at HBC HBX HRW HD HC ⊢
    clear hV2
    have hbx := HBX.out
    have hrw := HRW.out
    have hk := HSM.out.kind
    have ha := HSM.out.a
    have hb := HSM.out.b
    have ht := HSM.out.text
    have HREP := Lib.hid (show ∀ W : World, RepS W vd x.Data → RepS W vc x.Cuts → Rep.rep W [Value.int .i64 x.Kind, .int .i64 x.A, .int .i64 x.B, .string x.Text, vd, vc] x from fun W h1 h2 => DStep.rep_iff.2 ⟨_, _, rfl, ⟨by omega, by omega⟩, ⟨by omega, by omega⟩, ⟨by omega, by omega⟩, by omega, h1, h2⟩)
    have ONEV := Lib.hid (show ∀ u ∈ [Value.int .i64 x.Kind, .int .i64 x.A, .int .i64 x.B, .string x.Text, vd, vc], u.oneCell' = true from Rep.one (HREP.out V2 (HD.out.at_ ()) (HC.out.at_ ())))
    have hTV : T < V2.heap.size := (Array.getElem?_eq_some_iff.1 hrw).1
    clear hk ha hb ht hs2 ht2 kw b0 b0n hL1 hL2 hT2
    by_cases hemp : s.toList = []
    · have HN := Lib.hid (textStep_no (dec := unhexS) (.inl hemp))
      have q1 : (s.toList == []) = true := by rw [hemp]; rfl
      have ONE6 : ∀ u ∈ (row6 0 0 0 ByteArray.empty (.slice none 0 0) (.slice none 0 0)), u.oneCell' = true := by simp [row6, Value.oneCell']
      clear hemp
      go_wp2_with ((with_reducible (show wpList _ _ _ (Oper.mk _ (Op.store 25 _ _) _ _ _ _ :: _) _ _)); refine wpList_store_at rfl 25 _ _ rfl w.heap.size 0 rfl _ rfl (row6 0 0 0 ByteArray.empty (.slice none 0 0) (.slice none 0 0)) rfl (row6 0 0 0 ByteArray.empty (.slice none 0 0) (.slice none 0 0)).toArray 25 hbx (Nat.le_of_ble_eq_true rfl) ONE6 size_step6 ?_; intro X9 hW; (try rw [act_put_none0]); have hMX9 := Moved.row hW; have hrX9 := row_turnN hbx hW (cur' := (row6 0 0 0 ByteArray.empty (.slice none 0 0) (.slice none 0 0))) rfl; clear hW)
      exact bodyPost_ret (results_cell_slot0 Tryd.results5 _ _ w.heap.size 25 (row6 0 0 0 ByteArray.empty (.slice none 0 0) (.slice none 0 0)).toArray (0, 0) _ (.bool false) rfl rfl hrX9 Tryd.underlying25 rfl size_step6) rfl ⟨_, rfl, ⟨(row6 0 0 0 ByteArray.empty (.slice none 0 0) (.slice none 0 0)), by rw [HN.out], by rw [HN.out]; exact zero_rep _⟩, hMX9.below HBC.out (Nat.le_refl _)⟩
    · have q1 : (s.toList == []) = false := by rw [beq_eq_false_iff_ne]; exact hemp
      have HEM := Lib.hid hemp
      clear hemp
      have c0 : V2.cell? ⟨T, 0, none⟩ = some (.int .i64 x.Kind) := cell_at0 hrw rfl
      have c1 : V2.cell? ⟨T, 1, none⟩ = some (.int .i64 x.A) := cell_at0 hrw rfl
      have c2 : V2.cell? ⟨T, 2, none⟩ = some (.int .i64 x.B) := cell_at0 hrw rfl
      have c3 : V2.cell? ⟨T, 3, none⟩ = some (.string x.Text) := cell_at0 hrw rfl
      have c4 : V2.cell? ⟨T, 4, none⟩ = some (vd) := cell_at0 hrw rfl
      have c5 : V2.cell? ⟨T, 5, none⟩ = some (vc) := cell_at0 hrw rfl
      go_wp2_with fail
      refine (spec_StepText' _ [Value.int .i64 x.Kind, .int .i64 x.A, .int .i64 x.B, .string x.Text, vd, vc] x (HREP.out V2 (HD.out.at_ ()) (HC.out.at_ ())) (Nat.le_trans HSM.out.bulk hs)).mono ?_
      rintro e W3 ⟨_, rfl, rfl, hb⟩
      have HB3 := Lib.hid (bel_next HBC.out hb)
      have HD3 := Lib.hid (HD.out.call hb)
      have HC3 := Lib.hid (HC.out.call hb)
      have hs3 := (hb.block w.heap.size (by omega)).trans hbx
      have ht3 := (hb.block T hTV).trans hrw
      clear hb hbx hrw c0 c1 c2 c3 c4 c5
      by_cases hq : stepText x = s
      · have q2 : ((stepText x).toList == s.toList) = true := by rw [str_beq]; exact decide_eq_true hq
        have HN := Lib.hid (textStep_yes HEM.out (by rw [← HX.out]; exact hq))
        clear hq
        have c0 : W3.cell? ⟨T, 0, none⟩ = some (.int .i64 x.Kind) := cell_at0 ht3 rfl
        have c1 : W3.cell? ⟨T, 1, none⟩ = some (.int .i64 x.A) := cell_at0 ht3 rfl
        have c2 : W3.cell? ⟨T, 2, none⟩ = some (.int .i64 x.B) := cell_at0 ht3 rfl
        have c3 : W3.cell? ⟨T, 3, none⟩ = some (.string x.Text) := cell_at0 ht3 rfl
        have c4 : W3.cell? ⟨T, 4, none⟩ = some (vd) := cell_at0 ht3 rfl
        have c5 : W3.cell? ⟨T, 5, none⟩ = some (vc) := cell_at0 ht3 rfl
        have ONE6 := ONEV.out
        go_wp2_with ((with_reducible (show wpList _ _ _ (Oper.mk _ (Op.store 25 _ _) _ _ _ _ :: _) _ _)); refine wpList_store_at rfl 25 _ _ rfl w.heap.size 0 rfl _ rfl [Value.int .i64 x.Kind, .int .i64 x.A, .int .i64 x.B, .string x.Text, vd, vc] rfl (row6 0 0 0 ByteArray.empty (.slice none 0 0) (.slice none 0 0)).toArray 25 hs3 (Nat.le_of_ble_eq_true rfl) ONE6 size_step6 ?_; intro X9 hW; (try rw [act_put_none0]); have hMX9 := Moved.row hW; have hrX9 := row_turnN hs3 hW (cur' := [Value.int .i64 x.Kind, .int .i64 x.A, .int .i64 x.B, .string x.Text, vd, vc]) rfl; clear hW)
        exact bodyPost_ret (results_cell_slot0 Tryd.results5 _ _ w.heap.size 25 [Value.int .i64 x.Kind, .int .i64 x.A, .int .i64 x.B, .string x.Text, vd, vc].toArray (0, 0) _ (.bool true) rfl rfl hrX9 Tryd.underlying25 rfl size_step6) rfl ⟨_, rfl, ⟨[Value.int .i64 x.Kind, .int .i64 x.A, .int .i64 x.B, .string x.Text, vd, vc], by rw [HN.out], by rw [HN.out, ← HX.out]; exact HREP.out X9 (HD3.out.moved hMX9) (HC3.out.moved hMX9)⟩, hMX9.below HB3.out (Nat.le_refl _)⟩
      · have q2 : ((stepText x).toList == s.toList) = false := by rw [str_beq]; exact decide_eq_false hq
        have HN := Lib.hid (textStep_no (dec := unhexS) (s := s) (.inr (by rw [← HX.out]; exact hq)))
        clear hq
        have ONE6 : ∀ u ∈ (row6 0 0 0 ByteArray.empty (.slice none 0 0) (.slice none 0 0)), u.oneCell' = true := by simp [row6, Value.oneCell']
        go_wp2_with ((with_reducible (show wpList _ _ _ (Oper.mk _ (Op.store 25 _ _) _ _ _ _ :: _) _ _)); refine wpList_store_at rfl 25 _ _ rfl w.heap.size 0 rfl _ rfl (row6 0 0 0 ByteArray.empty (.slice none 0 0) (.slice none 0 0)) rfl (row6 0 0 0 ByteArray.empty (.slice none 0 0) (.slice none 0 0)).toArray 25 hs3 (Nat.le_of_ble_eq_true rfl) ONE6 size_step6 ?_; intro X9 hW; (try rw [act_put_none0]); have hMX9 := Moved.row hW; have hrX9 := row_turnN hs3 hW (cur' := (row6 0 0 0 ByteArray.empty (.slice none 0 0) (.slice none 0 0))) rfl; clear hW)
        exact bodyPost_ret (results_cell_slot0 Tryd.results5 _ _ w.heap.size 25 (row6 0 0 0 ByteArray.empty (.slice none 0 0) (.slice none 0 0)).toArray (0, 0) _ (.bool false) rfl rfl hrX9 Tryd.underlying25 rfl size_step6) rfl ⟨_, rfl, ⟨(row6 0 0 0 ByteArray.empty (.slice none 0 0) (.slice none 0 0)), by rw [HN.out], by rw [HN.out]; exact zero_rep _⟩, hMX9.below HB3.out (Nat.le_refl _)⟩
end Go.Proofs.YtjglknaojfnllaaDoor
