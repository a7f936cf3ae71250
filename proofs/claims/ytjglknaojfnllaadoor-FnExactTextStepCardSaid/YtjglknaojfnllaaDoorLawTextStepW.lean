/- The walk of the exact law of TextStep. -/
import Derived.Test.YtjglknaojfnllaaDoorFnStepMark
import Derived.Test.YtjglknaojfnllaaDoorFnTextStepS
import Derived.Test.YtjglknaojfnllaaDoorEq
import Derived.Test.YtjglknaojfnllaaDoorHeld
set_option linter.unusedSimpArgs false
set_option linter.unusedVariables false
namespace Go.Mux
open Go.RowKit
theorem text_small (s : ByteArray) : Small (textStep unhexI s).1 s.size := by
  by_cases h : s.toList = []
  · rw [textStep_no (.inl h)]; exact small_zero _
  · by_cases h2 : stepText (readStep unhexI s) = s
    · rw [textStep_yes h h2]; exact read_small unhexI_bulk s
    · rw [textStep_no (.inr h2)]; exact small_zero _
theorem marked_below {lo B : Nat} {w W W' : World} {fp : List Nat} (h : Below w.heap.size w W) (hm : MarkedOn fp W W') (hf : ∀ b ∈ fp, lo ≤ b ∧ b < B) (hl : w.heap.size ≤ lo) : Below w.heap.size w W' :=
  h.trans (hm.below h.size fun b hb => Nat.le_trans hl (hf b hb).1)
end Go.Mux
namespace Go.Proofs.YtjglknaojfnllaaDoor
open Go.RowKit Go.Mux
set_option maxRecDepth 100000 in
set_option maxHeartbeats 4000000 in
theorem law_TextStep (w : World) (s : ByteArray) (he : ENV w) :
    Calls Tryd.prog 3 #[.string s] w fun e w' => e = .returned (.bool true) ∧ Below w.heap.size w w' := by
  have HE := Lib.hid he
  clear he
  have HB := Lib.hid (Below.refl w.heap.size w)
  by_cases hs : s.size ≤ 1048576
  · obtain ⟨x, b, hx⟩ : ∃ x b, textStep unhexI s = (x, b) := ⟨_, _, rfl⟩
    have hx2 : textStep unhexS s = (x, b) := (textStep_same s).symm.trans hx
    have HSM := Lib.hid (show Small x s.size by have := text_small s; rw [hx] at this; exact this)
    have HI := Lib.hid (fun (W : World) (h : ENV W) => show Calls Tryd.prog 6 #[.string s] W (Gives W fun r w' => ∃ cs, r = .tuple #[.agg cs.toArray, .bool b] ∧ StepAt W.heap.size w' cs x) by have := impl_TextStep' W s hs h; rw [hx] at this; exact this)
    have HSP := Lib.hid (fun (W : World) (h : ENV W) => show Calls Tryd.prog 5 #[.string s] W (Gives W fun r w' => ∃ cs, r = .tuple #[.agg cs.toArray, .bool b] ∧ Rep.rep w' cs x) by have := spec_TextStep' W s hs; rw [hx2] at this; exact this)
    clear hx hx2
    go_enter Tryd.func3, Tryd.ntmps3
    go_wp2_with fail
    refine (HSP.out _ HE.out).mono ?_
    rintro e W1 ⟨_, rfl, ⟨cw, rfl, hr⟩, hb⟩
    replace HB := Lib.hid (bel_step HB.out hb)
    have Rw := Lib.hid hr
    have Lw := Lib.hid (Rep.len hr)
    have ONEw := Lib.hid (Rep.one hr)
    have z1 := hb.size
    clear hr hb
    go_wp2_with (first | ((with_reducible (show wpList _ _ _ (Oper.mk _ (Op.store 25 (Operand.tmp 3) _) _ _ _ _ :: _) _ _)); refine wpList_store_at rfl 25 _ _ rfl _ 0 rfl _ rfl cw rfl _ _ (heap_alloc_new _ _) (by rw [Lw.out]; decide) ONEw.out (by rw [Lw.out]; exact size_implStep) ?_; intro W2 hW; obtain ⟨hb, hX, hzz⟩ := store_new hW (by rw [Lw.out]; rfl); clear hW; replace HB := Lib.hid (bel_step HB.out hb); replace Rw := Lib.hid (Rep.mono Rw.out hb); have HB2 := Lib.hid (Below.refl W2.heap.size W2); have X3 := Lib.hid hX; have z2 : W1.heap.size + 1 ≤ W2.heap.size := (by omega); clear hX hzz hb))
    refine (HI.out _ (HE.out.mono HB.out)).mono ?_
    rintro e W3 ⟨_, rfl, ⟨cg, rfl, hr⟩, hb⟩
    replace HB := Lib.hid (bel_step HB.out hb)
    replace HB2 := Lib.hid (bel_step HB2.out hb)
    replace X3 := Lib.hid (range_step hb X3.out)
    have SI := Lib.hid hr.in_
    have Lg := Lib.hid hr.one.1
    have ONEg := Lib.hid hr.one.2
    have z3 := hb.size
    clear hr hb
    go_wp2_with (first | ((with_reducible (show wpList _ _ _ (Oper.mk _ (Op.store 25 (Operand.tmp 5) _) _ _ _ _ :: _) _ _)); refine wpList_store_at rfl 25 _ _ rfl _ 0 rfl _ rfl cg rfl _ _ (heap_alloc_new _ _) (by rw [Lg.out]; decide) ONEg.out (by rw [Lg.out]; exact size_implStep) ?_; intro W4 hW; obtain ⟨hb, hX, hzz⟩ := store_new hW (by rw [Lg.out]; rfl); clear hW; replace HB := Lib.hid (bel_step HB.out hb); replace HB2 := Lib.hid (bel_step HB2.out hb); replace X3 := Lib.hid (range_step hb X3.out); replace SI := Lib.hid (StepIn.step hb SI.out); have X5 := Lib.hid hX; have z4 : W3.heap.size + 1 ≤ W4.heap.size := (by omega); clear hX hzz hb) | ((with_reducible (show wpList _ _ _ (Oper.mk _ (Op.load 25 (Operand.tmp 5)) _ _ _ _ :: _) _ _)); refine wpList_load_box rfl 25 _ rfl _ _ rfl cg X5.out Tryd.underlying25 (by rw [Lg.out]; exact size_implStep) ?_) | ((with_reducible (show wpList _ _ _ (Oper.mk _ (Op.load 25 (Operand.tmp 3)) _ _ _ _ :: _) _ _)); refine wpList_load_box rfl 25 _ rfl _ _ rfl cw X3.out Tryd.underlying25 (by rw [Lw.out]; exact size_implStep) ?_))
    refine (eqStep_refl _ cg cw x (StepAt.rep SI.out.at_ HSM.out (by omega)) (Rep.mono Rw.out HB2.out)).mono ?_
    rintro e W5 ⟨_, rfl, rfl, hb⟩
    replace HB := Lib.hid (bel_step HB.out hb)
    replace HB2 := Lib.hid (bel_step HB2.out hb)
    replace X3 := Lib.hid (range_step hb X3.out)
    replace X5 := Lib.hid (range_step hb X5.out)
    replace SI := Lib.hid (StepIn.step hb SI.out)
    have z5 := hb.size
    clear hb
    go_wp2_with (first | ((with_reducible (show wpList _ _ _ (Oper.mk _ (Op.load 25 (Operand.tmp 5)) _ _ _ _ :: _) _ _)); refine wpList_load_box rfl 25 _ rfl _ _ rfl cg X5.out Tryd.underlying25 (by rw [Lg.out]; exact size_implStep) ?_))
    refine (mark_step _ _ _ _ cg x SI.out HSM.out hs (by omega)).mono ?_
    rintro e W6 ⟨k', y, fp, rfl, hk1, hk2, hrep, hh, hm, hfp⟩
    replace HB := Lib.hid (marked_below HB.out hm hfp (by have := HB.out.size; omega))
    replace HB2 := Lib.hid (marked_below HB2.out hm hfp (by omega))
    replace X3 := Lib.hid (range_marked hm hfp X3.out (.inl (by omega)))
    replace X5 := Lib.hid (range_marked hm hfp X5.out (.inr (Nat.le_refl _)))
    have Rg := Lib.hid hrep
    have HH := Lib.hid hh
    have z6 := hm.size
    clear hrep hh hm hfp
    go_wp2_with (first | ((with_reducible (show wpList _ _ _ (Oper.mk _ (Op.load 25 (Operand.tmp 5)) _ _ _ _ :: _) _ _)); refine wpList_load_box rfl 25 _ rfl _ _ rfl cg X5.out Tryd.underlying25 (by rw [Lg.out]; exact size_implStep) ?_))
    refine (heldStep_any _ cg y 1 k' Rg.out HH.out (by omega) hk2).mono ?_
    rintro e W7 ⟨_, rfl, rfl, hb⟩
    replace HB := Lib.hid (bel_step HB.out hb)
    replace HB2 := Lib.hid (bel_step HB2.out hb)
    replace X3 := Lib.hid (range_step hb X3.out)
    replace X5 := Lib.hid (range_step hb X5.out)
    replace Rg := Lib.hid (Rep.mono Rg.out hb)
    have z7 := hb.size
    clear hb
    go_wp2_with fail
    refine (HI.out _ (HE.out.mono HB.out)).mono ?_
    rintro e W8 ⟨_, rfl, ⟨ch, rfl, hr⟩, hb⟩
    replace HB := Lib.hid (bel_step HB.out hb)
    replace HB2 := Lib.hid (bel_step HB2.out hb)
    replace X3 := Lib.hid (range_step hb X3.out)
    replace X5 := Lib.hid (range_step hb X5.out)
    replace Rg := Lib.hid (Rep.mono Rg.out hb)
    have SH := Lib.hid (hr.rep HSM.out (by omega))
    have Lh := Lib.hid hr.one.1
    have ONEh := Lib.hid hr.one.2
    have z8 := hb.size
    clear hr hb
    go_wp2_with (first | ((with_reducible (show wpList _ _ _ (Oper.mk _ (Op.store 25 (Operand.tmp 9) _) _ _ _ _ :: _) _ _)); refine wpList_store_at rfl 25 _ _ rfl _ 0 rfl _ rfl ch rfl _ _ (heap_alloc_new _ _) (by rw [Lh.out]; decide) ONEh.out (by rw [Lh.out]; exact size_implStep) ?_; intro W9 hW; obtain ⟨hb, hX, hzz⟩ := store_new hW (by rw [Lh.out]; rfl); clear hW; replace HB := Lib.hid (bel_step HB.out hb); replace HB2 := Lib.hid (bel_step HB2.out hb); replace X3 := Lib.hid (range_step hb X3.out); replace X5 := Lib.hid (range_step hb X5.out); replace Rg := Lib.hid (Rep.mono Rg.out hb); replace SH := Lib.hid (Rep.mono SH.out hb); have X9 := Lib.hid hX; have z9 : W8.heap.size + 1 ≤ W9.heap.size := (by omega); clear hX hzz hb) | ((with_reducible (show wpList _ _ _ (Oper.mk _ (Op.load 25 (Operand.tmp 9)) _ _ _ _ :: _) _ _)); refine wpList_load_box rfl 25 _ rfl _ _ rfl ch X9.out Tryd.underlying25 (by rw [Lh.out]; exact size_implStep) ?_) | ((with_reducible (show wpList _ _ _ (Oper.mk _ (Op.load 25 (Operand.tmp 3)) _ _ _ _ :: _) _ _)); refine wpList_load_box rfl 25 _ rfl _ _ rfl cw X3.out Tryd.underlying25 (by rw [Lw.out]; exact size_implStep) ?_))
    refine (eqStep_refl _ ch cw x SH.out (Rep.mono Rw.out HB2.out)).mono ?_
    rintro e W10 ⟨_, rfl, rfl, hb⟩
    replace HB := Lib.hid (bel_step HB.out hb)
    replace HB2 := Lib.hid (bel_step HB2.out hb)
    replace X3 := Lib.hid (range_step hb X3.out)
    replace X5 := Lib.hid (range_step hb X5.out)
    replace Rg := Lib.hid (Rep.mono Rg.out hb)
    clear hb
    go_wp2_with (first | ((with_reducible (show wpList _ _ _ (Oper.mk _ (Op.load 25 (Operand.tmp 5)) _ _ _ _ :: _) _ _)); refine wpList_load_box rfl 25 _ rfl _ _ rfl cg X5.out Tryd.underlying25 (by rw [Lg.out]; exact size_implStep) ?_))
    refine (heldStep_any _ cg y 1 k' Rg.out HH.out (by omega) hk2).mono ?_
    rintro e W11 ⟨_, rfl, rfl, hb⟩
    replace HB := Lib.hid (bel_step HB.out hb)
    replace HB2 := Lib.hid (bel_step HB2.out hb)
    replace X3 := Lib.hid (range_step hb X3.out)
    replace X5 := Lib.hid (range_step hb X5.out)
    replace Rg := Lib.hid (Rep.mono Rg.out hb)
    clear hb
    go_wp2_with fail
    go_ret
    exact ⟨rfl, HB.out⟩
  · go_enter Tryd.func3, Tryd.ntmps3
    go_wp2_with fail
    go_ret
    exact ⟨rfl, HB.out⟩
end Go.Proofs.YtjglknaojfnllaaDoor
