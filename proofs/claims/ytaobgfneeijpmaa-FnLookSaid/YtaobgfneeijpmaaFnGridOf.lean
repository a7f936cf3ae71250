/- slices.Repeat at one cell, and the program's gridOf. -/
import Derived.Test.YtaobgfneeijpmaaFnCells
import Derived.Test.YtaobgfneeijpmaaFnBlank
import Derived.Test.YtaobgfneeijpmaaTo
import Derived.Deep.RegionLaw
import Derived.Laws.Bits64b
set_option linter.unusedSimpArgs false
set_option linter.unusedVariables false
namespace Go.Mux
open Go.RowKit
theorem mask_u64 (a : Nat) (ha : a < 4294967296) : bits .and .u64 (a : Int) 4294967295 = (a : Int) := by
  have h := bits_and_u64_nat a 4294967295 (by omega) (by omega)
  have e : a &&& 4294967295 = a := by
    have : a &&& 4294967295 = a % 4294967296 := Nat.and_two_pow_sub_one_eq_mod a 32
    rw [this, Nat.mod_eq_of_lt ha]
  rw [e] at h
  exact h
theorem cvs_replicate_add (k m : Nat) (c : DCell) : cvs (List.replicate (k + m) c) = cvs (List.replicate k c) ++ cvs (List.replicate m c) := by
  rw [← cvs_append, List.replicate_append_replicate]
theorem putAt_mid (a b c : List Value) (k : Nat) (hk : a.length = k) : putAt (a ++ b).toArray k c = (a ++ c ++ b.drop c.length).toArray := by
  subst hk
  unfold putAt
  simp [List.drop_append]
end Go.Mux
namespace Go.Proofs.Ytaobgfneeijpmaa
open Go.RowKit Go.Mux
set_option maxHeartbeats 1000000 in
theorem bits_Mul64_one (w : World) (n : Nat) (hn : n ≤ 4000) : Calls Try.prog 101 #[.int .u64 1, .int .u64 n] w (Pure w (.tuple #[.int .u64 0, .int .u64 n])) := by
  have m1 : bits .and .u64 1 4294967295 = 1 := by simpa using mask_u64 1 (by omega)
  have m2 := mask_u64 n (by omega)
  have m0 : bits .and .u64 0 4294967295 = 0 := by simpa using mask_u64 0 (by omega)
  have d1 : (n : Int) / 4294967296 = 0 := by omega
  have w1 : IntKind.u64.wrap (n : Int) = (n : Int) := by rw [IntKind.wrap_u64]; omega
  go_enter Try.func101, Try.ntmps101
  go_wp2
  try simp only [m1, Int.one_mul, w1, d1, show IntKind.u64.wrap 0 = 0 from by decide, m0, show (0 : Int) / 4294967296 = 0 from by decide, Int.zero_add]
  go_ret2
  exact ⟨rfl, rfl⟩
set_option maxHeartbeats 1000000 in
theorem bits_Mul_one (w : World) (n : Nat) (hn : n ≤ 4000) : Calls Try.prog 95 #[.int .u64 1, .int .u64 n] w (Pure w (.tuple #[.int .u64 0, .int .u64 n])) := by
  go_enter Try.func95, Try.ntmps95
  go_wp2_with (go_at_call 101; refine (bits_Mul64_one _ _ hn).mono ?_; rintro e w' ⟨rfl, rfl⟩)
  go_ret2
  exact ⟨rfl, rfl⟩
set_option maxRecDepth 100000 in
set_option maxHeartbeats 1000000 in
theorem repeat_cell (w : World) (v : Value) (c : DCell) (n : Nat) (h : RepS w v [c]) (h0 : 1 ≤ n) (hn : n ≤ 4000) : Calls Try.prog 85 #[v, .int .i64 n] w
    (Gives w fun r w' => ∃ g, r = .slice (some ⟨g, 0, none⟩) n n ∧ w.heap.size ≤ g ∧ RowAt w' g (cvs (List.replicate n c)).toArray 37) := by
  obtain ⟨a, cap, rfl, hl, hI, hc⟩ := cells_open h
  obtain ⟨b, off, rfl, hc2⟩ := hc (by simp)
  have HC := Lib.hid hc2
  clear h hc hc2 hI
  obtain ⟨hl1, hl2⟩ := hl
  have w1 : IntKind.u64.wrap (n : Int) = (n : Int) := by rw [IntKind.wrap_u64]; omega
  have w2 : IntKind.i64.wrap (n : Int) = (n : Int) := by rw [IntKind.wrap_i64]; omega
  have d1 : decide ((n : Int) < 0) = false := decide_eq_false (by omega)
  have d2 : decide ((9223372036854775807 : Int) < (n : Int)) = false := decide_eq_false (by omega)
  have hmin : Nat.min 1 n = 1 := Nat.min_eq_left h0
  have HCL : Hid ((cvs [c]).length = 1 * 6) := cvs_length [c]
  go_enter Try.func85, Try.ntmps85
  go_wp2_with (first
    | (go_at_call 95; refine (bits_Mul_one _ n hn).mono ?_; rintro e w' ⟨rfl, rfl⟩)
    | (at_make; refine wpList_make_row rfl _ _ _ rfl n rfl rfl 37 _ _ _ Try.underlying23 info_implCell (by omega) (by omega) ?_; generalize hwb : World.alloc w _ = W0; have HB0 := Lib.hid (show Below w.heap.size w W0 from (by rw [← hwb]; exact bel_alloc (Below.refl _ _) _)); have HR0 := Lib.hid (show ∃ rest : List Value, rest.length = n * 6 ∧ RowAt W0 w.heap.size rest.toArray 37 from (by rw [← hwb]; exact ⟨(madeCells _ (n * 6)).toList, by simp [size_madeCells], by simpa using RowAt.of (new_at w _ rfl)⟩)); clear hwb)
    | ((with_reducible (show wpList _ _ _ (Oper.mk (some 33) _ _ _ _ _ :: _) _ _)); go_loud (obtain ⟨rest, hrl, hrow⟩ := HR0.out; refine wpList_copy_rows rfl (.tmp 31) (.tmp 32) 23 23 rfl 37 6 Try.underlying23 size_implCell w.heap.size 0 n n (some ⟨b, off, none⟩) 1 cap rfl rfl rest.toArray 37 hrow (cvs [c]) 1 hmin.symm HCL.out (fun _ => ⟨b, off, rfl, fun j u hu => (HB0.out.cell (p := ⟨b, off + j, none⟩) (World.block_lt_of_cell? w _ (HC.out j u hu))).trans (HC.out j u hu)⟩) (by have := HCL.out; simp only [List.size_toArray]; omega) (cvs_one _) ?_; intro W1 hR hM; have HB1 := Lib.hid (hM.below HB0.out (Nat.le_refl _)); have HR1 := Lib.hid (show ∃ rest : List Value, 1 * 6 + rest.length = n * 6 ∧ RowAt W1 w.heap.size (cvs (List.replicate 1 c) ++ rest).toArray 37 from ⟨rest.drop 6, by rw [List.length_drop]; omega, (by have e := putAt_mid [] rest (cvs [c]) 0 rfl; rw [List.nil_append, HCL.out] at e; rw [e] at hR; exact hR)⟩); clear hR hM hrow hrl)))
  go_loopw [8] (fun nv wr => ∃ k : Nat, 1 ≤ k ∧ k ≤ n ∧ nv = .int .i64 k ∧ Hid (∃ rest : List Value, k * 6 + rest.length = n * 6 ∧ RowAt wr w.heap.size (cvs (List.replicate k c) ++ rest).toArray 37) ∧ Hid (Below w.heap.size w wr)) (fun nv _ => n - (intOf nv).toNat)
  case atStart => exact ⟨1, Nat.le_refl _, h0, rfl, HR1.out, HB1.out⟩
  case round =>
    obtain ⟨k, hk1, hk, rfl, HR, HB⟩ := hrel
    by_cases hlt : k < n
    · have d3 : decide ((k : Int) < (n : Int)) = true := decide_eq_true (by omega)
      have d4 : decide (k < n) = true := decide_eq_true hlt
      obtain ⟨m, hm⟩ : ∃ m, m = Nat.min k (n - k) := ⟨_, rfl⟩
      have hmk : m ≤ k := by rw [hm]; exact Nat.min_le_left _ _
      have hmn : m ≤ n - k := by rw [hm]; exact Nat.min_le_right _ _
      have hm1 : 1 ≤ m := by rw [hm]; exact Nat.le_min.2 ⟨hk1, by omega⟩
      have HMM := Lib.hid hm
      have hsum : IntKind.i64.wrap ((k : Int) + (m : Int)) = ((k + m : Nat) : Int) := by rw [IntKind.wrap_i64]; omega
      have k0 : (0 : Int) ≤ (k : Int) := by omega
      have k1 : (k : Int) ≤ (n : Int) := by omega
      clear hm
      obtain ⟨rest, hrl, hrow⟩ := HR.out
      have HW := Lib.hid (show RowAt wr.drew w.heap.size (cvs (List.replicate k c) ++ rest).toArray 37 from hrow.keep rfl)
      have HLk : Hid ((cvs (List.replicate k c)).length = k * 6) := (cvs_length _).trans (by rw [List.length_replicate])
      have HLm : Hid ((cvs (List.replicate m c)).length = m * 6) := (cvs_length _).trans (by rw [List.length_replicate])
      have HRL := Lib.hid hrl
      have HSRC := Lib.hid (show ∀ (j : Nat) v, (cvs (List.replicate m c))[j]? = some v → wr.drew.cell? ⟨w.heap.size, 0 + j, none⟩ = some v from fun j v hv => by
        rw [Nat.zero_add, HW.out.cell]
        have hj : j < (cvs (List.replicate m c)).length := by rw [List.getElem?_eq_some_iff] at hv; exact hv.1
        have e : cvs (List.replicate k c) = cvs (List.replicate m c) ++ cvs (List.replicate (k - m) c) := by rw [← cvs_replicate_add, Nat.add_sub_cancel' hmk]
        rw [List.getElem?_toArray, e, List.append_assoc, List.getElem?_append_left hj]
        exact hv)
      clear hrow hrl
      go_wp2_with fail
      go_region_law (refine step_copy_rows rfl (.tmp 41) (.tmp 44) 23 23 rfl 37 6 Try.underlying23 size_implCell w.heap.size (k * 6) (n - k) (n - k) (some ⟨w.heap.size, 0, none⟩) k n (by simp [Act.eval, Act.put]; omega) (by simp [Act.eval, Act.put]) _ 37 HW.out (cvs (List.replicate m c)) m HMM.out HLm.out (fun _ => ⟨w.heap.size, 0, rfl, HSRC.out⟩) (by have := HLm.out; have := HLk.out; have := HRL.out; have : m * 6 ≤ (n - k) * 6 := Nat.mul_le_mul_right _ hmn; have : (n - k) * 6 = n * 6 - k * 6 := Nat.sub_mul n k 6; simp only [List.size_toArray, List.length_append]; omega) (cvs_one _) ?_; intro W2 hR hM; have HB2 := Lib.hid (hM.below (show Below w.heap.size w wr.drew from HB.out.drew) (Nat.le_refl _)); have HR2 := Lib.hid (show ∃ rest : List Value, (k + m) * 6 + rest.length = n * 6 ∧ RowAt W2 w.heap.size (cvs (List.replicate (k + m) c) ++ rest).toArray 37 from ⟨rest.drop (m * 6), by have := HRL.out; have : m * 6 ≤ (n - k) * 6 := Nat.mul_le_mul_right _ hmn; have : (n - k) * 6 = n * 6 - k * 6 := Nat.sub_mul n k 6; rw [List.length_drop, Nat.add_mul]; omega, by have e := putAt_mid (cvs (List.replicate k c)) rest (cvs (List.replicate m c)) (k * 6) HLk.out; rw [HLm.out] at e; rw [e] at hR; rw [cvs_replicate_add]; exact hR⟩); clear hR hM)
      go_wp2_with fail
      go_roundw
      case rel => exact ⟨k + m, by omega, by omega, by omega, HR2.out⟩
      case measure => simp [intOf]; omega
    · have d3 : decide ((k : Int) < (n : Int)) = false := decide_eq_false (by omega)
      have d4 : decide (k < n) = false := decide_eq_false hlt
      obtain rfl : k = n := by omega
      go_wp2_with fail
      go_ret
      refine ⟨_, rfl, ⟨_, rfl, Nat.le_refl _, ?_⟩, HB.out⟩
      obtain ⟨rest, hrl, hrow⟩ := HR.out
      obtain rfl : rest = [] := List.eq_nil_of_length_eq_zero (by omega)
      simpa using hrow
theorem blank_row (w : World) : RepS (w.alloc (.cells #[.int .i64 32, .int .i64 0, .int .i64 0, .bool false, .bool false, .bool false] 37)) (.slice (some ⟨w.heap.size, 0, none⟩) 1 1) [blankC] := by
  have e : cvs [blankC] = [.int .i64 32, .int .i64 0, .int .i64 0, .bool false, .bool false, .bool false] := by rw [cvs_cons, cvs_nil]; rfl
  refine (cells_own (l := [blankC]) (g := w.heap.size) (by rw [e]; exact RowAt.of (new_at _ _ rfl)) (fun c hc => ?_) (by simp)).repS
  obtain rfl : c = blankC := by simpa using hc
  unfold cellI
  exact ⟨⟨by decide, by decide⟩, ⟨by decide, by decide⟩, ⟨by decide, by decide⟩⟩
set_option maxRecDepth 100000 in
set_option maxHeartbeats 1000000 in
/-- A grid of blanks: its cells lie in a row of the call's own. -/
theorem impl_gridOf (w : World) (W H : Int) (n : Nat) (hs : isSizeB W H = true) (hn : W * H = (n : Int)) : Calls Try.prog 62 #[.int .i64 W, .int .i64 H] w
    (Gives w fun r w' => ∃ g, r = .agg #[.int .i64 W, .int .i64 H, .slice (some ⟨g, 0, none⟩) n n] ∧ w.heap.size ≤ g ∧ RowAt w' g (cvs (List.replicate n blankC)).toArray 37) := by
  obtain ⟨s1, s2, s3, s4, s5, s6⟩ := isSizeB_true hs
  clear hs
  have hw : IntKind.i64.wrap (W * H) = (n : Int) := by rw [hn, IntKind.wrap_i64]; omega
  have n1 : 1 ≤ n := by omega
  have n2 : n ≤ 4000 := by omega
  clear hn s5 s6
  go_enter Try.func62, Try.ntmps62
  go_wp2_with fail
  generalize hwb : World.alloc w _ = W0
  have HB0 := Lib.hid (show Below w.heap.size w W0 from by rw [← hwb]; exact bel_alloc (Below.refl _ _) _)
  have hz0 : w.heap.size < W0.heap.size := by rw [← hwb]; simp
  have hr0 : W0.heap[w.heap.size]? = some (.cells #[.int .i64 0, .int .i64 0, .slice none 0 0] 25 (0, 0)) := by rw [← hwb]; exact new_at _ _ rfl
  clear hwb
  refine (impl.blank' _).mono ?_
  rintro e W1 ⟨_, rfl, rfl, hb⟩
  have HB1 := Lib.hid (bel_next HB0.out hb)
  have hr1 := (hb.block w.heap.size hz0).trans hr0
  have hz1 : w.heap.size < W1.heap.size := Nat.lt_of_lt_of_le hz0 hb.size
  clear hb hr0
  go_wp2_with fail
  refine (repeat_cell _ _ blankC n (blank_row W1) n1 n2).mono ?_
  rintro e W2 ⟨_, rfl, ⟨g, rfl, hg, hrow⟩, hb⟩
  have HB2 := Lib.hid (bel_next (bel_alloc HB1.out _) hb)
  have hr2 := (hb.block w.heap.size (by simp; omega)).trans ((Below.heap_alloc _ _ _ hz1).trans hr1)
  have hgw : w.heap.size < g := by simp at hg; omega
  have HROW := Lib.hid hrow
  clear hb hr1 hrow hg
  go_wp2_with ((with_reducible (show wpList _ _ _ (Oper.mk _ (Op.store 25 _ _) _ _ _ _ :: _) _ _)); refine wpList_store_at rfl 25 _ _ rfl w.heap.size 0 rfl _ rfl [.int .i64 W, .int .i64 H, .slice (some ⟨g, 0, none⟩) n n] rfl #[.int .i64 0, .int .i64 0, .slice none 0 0] 25 hr2 (Nat.le_of_ble_eq_true rfl) (by simp [Value.oneCell']) size_implGrid ?_; intro W3 hW; have hM := Moved.row hW; have hr3 : W3.heap[w.heap.size]? = some (.cells #[.int .i64 W, .int .i64 H, .slice (some ⟨g, 0, none⟩) n n] 25 (0, 0)) := (by rw [hW, setRow_heap _ _ _ _ _ _ hr2]; rfl); clear hW)
  exact bodyPost_ret (results_cell_row Try.results62 _ _ w.heap.size 25 #[.int .i64 W, .int .i64 H, .slice (some ⟨g, 0, none⟩) n n] (0, 0) _ rfl hr3 Try.underlying25 rfl size_implGrid) rfl ⟨_, rfl, ⟨g, rfl, by omega, HROW.out.keep (hM.other g (by omega))⟩, hM.below HB2.out (Nat.le_refl _)⟩
end Go.Proofs.Ytaobgfneeijpmaa
