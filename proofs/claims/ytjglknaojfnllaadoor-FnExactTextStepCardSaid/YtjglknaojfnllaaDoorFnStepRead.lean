/- The walk of the program's stepRead: what a line may tell. -/
import Derived.Test.YtjglknaojfnllaaDoorFnNumbers
import Derived.Test.YtjglknaojfnllaaDoorMaps2
import Derived.Test.YtjglknaojfnllaaDoorBig
import Derived.Deep.CutRange
set_option linter.unusedSimpArgs false
set_option linter.unusedVariables false
namespace Go.Mux
open Go.RowKit
/-- The cuts of a step that was read: nothing, or a stretch of a block of the call's own. -/
def CutsAt (lo : Nat) (W : World) (v : Value) (l : List Int) : Prop :=
  (v = .slice none 0 0 ∧ l = []) ∨ ∃ (g : Nat) (pre post : List Int), v = .slice (some ⟨g, pre.length, none⟩) l.length l.length ∧ lo ≤ g ∧ l.length ≤ 1048576 ∧ W.heap[g]? = some (.cells ((((pre ++ l) ++ post).map (Value.int .i64 ·)).toArray) 3 (0, 0))
theorem nil_freshB {α : Type} [Rep α] (lo : Nat) (W : World) : FreshS lo W (.slice none 0 0) ([] : List α) := ⟨[], ⟨[], [], ⟨by simp, .inl ⟨rfl, rfl⟩⟩, by simp, rfl, rfl, by simp, by simp [Value.ownBlock]⟩, by simp, by simp⟩
/-- A step that was read. -/
def StepAt (lo : Nat) (W : World) (cs : List Value) (x : DStep) : Prop :=
  ∃ vd vc, cs = [.int .i64 x.Kind, .int .i64 x.A, .int .i64 x.B, .string x.Text, vd, vc] ∧ FreshS lo W vd x.Data ∧ CutsAt lo W vc x.Cuts ∧ (vd = .slice none 0 0 ∨ vc = .slice none 0 0)
theorem act_put_none0 (a : Act) (v : Value) : a.put none v = a := rfl
theorem cell_at0 {w : World} {g k : Nat} {cs : List Value} {t : TypeId} {fr : Nat × Nat} {v : Value} (h : w.heap[g]? = some (.cells cs.toArray t fr)) (hk : cs[k]? = some v) : w.cell? ⟨g, k, none⟩ = some v := by
  rw [cell_of_row w g k cs.toArray t fr h]
  simpa using hk
theorem range_row0 {w : World} {g : Nat} {cs : List Value} {t : TypeId} {fr : Nat × Nat} (h : w.heap[g]? = some (.cells cs.toArray t fr)) : w.rangeAt g 0 cs := fun j v hv => by
  rw [Nat.zero_add, cell_of_row w g j cs.toArray t fr h]
  simpa using hv
theorem restL_len (l : List UInt8) : ∀ n, (restL n l).length ≤ l.length := by
  induction l with
  | nil => intro n; simp [restL]
  | cons b l ih =>
    intro n
    unfold restL
    split
    · split
      · simp
      · have := ih (n - 1); simp; omega
    · have := ih n; simp; omega
theorem rest_size (s : ByteArray) (n : Nat) : (restOf s n).size ≤ s.size := by
  have h := restL_len s.data.toList n
  have h2 : s.data.toList.length = s.size := Array.length_toList
  have h3 : (restOf s n).size = (restL n s.data.toList).length := by unfold restOf; rfl
  omega
theorem nums_eq (ws : List ByteArray) : numsOf ws.length ws = ws.map fun w => (textNum w).1 := by
  unfold numsOf
  refine List.ext_getElem? fun i => ?_
  rw [List.getElem?_map, List.getElem?_map]
  by_cases h : i < ws.length
  · rw [List.getElem?_range h, List.getElem?_eq_getElem h]
    show some (numAt ws i) = some _
    unfold numAt
    rw [wordAt_some (List.getElem?_eq_getElem h)]
  · rw [List.getElem?_eq_none (by simp; omega), List.getElem?_eq_none (by omega)]
    rfl
theorem nums_cons {ws : List ByteArray} (h : 1 ≤ ws.length) : ∃ n0 ns, numsOf ws.length ws = n0 :: ns ∧ n0 = numAt ws 0 ∧ ns.length = ws.length - 1 := by
  match ws, h with
  | w :: t, _ =>
    refine ⟨(textNum w).1, t.map fun w => (textNum w).1, by rw [nums_eq]; rfl, ?_, by simp⟩
    unfold numAt
    rw [wordAt_some (s := w) rfl]
theorem nums_one {ws : List ByteArray} {n0 n1 : Int} {ns ns2 : List Int} (h : numsOf ws.length ws = n0 :: ns) (h2 : ns = n1 :: ns2) : n1 = numAt ws 1 := by
  rw [nums_eq, h2] at h
  match ws, h with
  | a :: b :: t, h =>
    simp only [List.map_cons, List.cons.injEq] at h
    unfold numAt
    rw [wordAt_some (s := b) rfl]
    exact h.2.1.symm
theorem numAt_rest (s : ByteArray) (i : Nat) : numAt (partsOf s) (i + 1) = numAt (partsOf (restOf s 1)) i := by
  unfold numAt
  rw [wordAt_rest]
  unfold wordAt
  rfl
theorem wordAt_rest' (s : ByteArray) (i : Nat) : wordAt (partsOf s) (i + 1) = wordAt (partsOf (restOf s 1)) i := by
  rw [wordAt_rest]
  unfold wordAt
  rfl
theorem read_four {dec : List UInt8 → List UInt8} {s rs : ByteArray} {n0 : Int} {ns : List Int} (hk : kindOf (wordAt (partsOf s) 0) = 4) (hrs : rs = restOf s 1) (hns : numsOf (partsOf rs).length (partsOf rs) = n0 :: ns) (hn0 : n0 = numAt (partsOf rs) 0) : readStep dec s = { zeroStep with Kind := 4, A := n0, Cuts := ns } := by
  unfold readStep
  simp only [hk, if_true]
  rw [numAt_rest s 0, ← hrs, ← hn0, drop_rest, ← hrs]
  rw [nums_eq] at hns
  have : ((partsOf rs).drop 1).map (fun w => (textNum w).1) = ns := by rw [List.map_drop, hns]; rfl
  rw [this]
theorem read_ab5 {dec : List UInt8 → List UInt8} {s rs : ByteArray} {n0 : Int} (hk : kindOf (wordAt (partsOf s) 0) = 5) (hrs : rs = restOf s 1) (hn0 : n0 = numAt (partsOf rs) 0) (hl : (partsOf rs).length = 1) : readStep dec s = { zeroStep with Kind := 5, A := n0, B := 0 } := by
  have e1 : wordAt (partsOf s) 2 = ByteArray.empty := by rw [wordAt_rest' s 1, ← hrs, wordAt_none (by omega)]
  have e2 : numAt (partsOf s) 2 = 0 := by rw [numAt_rest s 1, ← hrs, numAt_none (by omega)]
  unfold readStep
  simp only [hk, if_true, e1, e2]
  rw [numAt_rest s 0, ← hrs, ← hn0]
  rfl
theorem read_ab8 {dec : List UInt8 → List UInt8} {s rs : ByteArray} {n0 : Int} (hk : kindOf (wordAt (partsOf s) 0) = 8) (hrs : rs = restOf s 1) (hn0 : n0 = numAt (partsOf rs) 0) (hl : (partsOf rs).length = 1) : readStep dec s = { zeroStep with Kind := 8, A := n0, B := 0 } := by
  have e2 : numAt (partsOf s) 2 = 0 := by rw [numAt_rest s 1, ← hrs, numAt_none (by omega)]
  unfold readStep
  simp only [hk, if_true, e2]
  rw [numAt_rest s 0, ← hrs, ← hn0]
  rfl
theorem read_xx5 {dec : List UInt8 → List UInt8} {s rs w1 : ByteArray} {n0 n1 : Int} (hk : kindOf (wordAt (partsOf s) 0) = 5) (hrs : rs = restOf s 1) (hn0 : n0 = numAt (partsOf rs) 0) (hn1 : n1 = numAt (partsOf rs) 1) (hw : wordAt (partsOf rs) 1 = w1) : readStep dec s = { zeroStep with Kind := 5, A := n0, B := if w1 = ⟨#[110, 111, 110, 101]⟩ then -1 else n1 } := by
  have e1 : wordAt (partsOf s) 2 = w1 := by rw [wordAt_rest' s 1, ← hrs, hw]
  have e2 : numAt (partsOf s) 2 = n1 := by rw [numAt_rest s 1, ← hrs, hn1]
  unfold readStep
  simp only [hk, if_true, e1, e2]
  rw [numAt_rest s 0, ← hrs, ← hn0]
  rfl
theorem read_xx8 {dec : List UInt8 → List UInt8} {s rs w1 : ByteArray} {n0 n1 : Int} (hk : kindOf (wordAt (partsOf s) 0) = 8) (hrs : rs = restOf s 1) (hn0 : n0 = numAt (partsOf rs) 0) (hn1 : n1 = numAt (partsOf rs) 1) (_ : wordAt (partsOf rs) 1 = w1) : readStep dec s = { zeroStep with Kind := 8, A := n0, B := n1 } := by
  have e2 : numAt (partsOf s) 2 = n1 := by rw [numAt_rest s 1, ← hrs, hn1]
  unfold readStep
  simp only [hk, if_true, e2]
  rw [numAt_rest s 0, ← hrs, ← hn0]
  rfl
theorem read_six {dec : List UInt8 → List UInt8} {s rs : ByteArray} (hk : kindOf (wordAt (partsOf s) 0) = 6) (hrs : rs = restOf s 1) : readStep dec s = { zeroStep with Kind := 6, Text := rs } := by
  unfold readStep
  simp only [hk, if_true, hrs]
  rfl
theorem read_seven1 {dec : List UInt8 → List UInt8} (hd : dec [] = []) {s rs : ByteArray} {n0 : Int} (hk : kindOf (wordAt (partsOf s) 0) = 7) (hrs : rs = restOf s 1) (hn0 : n0 = numAt (partsOf rs) 0) (hl : (partsOf rs).length = 1) : readStep dec s = { zeroStep with Kind := 7, A := n0 } := by
  have e1 : wordAt (partsOf s) 2 = ByteArray.empty := by rw [wordAt_rest' s 1, ← hrs, wordAt_none (by omega)]
  have e3 : dec ByteArray.empty.data.toList = [] := hd
  unfold readStep
  simp only [hk, if_true, e1, e3]
  rw [numAt_rest s 0, ← hrs, ← hn0]
  rfl
theorem read_seven2 {dec : List UInt8 → List UInt8} {s rs w1 : ByteArray} {n0 : Int} (hk : kindOf (wordAt (partsOf s) 0) = 7) (hrs : rs = restOf s 1) (hn0 : n0 = numAt (partsOf rs) 0) (hw : wordAt (partsOf rs) 1 = w1) : readStep dec s = { zeroStep with Kind := 7, A := n0, Data := dec w1.data.toList } := by
  have e1 : wordAt (partsOf s) 2 = w1 := by rw [wordAt_rest' s 1, ← hrs, hw]
  unfold readStep
  simp only [hk, if_true, e1]
  rw [numAt_rest s 0, ← hrs, ← hn0]
  rfl
theorem read_else {dec : List UInt8 → List UInt8} {s : ByteArray} {K : Int} (hk : kindOf (wordAt (partsOf s) 0) = K) (h4 : ¬ K = 4) (h5 : ¬ K = 5) (h6 : ¬ K = 6) (h7 : ¬ K = 7) (h8 : ¬ K = 8) : readStep dec s = { zeroStep with Kind := K } := by
  unfold readStep
  simp only [hk, h4, h5, h6, h7, h8, if_false]
theorem freshS_block {α : Type} [Rep α] {lo n c : Nat} {W : World} {a : Addr} {l : List α} (h : FreshS lo W (.slice (some a) n c) l) : lo ≤ a.block := by
  obtain ⟨fp, ⟨rows, fps, ho, _, _, _, _, hfp⟩, hn, hf⟩ := h
  exact hf a.block (by rw [hfp]; simp [Value.ownBlock])
theorem freshS_two {α : Type} [Rep α] {lo lo' g g' : Nat} {W W1 W2 : World} {v : Value} {l : List α} (h : FreshS lo W v l) (h1 : Moved g W W1) (h2 : Moved g' W1 W2) (hg : g < lo) (hg' : g' < lo) (hl : lo' ≤ lo) : FreshS lo' W2 v l := by
  obtain ⟨fp, ho, hn, hf⟩ := h
  exact ⟨fp, (ho.mono fun b hb => h1.other b (by have := hf b hb; omega)).mono fun b hb => h2.other b (by have := hf b hb; omega), hn, fun b hb => Nat.le_trans hl (hf b hb)⟩
theorem toList_iff (a : ByteArray) (l : List UInt8) : a.toList = l ↔ a = ⟨l.toArray⟩ := by
  rw [ByteArray.toList_eq]
  constructor
  · intro h; rw [← h]
  · intro h; rw [h]
def row6 (k a b : Int) (t : ByteArray) (d c : Value) : List Value := [.int .i64 k, .int .i64 a, .int .i64 b, .string t, d, c]
end Go.Mux
namespace Go.Proofs.YtjglknaojfnllaaDoor
open Go.RowKit Go.Mux
theorem size_step6 : (Tryd.prog.info? 25).map (·.size) = some 6 := by kernel_rfl
set_option maxRecDepth 100000 in
set_option maxHeartbeats 1000000 in
theorem impl_stepRead (w : World) (s : ByteArray) (hs : s.size ≤ 1048576) (he : ENV w) : Calls Tryd.prog 21 #[.string s] w (Gives w fun r w' => ∃ cs, r = .agg cs.toArray ∧ StepAt w.heap.size w' cs (readStep unhexI s)) := by
  have HE := Lib.hid he
  clear he
  go_enter Tryd.func21, Tryd.ntmps21
  go_wp2_with fail
  generalize hwb : World.alloc w _ = W0
  have hb0 : Below w.heap.size w W0 := by rw [← hwb]; exact bel_alloc (Below.refl _ _) _
  have hr0 : W0.heap[w.heap.size]? = some (.cells (row6 0 0 0 ByteArray.empty (.slice none 0 0) (.slice none 0 0)).toArray 25 (0, 0)) := by rw [← hwb]; exact heap_alloc_new w _
  have hz0 : w.heap.size < W0.heap.size := (Array.getElem?_eq_some_iff.1 hr0).1
  have HB0 := Lib.hid hb0
  clear hwb hb0
  refine (strings_cut W0 s hs (HE.out.mono HB0.out)).mono ?_
  rintro e W1 ⟨_, rfl, ⟨fb, rfl⟩, hb⟩
  have HB1 := Lib.hid (bel_next HB0.out hb)
  have hr1 := (hb.block w.heap.size hz0).trans hr0
  have hz1 : w.heap.size < W1.heap.size := Nat.lt_of_lt_of_le hz0 hb.size
  clear hb hr0
  obtain ⟨wd, hwd⟩ : ∃ wd, wd = wordAt (partsOf s) 0 := ⟨_, rfl⟩
  rw [← hwd]
  have HWD := Lib.hid hwd
  clear hwd
  obtain ⟨rs, hrs⟩ : ∃ rs, rs = restOf s 1 := ⟨_, rfl⟩
  rw [← hrs]
  have HRS := Lib.hid hrs
  clear hrs
  have hmm := @run_makeMap Tryd.prog
  have MT := Tryd.underlying61
  obtain ⟨M1, r1, q1, b1, z1⟩ := map_insert_str MT Tryd.underlying9 (W1.alloc (.map #[] 0)) W1.heap.size #[] 0 ⟨#[115, 116, 97, 114, 116]⟩ (.int .i64 1) (heap_alloc_new W1 _) rfl
  obtain ⟨M2, r2, q2, b2, z2⟩ := map_insert_str MT Tryd.underlying9 M1 W1.heap.size _ _ ⟨#[115, 121, 110, 99]⟩ (.int .i64 2) q1 rfl
  obtain ⟨M3, r3, q3, b3, z3⟩ := map_insert_str MT Tryd.underlying9 M2 W1.heap.size _ _ ⟨#[112, 97, 99, 107]⟩ (.int .i64 3) q2 rfl
  obtain ⟨M4, r4, q4, b4, z4⟩ := map_insert_str MT Tryd.underlying9 M3 W1.heap.size _ _ ⟨#[99, 114, 97, 115, 104]⟩ (.int .i64 4) q3 rfl
  obtain ⟨M5, r5, q5, b5, z5⟩ := map_insert_str MT Tryd.underlying9 M4 W1.heap.size _ _ ⟨#[112, 111, 119, 101, 114]⟩ (.int .i64 5) q4 rfl
  obtain ⟨M6, r6, q6, b6, z6⟩ := map_insert_str MT Tryd.underlying9 M5 W1.heap.size _ _ ⟨#[108, 105, 110, 101]⟩ (.int .i64 6) q5 rfl
  obtain ⟨M7, r7, q7, b7, z7⟩ := map_insert_str MT Tryd.underlying9 M6 W1.heap.size _ _ ⟨#[111, 117, 116]⟩ (.int .i64 7) q6 rfl
  obtain ⟨M8, r8, q8, b8, z8⟩ := map_insert_str MT Tryd.underlying9 M7 W1.heap.size _ _ ⟨#[101, 110, 100]⟩ (.int .i64 8) q7 rfl
  have lk := kind_lookup MT Tryd.underlying9 M8 W1.heap.size _ wd q8 (Tryd.zeroValue3 _)
  have hbm := (((((((((bel_alloc (Below.refl W1.heap.size W1) (.map #[] 0)).trans b1).trans b2).trans b3).trans b4).trans b5).trans b6).trans b7).trans b8)
  have HBM := Lib.hid hbm
  have hr2 := (hbm.block w.heap.size hz1).trans hr1
  have hz2 : w.heap.size < M8.heap.size := Nat.lt_of_lt_of_le hz1 hbm.size
  clear q1 q2 q3 q4 q5 q6 q7 q8 b1 b2 b3 b4 b5 b6 b7 b8 z1 z2 z3 z4 z5 z6 z7 z8 hr1 hbm MT
  go_upto_region 3 with ((with_reducible (show wpList _ _ _ (Oper.mk _ (Op.store 25 _ _) _ _ _ _ :: _) _ _)); have HAL := Lib.hid (heap_alloc_new M8 (.cells (row6 0 0 0 ByteArray.empty (.slice none 0 0) (.slice none 0 0)).toArray 25 (0, 0))); refine wpList_store_at rfl 25 _ _ rfl M8.heap.size 0 rfl _ rfl (row6 (kindOf wd) 0 0 ByteArray.empty (.slice none 0 0) (.slice none 0 0)) rfl (row6 0 0 0 ByteArray.empty (.slice none 0 0) (.slice none 0 0)).toArray 25 HAL.out (Nat.le_of_ble_eq_true rfl) (by simp [row6, Value.oneCell']) size_step6 ?_; intro W2 hW; (try rw [act_put_none0]); have hM2 := Moved.row hW; have ht2 := row_turnN HAL.out hW (cur' := (row6 (kindOf wd) 0 0 ByteArray.empty (.slice none 0 0) (.slice none 0 0))) rfl; clear hW HAL lk)
  have hal2 := bel_alloc (Below.refl M8.heap.size M8) (.cells (row6 0 0 0 ByteArray.empty (.slice none 0 0) (.slice none 0 0)).toArray 25 (0, 0))
  have hb2 := hM2.below hal2 (Nat.le_refl _)
  have hs2 := (hb2.block w.heap.size hz2).trans hr2
  have HB2 := Lib.hid (bel_next (bel_next HB1.out HBM.out) hb2)
  obtain ⟨T, hT⟩ : ∃ T, T = M8.heap.size := ⟨_, rfl⟩
  rw [← hT] at ht2 ⊢
  have hTw : w.heap.size < T := by omega
  have hT2 : T < W2.heap.size := (Array.getElem?_eq_some_iff.1 ht2).1
  have hW2 : w.heap.size < W2.heap.size := by omega
  clear hal2 hb2 hM2 hr2 r1 r2 r3 r4 r5 r6 r7 r8 hmm HBM HB1 HB0 hT hz0 hz1 hz2
  (try simp only [Act.put, List.getElem_toArray, List.getElem_cons_succ, List.getElem_cons_zero, List.setIfInBounds_toArray, List.set_cons_zero, List.set_cons_succ])
  have hrsz : rs.size ≤ s.size := by rw [HRS.out]; exact rest_size s 1
  have hrsz2 : rs.size ≤ 1048576 := by omega
  go_wp2_with fail
  refine (impl_Parts W2 rs hrsz2 (HE.out.mono HB2.out)).mono ?_
  rintro e W3 ⟨_, rfl, hF, hb⟩
  obtain ⟨wa, wc, rfl, hwl, hwc, hcell⟩ := strs_open hF.repS
  have HWS := Lib.hid hF.repS
  have HFS := Lib.hid hF
  have HB3 := Lib.hid (bel_next HB2.out hb)
  have hs3 := (hb.block w.heap.size hW2).trans hs2
  have ht3 := (hb.block T hT2).trans ht2
  have hT3 : T < W3.heap.size := Nat.lt_of_lt_of_le hT2 hb.size
  have hlen := partsOf_len rs
  have hcnt : rs.data.toList.count 32 ≤ rs.size := Nat.le_trans List.count_le_length (Nat.le_of_eq Array.length_toList)
  have hL1 : 1 ≤ (partsOf rs).length := by omega
  have hL2 : (partsOf rs).length ≤ 1048577 := by omega
  have HCELL := Lib.hid hcell
  clear hF hb hs2 ht2 hcell hlen hcnt hwl hwc
  go_wp2_with fail
  refine (impl_numbersOf W3 _ (partsOf rs) (partsOf rs).length HWS.out hL2 (fun p hp => by have := parts_size hp; omega) (HE.out.mono HB3.out)).mono ?_
  rintro e W4 ⟨_, rfl, ⟨g, rfl, hg, hrow⟩, hb⟩
  have HB4 := Lib.hid (bel_next HB3.out hb)
  have hs4 := (hb.block w.heap.size (by omega)).trans hs3
  have ht4 := (hb.block T hT3).trans ht3
  have hT4 : T < W4.heap.size := Nat.lt_of_lt_of_le hT3 hb.size
  have hgT : T < g := by omega
  obtain ⟨n0, ns, hns, hn0, hnl⟩ := nums_cons hL1
  rw [hns] at hrow
  have HNS := Lib.hid hns
  have HNS2 := Lib.hid hns
  have HN0 := Lib.hid hn0
  have HW4 := Lib.hid hb
  have k0 : W4.cell? ⟨T, 0, none⟩ = some (.int .i64 (kindOf wd)) := cell_at0 ht4 rfl
  have g0 : W4.cell? ⟨g, 0, none⟩ = some (.int .i64 n0) := cell_at0 hrow rfl
  have hgl : g < W4.heap.size := (Array.getElem?_eq_some_iff.1 hrow).1
  have HROW := Lib.hid hrow
  have b0 : (0 : Int) < ((partsOf rs).length : Int) := by omega
  have b1 : (1 : Int) ≤ ((partsOf rs).length : Int) := by omega
  obtain ⟨L, hL⟩ : ∃ L, L = (partsOf rs).length := ⟨_, rfl⟩
  have HL := Lib.hid hL
  rw [← hL] at b0 b1 hL1 hL2 hnl ⊢
  have b0n : 0 < L := by omega
  clear hb hs3 ht3 hns hn0 hL hrow
  obtain ⟨K, hK⟩ : ∃ K, K = kindOf wd := ⟨_, rfl⟩
  rw [← hK] at k0 ht4 ⊢
  have HK := Lib.hid (show K = kindOf (wordAt (partsOf s) 0) from by rw [hK, HWD.out])
  clear hK
  by_cases h4 : K = 4
  · subst h4
    have hlo : w.heap.size ≤ g := by omega
    by_cases hl1 : L = 1
    · subst hl1
      go_upto_region 7 with fail
      refine wp_region_chain 8 (fun w' => w'.rangeAt g 0 ((n0 :: ns).map (Value.int .i64 ·))) (by kernel_rfl) (range_row0 (w := W4.drew) (cs := ((n0 :: ns).map (Value.int .i64 ·))) HROW.out) (fun hHeld => ?_)
      have hbd := bel_drew0 W4
      have htd : W4.drew.heap[T]? = _ := ht4
      have hsd : W4.drew.heap[w.heap.size]? = _ := hs4
      have hgd : W4.drew.heap[g]? = _ := HROW.out
      obtain ⟨v5, hWd⟩ : ∃ W, W = W4.drew := ⟨_, rfl⟩
      rw [← hWd] at hHeld hbd htd hsd hgd ⊢
      clear hWd ht4 hs4 k0 g0
      have HB5 := Lib.hid (bel_next HB4.out hbd)
      have hT5 : T < v5.heap.size := Nat.lt_of_lt_of_le hT4 hbd.size
      clear hbd
      (refine wpChain_take (i := 0) (v := ?_) rfl rfl rfl (by kernel_rfl) (by kernel_rfl) (by kernel_rfl) (by kernel_rfl) (fun _ _ _ h => h) (.inl ⟨by rfl, ?_⟩) hHeld ?_; rotate_left; (focus (intro wq hwq; go_simp; (try with_reducible rfl))); (try simp only [Act.put, List.getElem_toArray, List.getElem_cons_succ, List.getElem_cons_zero, List.setIfInBounds_toArray, List.set_cons_zero, List.set_cons_succ]))
      (refine wpChain_take (i := 1) (v := ?_) rfl rfl rfl (by kernel_rfl) (by kernel_rfl) (by kernel_rfl) (by kernel_rfl) (fun _ _ _ h => h) (.inl ⟨by rfl, ?_⟩) hHeld ?_; rotate_left; (focus (intro wq hwq; go_simp; (try with_reducible rfl))); (try simp only [Act.put, List.getElem_toArray, List.getElem_cons_succ, List.getElem_cons_zero, List.setIfInBounds_toArray, List.set_cons_zero, List.set_cons_succ]))
      refine wpChain_take (i := 2) rfl rfl rfl (by kernel_rfl) (by kernel_rfl) (by kernel_rfl) (by kernel_rfl) (fun _ _ _ h => h) (yieldsL_field (by rfl) _ _ rfl g 0 rfl ((n0 :: ns).map (Value.int .i64 ·)) (.int .i64 n0) (fun _ h => h) rfl (fun wq hcq => by go_simp)) hHeld ?_
      (try simp only [Act.put, List.getElem_toArray, List.getElem_cons_succ, List.getElem_cons_zero, List.setIfInBounds_toArray, List.set_cons_zero, List.set_cons_succ])
      (refine wpChain_take (i := 3) (v := ?_) rfl rfl rfl (by kernel_rfl) (by kernel_rfl) (by kernel_rfl) (by kernel_rfl) (fun _ _ _ h => h) (.inl ⟨by rfl, ?_⟩) hHeld ?_; rotate_left; (focus (intro wq hwq; go_simp; (try with_reducible rfl))); (try simp only [Act.put, List.getElem_toArray, List.getElem_cons_succ, List.getElem_cons_zero, List.setIfInBounds_toArray, List.set_cons_zero, List.set_cons_succ]))
      (refine wpChain_take (i := 4) (v := ?_) rfl rfl rfl (by kernel_rfl) (by kernel_rfl) (by kernel_rfl) (by kernel_rfl) (fun _ _ _ h => h) (.inl ⟨by rfl, ?_⟩) hHeld ?_; rotate_left; (focus (intro wq hwq; go_simp; (try with_reducible rfl))); (try simp only [Act.put, List.getElem_toArray, List.getElem_cons_succ, List.getElem_cons_zero, List.setIfInBounds_toArray, List.set_cons_zero, List.set_cons_succ]))
      (refine wpChain_take (i := 5) (v := ?_) rfl rfl rfl (by kernel_rfl) (by kernel_rfl) (by kernel_rfl) (by kernel_rfl) (fun _ _ _ h => h) (.inl ⟨by rfl, ?_⟩) hHeld ?_; rotate_left; (focus (intro wq hwq; go_simp; (try with_reducible rfl))); (try simp only [Act.put, List.getElem_toArray, List.getElem_cons_succ, List.getElem_cons_zero, List.setIfInBounds_toArray, List.set_cons_zero, List.set_cons_succ]))
      refine wpChain_step (i := 6) rfl (by kernel_rfl) (fun K hK => ?_)
      refine step_store rfl 3 _ _ rfl T 1 rfl _ rfl [.int .i64 n0] rfl (row6 4 0 0 ByteArray.empty (.slice none 0 0) (.slice none 0 0)).toArray 25 (RowAt.of htd) (Nat.le_of_ble_eq_true rfl) (by simp [Value.oneCell']) (show (Tryd.prog.info? 3).map (·.size) = some 1 by kernel_rfl) ?_
      intro v6 hW
      have hM6 := Moved.row hW
      have ht6 := row_turnN htd hW (cur' := (row6 4 n0 0 ByteArray.empty (.slice none 0 0) (.slice none 0 0))) rfl
      have hs6 := (hM6.other w.heap.size (by omega)).trans hsd
      have hg6 := (hM6.other g (by omega)).trans hgd
      have hB6 := hM6.below HB5.out (by omega)
      refine hK.out _ _ (range_row0 hg6) ?_
      replace hHeld := range_row0 hg6
      clear hK K hW htd hsd hgd hM6
      (try simp only [Act.put, List.getElem_toArray, List.getElem_cons_succ, List.getElem_cons_zero, List.setIfInBounds_toArray, List.set_cons_zero, List.set_cons_succ])
      (refine wpChain_take (i := 7) (v := ?_) rfl rfl rfl (by kernel_rfl) (by kernel_rfl) (by kernel_rfl) (by kernel_rfl) (fun _ _ _ h => h) (.inl ⟨by rfl, ?_⟩) hHeld ?_; rotate_left; (focus (intro wq hwq; go_simp; (try with_reducible rfl))); (try simp only [Act.put, List.getElem_toArray, List.getElem_cons_succ, List.getElem_cons_zero, List.setIfInBounds_toArray, List.set_cons_zero, List.set_cons_succ]))
      refine wpChain_store rfl rfl (by kernel_rfl) (by kernel_rfl) rfl 23 _ _ rfl T 5 rfl _ rfl [.slice (some ⟨g, 0, none⟩) 0 0] rfl (row6 4 n0 0 ByteArray.empty (.slice none 0 0) (.slice none 0 0)).toArray 25 (RowAt.of ht6) (Nat.le_of_ble_eq_true rfl) (by simp [Value.oneCell']) (show (Tryd.prog.info? 23).map (·.size) = some 1 by kernel_rfl) ?_
      intro v7 hW
      have hM7 := Moved.row hW
      have ht7 := row_turnN ht6 hW (cur' := (row6 4 n0 0 ByteArray.empty (.slice none 0 0) (.slice (some ⟨g, 0, none⟩) 0 0))) rfl
      have hs7 := (hM7.other w.heap.size (by omega)).trans hs6
      have hg7 := (hM7.other g (by omega)).trans hg6
      have hB7 := hM7.below hB6 (by omega)
      clear hW ht6 hs6 hg6 hM7
      (try simp only [Act.put, List.getElem_toArray, List.getElem_cons_succ, List.getElem_cons_zero, List.setIfInBounds_toArray, List.set_cons_zero, List.set_cons_succ])
      go_wp2_with (first
        | ((with_reducible (show wpList _ _ _ (Oper.mk _ (Op.load 25 _) _ _ _ _ :: _) _ _)); refine wpList_load_agg rfl 25 _ rfl T 0 rfl (row6 4 n0 0 ByteArray.empty (.slice none 0 0) (.slice (some ⟨g, 0, none⟩) 0 0)) _ (fun j u hu => by rw [Nat.zero_add]; exact cell_at0 ht7 hu) Tryd.underlying25 size_step6 ?_)
        | ((with_reducible (show wpList _ _ _ (Oper.mk _ (Op.store 25 _ _) _ _ _ _ :: _) _ _)); refine wpList_store_at rfl 25 _ _ rfl w.heap.size 0 rfl _ rfl (row6 4 n0 0 ByteArray.empty (.slice none 0 0) (.slice (some ⟨g, 0, none⟩) 0 0)) rfl (row6 0 0 0 ByteArray.empty (.slice none 0 0) (.slice none 0 0)).toArray 25 hs7 (Nat.le_of_ble_eq_true rfl) (by simp [row6, Value.oneCell']) size_step6 ?_; intro X9 hW; (try rw [act_put_none0]); have hMX9 := Moved.row hW; have hrX9 := row_turnN hs7 hW (cur' := (row6 4 n0 0 ByteArray.empty (.slice none 0 0) (.slice (some ⟨g, 0, none⟩) 0 0))) rfl; clear hW))
      exact bodyPost_ret (results_cell_row Tryd.results21 _ _ w.heap.size 25 (row6 4 n0 0 ByteArray.empty (.slice none 0 0) (.slice (some ⟨g, 0, none⟩) 0 0)).toArray (0, 0) _ rfl hrX9 Tryd.underlying25 rfl size_step6) rfl ⟨_, rfl, ⟨(row6 4 n0 0 ByteArray.empty (.slice none 0 0) (.slice (some ⟨g, 0, none⟩) 0 0)), rfl, (by rw [read_four HK.out.symm HRS.out HNS2.out HN0.out]; have hn : ns = [] := List.eq_nil_of_length_eq_zero (by omega); subst hn; exact ⟨_, _, rfl, nil_freshB _ _, .inr ⟨g, [], [n0], rfl, by omega, by simp, (hMX9.other g (by omega)).trans hg7⟩, .inl rfl⟩)⟩, hMX9.below hB7 (Nat.le_refl _)⟩
    · have hlm : 1 < L := by omega
      go_upto_region 7 with fail
      refine wp_region_chain 8 (fun w' => w'.rangeAt g 0 ((n0 :: ns).map (Value.int .i64 ·))) (by kernel_rfl) (range_row0 (w := W4.drew) (cs := ((n0 :: ns).map (Value.int .i64 ·))) HROW.out) (fun hHeld => ?_)
      have hbd := bel_drew0 W4
      have htd : W4.drew.heap[T]? = _ := ht4
      have hsd : W4.drew.heap[w.heap.size]? = _ := hs4
      have hgd : W4.drew.heap[g]? = _ := HROW.out
      obtain ⟨v5, hWd⟩ : ∃ W, W = W4.drew := ⟨_, rfl⟩
      rw [← hWd] at hHeld hbd htd hsd hgd ⊢
      clear hWd ht4 hs4 k0 g0
      have HB5 := Lib.hid (bel_next HB4.out hbd)
      have hT5 : T < v5.heap.size := Nat.lt_of_lt_of_le hT4 hbd.size
      clear hbd
      (refine wpChain_take (i := 0) (v := ?_) rfl rfl rfl (by kernel_rfl) (by kernel_rfl) (by kernel_rfl) (by kernel_rfl) (fun _ _ _ h => h) (.inl ⟨by rfl, ?_⟩) hHeld ?_; rotate_left; (focus (intro wq hwq; go_simp; (try with_reducible rfl))); (try simp only [Act.put, List.getElem_toArray, List.getElem_cons_succ, List.getElem_cons_zero, List.setIfInBounds_toArray, List.set_cons_zero, List.set_cons_succ]))
      (refine wpChain_take (i := 1) (v := ?_) rfl rfl rfl (by kernel_rfl) (by kernel_rfl) (by kernel_rfl) (by kernel_rfl) (fun _ _ _ h => h) (.inl ⟨by rfl, ?_⟩) hHeld ?_; rotate_left; (focus (intro wq hwq; go_simp; (try with_reducible rfl))); (try simp only [Act.put, List.getElem_toArray, List.getElem_cons_succ, List.getElem_cons_zero, List.setIfInBounds_toArray, List.set_cons_zero, List.set_cons_succ]))
      refine wpChain_take (i := 2) rfl rfl rfl (by kernel_rfl) (by kernel_rfl) (by kernel_rfl) (by kernel_rfl) (fun _ _ _ h => h) (yieldsL_field (by rfl) _ _ rfl g 0 rfl ((n0 :: ns).map (Value.int .i64 ·)) (.int .i64 n0) (fun _ h => h) rfl (fun wq hcq => by go_simp)) hHeld ?_
      (try simp only [Act.put, List.getElem_toArray, List.getElem_cons_succ, List.getElem_cons_zero, List.setIfInBounds_toArray, List.set_cons_zero, List.set_cons_succ])
      (refine wpChain_take (i := 3) (v := ?_) rfl rfl rfl (by kernel_rfl) (by kernel_rfl) (by kernel_rfl) (by kernel_rfl) (fun _ _ _ h => h) (.inl ⟨by rfl, ?_⟩) hHeld ?_; rotate_left; (focus (intro wq hwq; go_simp; (try with_reducible rfl))); (try simp only [Act.put, List.getElem_toArray, List.getElem_cons_succ, List.getElem_cons_zero, List.setIfInBounds_toArray, List.set_cons_zero, List.set_cons_succ]))
      (refine wpChain_take (i := 4) (v := ?_) rfl rfl rfl (by kernel_rfl) (by kernel_rfl) (by kernel_rfl) (by kernel_rfl) (fun _ _ _ h => h) (.inl ⟨by rfl, ?_⟩) hHeld ?_; rotate_left; (focus (intro wq hwq; go_simp; (try with_reducible rfl))); (try simp only [Act.put, List.getElem_toArray, List.getElem_cons_succ, List.getElem_cons_zero, List.setIfInBounds_toArray, List.set_cons_zero, List.set_cons_succ]))
      (refine wpChain_take (i := 5) (v := ?_) rfl rfl rfl (by kernel_rfl) (by kernel_rfl) (by kernel_rfl) (by kernel_rfl) (fun _ _ _ h => h) (.inl ⟨by rfl, ?_⟩) hHeld ?_; rotate_left; (focus (intro wq hwq; go_simp; (try with_reducible rfl))); (try simp only [Act.put, List.getElem_toArray, List.getElem_cons_succ, List.getElem_cons_zero, List.setIfInBounds_toArray, List.set_cons_zero, List.set_cons_succ]))
      refine wpChain_step (i := 6) rfl (by kernel_rfl) (fun K hK => ?_)
      refine step_store rfl 3 _ _ rfl T 1 rfl _ rfl [.int .i64 n0] rfl (row6 4 0 0 ByteArray.empty (.slice none 0 0) (.slice none 0 0)).toArray 25 (RowAt.of htd) (Nat.le_of_ble_eq_true rfl) (by simp [Value.oneCell']) (show (Tryd.prog.info? 3).map (·.size) = some 1 by kernel_rfl) ?_
      intro v6 hW
      have hM6 := Moved.row hW
      have ht6 := row_turnN htd hW (cur' := (row6 4 n0 0 ByteArray.empty (.slice none 0 0) (.slice none 0 0))) rfl
      have hs6 := (hM6.other w.heap.size (by omega)).trans hsd
      have hg6 := (hM6.other g (by omega)).trans hgd
      have hB6 := hM6.below HB5.out (by omega)
      refine hK.out _ _ (range_row0 hg6) ?_
      replace hHeld := range_row0 hg6
      clear hK K hW htd hsd hgd hM6
      (try simp only [Act.put, List.getElem_toArray, List.getElem_cons_succ, List.getElem_cons_zero, List.setIfInBounds_toArray, List.set_cons_zero, List.set_cons_succ])
      (refine wpChain_take (i := 7) (v := ?_) rfl rfl rfl (by kernel_rfl) (by kernel_rfl) (by kernel_rfl) (by kernel_rfl) (fun _ _ _ h => h) (.inl ⟨by rfl, ?_⟩) hHeld ?_; rotate_left; (focus (intro wq hwq; go_simp; (try with_reducible rfl))); (try simp only [Act.put, List.getElem_toArray, List.getElem_cons_succ, List.getElem_cons_zero, List.setIfInBounds_toArray, List.set_cons_zero, List.set_cons_succ]))
      refine wpChain_store rfl rfl (by kernel_rfl) (by kernel_rfl) rfl 23 _ _ rfl T 5 rfl _ rfl [.slice (some ⟨g, 1, none⟩) (L - 1) (L - 1)] rfl (row6 4 n0 0 ByteArray.empty (.slice none 0 0) (.slice none 0 0)).toArray 25 (RowAt.of ht6) (Nat.le_of_ble_eq_true rfl) (by simp [Value.oneCell']) (show (Tryd.prog.info? 23).map (·.size) = some 1 by kernel_rfl) ?_
      intro v7 hW
      have hM7 := Moved.row hW
      have ht7 := row_turnN ht6 hW (cur' := (row6 4 n0 0 ByteArray.empty (.slice none 0 0) (.slice (some ⟨g, 1, none⟩) (L - 1) (L - 1)))) rfl
      have hs7 := (hM7.other w.heap.size (by omega)).trans hs6
      have hg7 := (hM7.other g (by omega)).trans hg6
      have hB7 := hM7.below hB6 (by omega)
      clear hW ht6 hs6 hg6 hM7
      (try simp only [Act.put, List.getElem_toArray, List.getElem_cons_succ, List.getElem_cons_zero, List.setIfInBounds_toArray, List.set_cons_zero, List.set_cons_succ])
      go_wp2_with (first
        | ((with_reducible (show wpList _ _ _ (Oper.mk _ (Op.load 25 _) _ _ _ _ :: _) _ _)); refine wpList_load_agg rfl 25 _ rfl T 0 rfl (row6 4 n0 0 ByteArray.empty (.slice none 0 0) (.slice (some ⟨g, 1, none⟩) (L - 1) (L - 1))) _ (fun j u hu => by rw [Nat.zero_add]; exact cell_at0 ht7 hu) Tryd.underlying25 size_step6 ?_)
        | ((with_reducible (show wpList _ _ _ (Oper.mk _ (Op.store 25 _ _) _ _ _ _ :: _) _ _)); refine wpList_store_at rfl 25 _ _ rfl w.heap.size 0 rfl _ rfl (row6 4 n0 0 ByteArray.empty (.slice none 0 0) (.slice (some ⟨g, 1, none⟩) (L - 1) (L - 1))) rfl (row6 0 0 0 ByteArray.empty (.slice none 0 0) (.slice none 0 0)).toArray 25 hs7 (Nat.le_of_ble_eq_true rfl) (by simp [row6, Value.oneCell']) size_step6 ?_; intro X9 hW; (try rw [act_put_none0]); have hMX9 := Moved.row hW; have hrX9 := row_turnN hs7 hW (cur' := (row6 4 n0 0 ByteArray.empty (.slice none 0 0) (.slice (some ⟨g, 1, none⟩) (L - 1) (L - 1)))) rfl; clear hW))
      exact bodyPost_ret (results_cell_row Tryd.results21 _ _ w.heap.size 25 (row6 4 n0 0 ByteArray.empty (.slice none 0 0) (.slice (some ⟨g, 1, none⟩) (L - 1) (L - 1))).toArray (0, 0) _ rfl hrX9 Tryd.underlying25 rfl size_step6) rfl ⟨_, rfl, ⟨(row6 4 n0 0 ByteArray.empty (.slice none 0 0) (.slice (some ⟨g, 1, none⟩) (L - 1) (L - 1))), rfl, (by rw [read_four HK.out.symm HRS.out HNS2.out HN0.out]; exact ⟨_, _, rfl, nil_freshB _ _, .inr ⟨g, [n0], [], by rw [hnl]; rfl, by omega, by show ns.length ≤ 1048576; omega, by rw [List.append_nil]; exact (hMX9.other g (by omega)).trans hg7⟩, .inl rfl⟩)⟩, hMX9.below hB7 (Nat.le_refl _)⟩
  by_cases h5 : K = 5
  · subst h5
    have hlo : w.heap.size ≤ g := by omega
    by_cases hl1 : L = 1
    · subst hl1
      have HROWX := HROW
      have HWX := Lib.hid (fun (b o : Nat) (hbb : b < W3.heap.size) (_ : b ≠ T) => HW4.out.cell (p := ⟨b, o, none⟩) hbb)
      have hbW := HB4.out
      go_upto_region 11 with ((with_reducible (show wpList _ _ _ (Oper.mk _ (Op.store 3 _ _) _ _ _ _ :: _) _ _)); refine wpList_store_at rfl 3 _ _ rfl T 1 rfl _ rfl [.int .i64 n0] rfl (row6 5 0 0 ByteArray.empty (.slice none 0 0) (.slice none 0 0)).toArray 25 ht4 (Nat.le_of_ble_eq_true rfl) (by simp [Value.oneCell']) (show (Tryd.prog.info? 3).map (·.size) = some 1 by kernel_rfl) ?_; intro v5 hW; (try rw [act_put_none0]); have hMv5 := Moved.row hW; have hrv5 := row_turnN ht4 hW (cur' := (row6 5 n0 0 ByteArray.empty (.slice none 0 0) (.slice none 0 0))) rfl; clear hW )
      have hsv5 := (hMv5.other w.heap.size (by omega)).trans hs4
      have hbv5 := hMv5.below hbW (by omega)
      have hgv5 := (hMv5.other g (by omega)).trans HROWX.out
      have HWv5 := Lib.hid (fun (b o : Nat) (hbb : b < W3.heap.size) (hbT : b ≠ T) => (cell_of_heap (hMv5.other b hbT) o).trans (HWX.out b o hbb hbT))
      clear hs4 ht4 k0
      clear g0
      go_wp2_with (first
        | ((with_reducible (show wpList _ _ _ (Oper.mk _ (Op.load 25 _) _ _ _ _ :: _) _ _)); refine wpList_load_agg rfl 25 _ rfl T 0 rfl (row6 5 n0 0 ByteArray.empty (.slice none 0 0) (.slice none 0 0)) _ (fun j u hu => by rw [Nat.zero_add]; exact cell_at0 hrv5 hu) Tryd.underlying25 size_step6 ?_)
        | ((with_reducible (show wpList _ _ _ (Oper.mk _ (Op.store 25 _ _) _ _ _ _ :: _) _ _)); refine wpList_store_at rfl 25 _ _ rfl w.heap.size 0 rfl _ rfl (row6 5 n0 0 ByteArray.empty (.slice none 0 0) (.slice none 0 0)) rfl (row6 0 0 0 ByteArray.empty (.slice none 0 0) (.slice none 0 0)).toArray 25 hsv5 (Nat.le_of_ble_eq_true rfl) (by simp [row6, Value.oneCell']) size_step6 ?_; intro X9 hW; (try rw [act_put_none0]); have hMX9 := Moved.row hW; have hrX9 := row_turnN hsv5 hW (cur' := (row6 5 n0 0 ByteArray.empty (.slice none 0 0) (.slice none 0 0))) rfl; clear hW))
      exact bodyPost_ret (results_cell_row Tryd.results21 _ _ w.heap.size 25 (row6 5 n0 0 ByteArray.empty (.slice none 0 0) (.slice none 0 0)).toArray (0, 0) _ rfl hrX9 Tryd.underlying25 rfl size_step6) rfl ⟨_, rfl, ⟨(row6 5 n0 0 ByteArray.empty (.slice none 0 0) (.slice none 0 0)), rfl, (by rw [read_ab5 HK.out.symm HRS.out HN0.out (by rw [← HL.out])]; exact ⟨_, _, rfl, nil_freshB _ _, .inl ⟨rfl, rfl⟩, .inl rfl⟩)⟩, hMX9.below hbv5 (Nat.le_refl _)⟩
    · have hlm : 1 < L := by omega
      have HROWX := HROW
      have HWX := Lib.hid (fun (b o : Nat) (hbb : b < W3.heap.size) (_ : b ≠ T) => HW4.out.cell (p := ⟨b, o, none⟩) hbb)
      have hbW := HB4.out
      go_upto_region 11 with ((with_reducible (show wpList _ _ _ (Oper.mk _ (Op.store 3 _ _) _ _ _ _ :: _) _ _)); refine wpList_store_at rfl 3 _ _ rfl T 1 rfl _ rfl [.int .i64 n0] rfl (row6 5 0 0 ByteArray.empty (.slice none 0 0) (.slice none 0 0)).toArray 25 ht4 (Nat.le_of_ble_eq_true rfl) (by simp [Value.oneCell']) (show (Tryd.prog.info? 3).map (·.size) = some 1 by kernel_rfl) ?_; intro v5 hW; (try rw [act_put_none0]); have hMv5 := Moved.row hW; have hrv5 := row_turnN ht4 hW (cur' := (row6 5 n0 0 ByteArray.empty (.slice none 0 0) (.slice none 0 0))) rfl; clear hW )
      have hsv5 := (hMv5.other w.heap.size (by omega)).trans hs4
      have hbv5 := hMv5.below hbW (by omega)
      have hgv5 := (hMv5.other g (by omega)).trans HROWX.out
      have HWv5 := Lib.hid (fun (b o : Nat) (hbb : b < W3.heap.size) (hbT : b ≠ T) => (cell_of_heap (hMv5.other b hbT) o).trans (HWX.out b o hbb hbT))
      clear hs4 ht4 k0
      clear g0
      have e1 : decide ((1 : Int) < (L : Int)) = true := decide_eq_true (by omega)
      have e1n : decide (1 < L) = true := decide_eq_true (by omega)
      obtain ⟨n1, ns2, hns2⟩ : ∃ n1 ns2, ns = n1 :: ns2 := by
        cases ns with
        | nil => simp at hnl; omega
        | cons a b => exact ⟨a, b, rfl⟩
      have HN1 := Lib.hid (nums_one HNS.out hns2)
      have g1 : v5.cell? ⟨g, 1, none⟩ = some (.int .i64 n1) := cell_at0 hgv5 (by rw [hns2]; rfl)
      have i1 : (1 : Int) < (L : Int) := by omega
      have i1n : 1 < L := by omega
      clear hns2
      go_upto_region 13 with ((with_reducible (show wpList _ _ _ (Oper.mk _ (Op.store 3 _ _) _ _ _ _ :: _) _ _)); refine wpList_store_at rfl 3 _ _ rfl T 2 rfl _ rfl [.int .i64 n1] rfl (row6 5 n0 0 ByteArray.empty (.slice none 0 0) (.slice none 0 0)).toArray 25 hrv5 (Nat.le_of_ble_eq_true rfl) (by simp [Value.oneCell']) (show (Tryd.prog.info? 3).map (·.size) = some 1 by kernel_rfl) ?_; intro v6 hW; (try rw [act_put_none0]); have hMv6 := Moved.row hW; have hrv6 := row_turnN hrv5 hW (cur' := (row6 5 n0 n1 ByteArray.empty (.slice none 0 0) (.slice none 0 0))) rfl; clear hW )
      have hsv6 := (hMv6.other w.heap.size (by omega)).trans hsv5
      have hbv6 := hMv6.below hbv5 (by omega)
      obtain ⟨bw, ow, hwa, hcw⟩ := HCELL.out (by intro e; have := HL.out; rw [e] at this; simp at this; omega)
      subst hwa
      have kw0 := hcw 1 _ (List.getElem?_eq_getElem (by rw [← HL.out]; exact hlm))
      have hbw := World.block_lt_of_cell? W3 _ kw0
      have hbT : bw ≠ T := by have := freshS_block HFS.out; have : W2.heap.size ≤ bw := this; omega
      obtain ⟨w1, hw1⟩ : ∃ w1, w1 = (partsOf rs)[1]'(by rw [← HL.out]; exact hlm) := ⟨_, rfl⟩
      rw [← hw1] at kw0
      have HWA := Lib.hid (show wordAt (partsOf rs) 1 = w1 from wordAt_some (by rw [hw1]; exact List.getElem?_eq_getElem _))
      have kw : v6.cell? ⟨bw, ow + 1, none⟩ = some (.string w1) := (cell_of_heap (hMv6.other bw hbT) _).trans ((HWv5.out bw (ow + 1) hbw hbT).trans kw0)
      have kk : v6.cell? ⟨T, 0, none⟩ = some (.int .i64 5) := cell_at0 hrv6 rfl
      clear hw1 kw0 hcw hbw g1
      by_cases hq : w1 = ⟨#[110, 111, 110, 101]⟩
      · have q1 : w1.toList = [110, 111, 110, 101] := (toList_iff _ _).2 hq
        have HQ := Lib.hid hq
        clear hq
        go_upto_region 21 with ((with_reducible (show wpList _ _ _ (Oper.mk _ (Op.store 3 _ _) _ _ _ _ :: _) _ _)); refine wpList_store_at rfl 3 _ _ rfl T 2 rfl _ rfl [.int .i64 (-1)] rfl (row6 5 n0 n1 ByteArray.empty (.slice none 0 0) (.slice none 0 0)).toArray 25 hrv6 (Nat.le_of_ble_eq_true rfl) (by simp [Value.oneCell']) (show (Tryd.prog.info? 3).map (·.size) = some 1 by kernel_rfl) ?_; intro v7 hW; (try rw [act_put_none0]); have hMv7 := Moved.row hW; have hrv7 := row_turnN hrv6 hW (cur' := (row6 5 n0 (-1) ByteArray.empty (.slice none 0 0) (.slice none 0 0))) rfl; clear hW )
        have hsv7 := (hMv7.other w.heap.size (by omega)).trans hsv6
        have hbv7 := hMv7.below hbv6 (by omega)
        clear kw kk hsv6 hrv6
        go_wp2_with (first
          | ((with_reducible (show wpList _ _ _ (Oper.mk _ (Op.load 25 _) _ _ _ _ :: _) _ _)); refine wpList_load_agg rfl 25 _ rfl T 0 rfl (row6 5 n0 (-1) ByteArray.empty (.slice none 0 0) (.slice none 0 0)) _ (fun j u hu => by rw [Nat.zero_add]; exact cell_at0 hrv7 hu) Tryd.underlying25 size_step6 ?_)
          | ((with_reducible (show wpList _ _ _ (Oper.mk _ (Op.store 25 _ _) _ _ _ _ :: _) _ _)); refine wpList_store_at rfl 25 _ _ rfl w.heap.size 0 rfl _ rfl (row6 5 n0 (-1) ByteArray.empty (.slice none 0 0) (.slice none 0 0)) rfl (row6 0 0 0 ByteArray.empty (.slice none 0 0) (.slice none 0 0)).toArray 25 hsv7 (Nat.le_of_ble_eq_true rfl) (by simp [row6, Value.oneCell']) size_step6 ?_; intro X9 hW; (try rw [act_put_none0]); have hMX9 := Moved.row hW; have hrX9 := row_turnN hsv7 hW (cur' := (row6 5 n0 (-1) ByteArray.empty (.slice none 0 0) (.slice none 0 0))) rfl; clear hW))
        exact bodyPost_ret (results_cell_row Tryd.results21 _ _ w.heap.size 25 (row6 5 n0 (-1) ByteArray.empty (.slice none 0 0) (.slice none 0 0)).toArray (0, 0) _ rfl hrX9 Tryd.underlying25 rfl size_step6) rfl ⟨_, rfl, ⟨(row6 5 n0 (-1) ByteArray.empty (.slice none 0 0) (.slice none 0 0)), rfl, (by rw [read_xx5 HK.out.symm HRS.out HN0.out HN1.out HWA.out]; rw [show (if w1 = ⟨#[110, 111, 110, 101]⟩ then (-1 : Int) else n1) = _ from (if_pos HQ.out)]; exact ⟨_, _, rfl, nil_freshB _ _, .inl ⟨rfl, rfl⟩, .inl rfl⟩)⟩, hMX9.below hbv7 (Nat.le_refl _)⟩
      · have q1 : ¬ w1.toList = [110, 111, 110, 101] := fun h => hq ((toList_iff _ _).1 h)
        have q2 : decide (w1.toList = [110, 111, 110, 101]) = false := decide_eq_false q1
        have HQ := Lib.hid hq
        clear hq
        go_wp2_with (first
          | ((with_reducible (show wpList _ _ _ (Oper.mk _ (Op.load 25 _) _ _ _ _ :: _) _ _)); refine wpList_load_agg rfl 25 _ rfl T 0 rfl (row6 5 n0 n1 ByteArray.empty (.slice none 0 0) (.slice none 0 0)) _ (fun j u hu => by rw [Nat.zero_add]; exact cell_at0 hrv6 hu) Tryd.underlying25 size_step6 ?_)
          | ((with_reducible (show wpList _ _ _ (Oper.mk _ (Op.store 25 _ _) _ _ _ _ :: _) _ _)); refine wpList_store_at rfl 25 _ _ rfl w.heap.size 0 rfl _ rfl (row6 5 n0 n1 ByteArray.empty (.slice none 0 0) (.slice none 0 0)) rfl (row6 0 0 0 ByteArray.empty (.slice none 0 0) (.slice none 0 0)).toArray 25 hsv6 (Nat.le_of_ble_eq_true rfl) (by simp [row6, Value.oneCell']) size_step6 ?_; intro X9 hW; (try rw [act_put_none0]); have hMX9 := Moved.row hW; have hrX9 := row_turnN hsv6 hW (cur' := (row6 5 n0 n1 ByteArray.empty (.slice none 0 0) (.slice none 0 0))) rfl; clear hW))
        exact bodyPost_ret (results_cell_row Tryd.results21 _ _ w.heap.size 25 (row6 5 n0 n1 ByteArray.empty (.slice none 0 0) (.slice none 0 0)).toArray (0, 0) _ rfl hrX9 Tryd.underlying25 rfl size_step6) rfl ⟨_, rfl, ⟨(row6 5 n0 n1 ByteArray.empty (.slice none 0 0) (.slice none 0 0)), rfl, (by rw [read_xx5 HK.out.symm HRS.out HN0.out HN1.out HWA.out]; rw [show (if w1 = ⟨#[110, 111, 110, 101]⟩ then (-1 : Int) else n1) = _ from (if_neg HQ.out)]; exact ⟨_, _, rfl, nil_freshB _ _, .inl ⟨rfl, rfl⟩, .inl rfl⟩)⟩, hMX9.below hbv6 (Nat.le_refl _)⟩
  by_cases h6 : K = 6
  · subst h6
    have HROWX := HROW
    have HWX := Lib.hid (fun (b o : Nat) (hbb : b < W3.heap.size) (_ : b ≠ T) => HW4.out.cell (p := ⟨b, o, none⟩) hbb)
    have hbW := HB4.out
    go_upto_region 21 with ((with_reducible (show wpList _ _ _ (Oper.mk _ (Op.store 9 _ _) _ _ _ _ :: _) _ _)); refine wpList_store_at rfl 9 _ _ rfl T 3 rfl _ rfl [.string rs] rfl (row6 6 0 0 ByteArray.empty (.slice none 0 0) (.slice none 0 0)).toArray 25 ht4 (Nat.le_of_ble_eq_true rfl) (by simp [Value.oneCell']) (show (Tryd.prog.info? 9).map (·.size) = some 1 by kernel_rfl) ?_; intro v5 hW; (try rw [act_put_none0]); have hMv5 := Moved.row hW; have hrv5 := row_turnN ht4 hW (cur' := (row6 6 0 0 rs (.slice none 0 0) (.slice none 0 0))) rfl; clear hW )
    have hsv5 := (hMv5.other w.heap.size (by omega)).trans hs4
    have hbv5 := hMv5.below hbW (by omega)
    have hgv5 := (hMv5.other g (by omega)).trans HROWX.out
    have HWv5 := Lib.hid (fun (b o : Nat) (hbb : b < W3.heap.size) (hbT : b ≠ T) => (cell_of_heap (hMv5.other b hbT) o).trans (HWX.out b o hbb hbT))
    clear hs4 ht4 k0
    go_wp2_with (first
      | ((with_reducible (show wpList _ _ _ (Oper.mk _ (Op.load 25 _) _ _ _ _ :: _) _ _)); refine wpList_load_agg rfl 25 _ rfl T 0 rfl (row6 6 0 0 rs (.slice none 0 0) (.slice none 0 0)) _ (fun j u hu => by rw [Nat.zero_add]; exact cell_at0 hrv5 hu) Tryd.underlying25 size_step6 ?_)
      | ((with_reducible (show wpList _ _ _ (Oper.mk _ (Op.store 25 _ _) _ _ _ _ :: _) _ _)); refine wpList_store_at rfl 25 _ _ rfl w.heap.size 0 rfl _ rfl (row6 6 0 0 rs (.slice none 0 0) (.slice none 0 0)) rfl (row6 0 0 0 ByteArray.empty (.slice none 0 0) (.slice none 0 0)).toArray 25 hsv5 (Nat.le_of_ble_eq_true rfl) (by simp [row6, Value.oneCell']) size_step6 ?_; intro X9 hW; (try rw [act_put_none0]); have hMX9 := Moved.row hW; have hrX9 := row_turnN hsv5 hW (cur' := (row6 6 0 0 rs (.slice none 0 0) (.slice none 0 0))) rfl; clear hW))
    exact bodyPost_ret (results_cell_row Tryd.results21 _ _ w.heap.size 25 (row6 6 0 0 rs (.slice none 0 0) (.slice none 0 0)).toArray (0, 0) _ rfl hrX9 Tryd.underlying25 rfl size_step6) rfl ⟨_, rfl, ⟨(row6 6 0 0 rs (.slice none 0 0) (.slice none 0 0)), rfl, (by rw [read_six HK.out.symm HRS.out]; exact ⟨_, _, rfl, nil_freshB _ _, .inl ⟨rfl, rfl⟩, .inl rfl⟩)⟩, hMX9.below hbv5 (Nat.le_refl _)⟩
  by_cases h7 : K = 7
  · subst h7
    have hlo : w.heap.size ≤ g := by omega
    by_cases hl1 : L = 1
    · subst hl1
      have HROWX := HROW
      have HWX := Lib.hid (fun (b o : Nat) (hbb : b < W3.heap.size) (_ : b ≠ T) => HW4.out.cell (p := ⟨b, o, none⟩) hbb)
      have hbW := HB4.out
      go_upto_region 19 with ((with_reducible (show wpList _ _ _ (Oper.mk _ (Op.store 3 _ _) _ _ _ _ :: _) _ _)); refine wpList_store_at rfl 3 _ _ rfl T 1 rfl _ rfl [.int .i64 n0] rfl (row6 7 0 0 ByteArray.empty (.slice none 0 0) (.slice none 0 0)).toArray 25 ht4 (Nat.le_of_ble_eq_true rfl) (by simp [Value.oneCell']) (show (Tryd.prog.info? 3).map (·.size) = some 1 by kernel_rfl) ?_; intro v5 hW; (try rw [act_put_none0]); have hMv5 := Moved.row hW; have hrv5 := row_turnN ht4 hW (cur' := (row6 7 n0 0 ByteArray.empty (.slice none 0 0) (.slice none 0 0))) rfl; clear hW )
      have hsv5 := (hMv5.other w.heap.size (by omega)).trans hs4
      have hbv5 := hMv5.below hbW (by omega)
      have hgv5 := (hMv5.other g (by omega)).trans HROWX.out
      have HWv5 := Lib.hid (fun (b o : Nat) (hbb : b < W3.heap.size) (hbT : b ≠ T) => (cell_of_heap (hMv5.other b hbT) o).trans (HWX.out b o hbb hbT))
      clear g0 hs4 ht4 k0
      go_wp2_with (first
        | ((with_reducible (show wpList _ _ _ (Oper.mk _ (Op.load 25 _) _ _ _ _ :: _) _ _)); refine wpList_load_agg rfl 25 _ rfl T 0 rfl (row6 7 n0 0 ByteArray.empty (.slice none 0 0) (.slice none 0 0)) _ (fun j u hu => by rw [Nat.zero_add]; exact cell_at0 hrv5 hu) Tryd.underlying25 size_step6 ?_)
        | ((with_reducible (show wpList _ _ _ (Oper.mk _ (Op.store 25 _ _) _ _ _ _ :: _) _ _)); refine wpList_store_at rfl 25 _ _ rfl w.heap.size 0 rfl _ rfl (row6 7 n0 0 ByteArray.empty (.slice none 0 0) (.slice none 0 0)) rfl (row6 0 0 0 ByteArray.empty (.slice none 0 0) (.slice none 0 0)).toArray 25 hsv5 (Nat.le_of_ble_eq_true rfl) (by simp [row6, Value.oneCell']) size_step6 ?_; intro X9 hW; (try rw [act_put_none0]); have hMX9 := Moved.row hW; have hrX9 := row_turnN hsv5 hW (cur' := (row6 7 n0 0 ByteArray.empty (.slice none 0 0) (.slice none 0 0))) rfl; clear hW))
      exact bodyPost_ret (results_cell_row Tryd.results21 _ _ w.heap.size 25 (row6 7 n0 0 ByteArray.empty (.slice none 0 0) (.slice none 0 0)).toArray (0, 0) _ rfl hrX9 Tryd.underlying25 rfl size_step6) rfl ⟨_, rfl, ⟨(row6 7 n0 0 ByteArray.empty (.slice none 0 0) (.slice none 0 0)), rfl, (by rw [read_seven1 (dec := unhexI) rfl HK.out.symm HRS.out HN0.out (by rw [← HL.out])]; exact ⟨_, _, rfl, nil_freshB _ _, .inl ⟨rfl, rfl⟩, .inl rfl⟩)⟩, hMX9.below hbv5 (Nat.le_refl _)⟩
    · have hlm : 1 < L := by omega
      have HROWX := HROW
      have HWX := Lib.hid (fun (b o : Nat) (hbb : b < W3.heap.size) (_ : b ≠ T) => HW4.out.cell (p := ⟨b, o, none⟩) hbb)
      have hbW := HB4.out
      go_upto_region 19 with ((with_reducible (show wpList _ _ _ (Oper.mk _ (Op.store 3 _ _) _ _ _ _ :: _) _ _)); refine wpList_store_at rfl 3 _ _ rfl T 1 rfl _ rfl [.int .i64 n0] rfl (row6 7 0 0 ByteArray.empty (.slice none 0 0) (.slice none 0 0)).toArray 25 ht4 (Nat.le_of_ble_eq_true rfl) (by simp [Value.oneCell']) (show (Tryd.prog.info? 3).map (·.size) = some 1 by kernel_rfl) ?_; intro v5 hW; (try rw [act_put_none0]); have hMv5 := Moved.row hW; have hrv5 := row_turnN ht4 hW (cur' := (row6 7 n0 0 ByteArray.empty (.slice none 0 0) (.slice none 0 0))) rfl; clear hW )
      have hsv5 := (hMv5.other w.heap.size (by omega)).trans hs4
      have hbv5 := hMv5.below hbW (by omega)
      have hgv5 := (hMv5.other g (by omega)).trans HROWX.out
      have HWv5 := Lib.hid (fun (b o : Nat) (hbb : b < W3.heap.size) (hbT : b ≠ T) => (cell_of_heap (hMv5.other b hbT) o).trans (HWX.out b o hbb hbT))
      clear g0 hs4 ht4 k0
      have e1 : decide ((1 : Int) < (L : Int)) = true := decide_eq_true (by omega)
      have e1n : decide (1 < L) = true := decide_eq_true (by omega)
      have i1 : (1 : Int) < (L : Int) := by omega
      have i1n : 1 < L := by omega
      obtain ⟨bw, ow, hwa, hcw⟩ := HCELL.out (by intro e; have := HL.out; rw [e] at this; simp at this; omega)
      subst hwa
      have kw0 := hcw 1 _ (List.getElem?_eq_getElem (by rw [← HL.out]; exact hlm))
      have hbw := World.block_lt_of_cell? W3 _ kw0
      have hbT : bw ≠ T := by have := freshS_block HFS.out; have : W2.heap.size ≤ bw := this; omega
      obtain ⟨w1, hw1⟩ : ∃ w1, w1 = (partsOf rs)[1]'(by rw [← HL.out]; exact hlm) := ⟨_, rfl⟩
      rw [← hw1] at kw0
      have HWA := Lib.hid (show wordAt (partsOf rs) 1 = w1 from wordAt_some (by rw [hw1]; exact List.getElem?_eq_getElem _))
      have HWZ := Lib.hid (show w1.size ≤ 1048576 from by have := parts_size (s := rs) (p := w1) (by rw [hw1]; exact List.getElem_mem _); omega)
      have kw : v5.cell? ⟨bw, ow + 1, none⟩ = some (.string w1) := (HWv5.out bw (ow + 1) hbw hbT).trans kw0
      have hTv : T < v5.heap.size := (Array.getElem?_eq_some_iff.1 hrv5).1
      clear hw1 kw0 hcw hbw
      go_wp2_with fail
      refine (impl_bytesOf v5 w1 HWZ.out).mono ?_
      rintro e v6 ⟨_, rfl, hF, hb⟩
      obtain ⟨da, dn, dc, rfl⟩ := hF.repS.shape
      have HD6 := Lib.hid hF
      have ht6 := (hb.block T hTv).trans hrv5
      have hs6 := (hb.block w.heap.size (by omega)).trans hsv5
      have hb6 := bel_next hbv5 hb
      have hz6 := hb.size
      clear hb hF kw hsv5 hrv5
      go_upto_region 21 with ((with_reducible (show wpList _ _ _ (Oper.mk _ (Op.store 22 _ _) _ _ _ _ :: _) _ _)); refine wpList_store_at rfl 22 _ _ rfl T 4 rfl _ rfl [.slice da dn dc] rfl (row6 7 n0 0 ByteArray.empty (.slice none 0 0) (.slice none 0 0)).toArray 25 ht6 (Nat.le_of_ble_eq_true rfl) (by simp [Value.oneCell']) (show (Tryd.prog.info? 22).map (·.size) = some 1 by kernel_rfl) ?_; intro v7 hW; (try rw [act_put_none0]); have hMv7 := Moved.row hW; have hrv7 := row_turnN ht6 hW (cur' := (row6 7 n0 0 ByteArray.empty (.slice da dn dc) (.slice none 0 0))) rfl; clear hW )
      have hsv7 := (hMv7.other w.heap.size (by omega)).trans hs6
      have hbv7 := hMv7.below hb6 (by omega)
      clear hs6 ht6
      go_wp2_with (first
        | ((with_reducible (show wpList _ _ _ (Oper.mk _ (Op.load 25 _) _ _ _ _ :: _) _ _)); refine wpList_load_agg rfl 25 _ rfl T 0 rfl (row6 7 n0 0 ByteArray.empty (.slice da dn dc) (.slice none 0 0)) _ (fun j u hu => by rw [Nat.zero_add]; exact cell_at0 hrv7 hu) Tryd.underlying25 size_step6 ?_)
        | ((with_reducible (show wpList _ _ _ (Oper.mk _ (Op.store 25 _ _) _ _ _ _ :: _) _ _)); refine wpList_store_at rfl 25 _ _ rfl w.heap.size 0 rfl _ rfl (row6 7 n0 0 ByteArray.empty (.slice da dn dc) (.slice none 0 0)) rfl (row6 0 0 0 ByteArray.empty (.slice none 0 0) (.slice none 0 0)).toArray 25 hsv7 (Nat.le_of_ble_eq_true rfl) (by simp [row6, Value.oneCell']) size_step6 ?_; intro X9 hW; (try rw [act_put_none0]); have hMX9 := Moved.row hW; have hrX9 := row_turnN hsv7 hW (cur' := (row6 7 n0 0 ByteArray.empty (.slice da dn dc) (.slice none 0 0))) rfl; clear hW))
      exact bodyPost_ret (results_cell_row Tryd.results21 _ _ w.heap.size 25 (row6 7 n0 0 ByteArray.empty (.slice da dn dc) (.slice none 0 0)).toArray (0, 0) _ rfl hrX9 Tryd.underlying25 rfl size_step6) rfl ⟨_, rfl, ⟨(row6 7 n0 0 ByteArray.empty (.slice da dn dc) (.slice none 0 0)), rfl, (by rw [read_seven2 (dec := unhexI) HK.out.symm HRS.out HN0.out HWA.out]; exact ⟨_, _, rfl, freshS_two HD6.out hMv7 hMX9 (by omega) (by omega) (by omega), .inl ⟨rfl, rfl⟩, .inr rfl⟩)⟩, hMX9.below hbv7 (Nat.le_refl _)⟩
  by_cases h8 : K = 8
  · subst h8
    have hlo : w.heap.size ≤ g := by omega
    by_cases hl1 : L = 1
    · subst hl1
      have HROWX := HROW
      have HWX := Lib.hid (fun (b o : Nat) (hbb : b < W3.heap.size) (_ : b ≠ T) => HW4.out.cell (p := ⟨b, o, none⟩) hbb)
      have hbW := HB4.out
      go_upto_region 11 with ((with_reducible (show wpList _ _ _ (Oper.mk _ (Op.store 3 _ _) _ _ _ _ :: _) _ _)); refine wpList_store_at rfl 3 _ _ rfl T 1 rfl _ rfl [.int .i64 n0] rfl (row6 8 0 0 ByteArray.empty (.slice none 0 0) (.slice none 0 0)).toArray 25 ht4 (Nat.le_of_ble_eq_true rfl) (by simp [Value.oneCell']) (show (Tryd.prog.info? 3).map (·.size) = some 1 by kernel_rfl) ?_; intro v5 hW; (try rw [act_put_none0]); have hMv5 := Moved.row hW; have hrv5 := row_turnN ht4 hW (cur' := (row6 8 n0 0 ByteArray.empty (.slice none 0 0) (.slice none 0 0))) rfl; clear hW )
      have hsv5 := (hMv5.other w.heap.size (by omega)).trans hs4
      have hbv5 := hMv5.below hbW (by omega)
      have hgv5 := (hMv5.other g (by omega)).trans HROWX.out
      have HWv5 := Lib.hid (fun (b o : Nat) (hbb : b < W3.heap.size) (hbT : b ≠ T) => (cell_of_heap (hMv5.other b hbT) o).trans (HWX.out b o hbb hbT))
      clear hs4 ht4 k0
      clear g0
      go_wp2_with (first
        | ((with_reducible (show wpList _ _ _ (Oper.mk _ (Op.load 25 _) _ _ _ _ :: _) _ _)); refine wpList_load_agg rfl 25 _ rfl T 0 rfl (row6 8 n0 0 ByteArray.empty (.slice none 0 0) (.slice none 0 0)) _ (fun j u hu => by rw [Nat.zero_add]; exact cell_at0 hrv5 hu) Tryd.underlying25 size_step6 ?_)
        | ((with_reducible (show wpList _ _ _ (Oper.mk _ (Op.store 25 _ _) _ _ _ _ :: _) _ _)); refine wpList_store_at rfl 25 _ _ rfl w.heap.size 0 rfl _ rfl (row6 8 n0 0 ByteArray.empty (.slice none 0 0) (.slice none 0 0)) rfl (row6 0 0 0 ByteArray.empty (.slice none 0 0) (.slice none 0 0)).toArray 25 hsv5 (Nat.le_of_ble_eq_true rfl) (by simp [row6, Value.oneCell']) size_step6 ?_; intro X9 hW; (try rw [act_put_none0]); have hMX9 := Moved.row hW; have hrX9 := row_turnN hsv5 hW (cur' := (row6 8 n0 0 ByteArray.empty (.slice none 0 0) (.slice none 0 0))) rfl; clear hW))
      exact bodyPost_ret (results_cell_row Tryd.results21 _ _ w.heap.size 25 (row6 8 n0 0 ByteArray.empty (.slice none 0 0) (.slice none 0 0)).toArray (0, 0) _ rfl hrX9 Tryd.underlying25 rfl size_step6) rfl ⟨_, rfl, ⟨(row6 8 n0 0 ByteArray.empty (.slice none 0 0) (.slice none 0 0)), rfl, (by rw [read_ab8 HK.out.symm HRS.out HN0.out (by rw [← HL.out])]; exact ⟨_, _, rfl, nil_freshB _ _, .inl ⟨rfl, rfl⟩, .inl rfl⟩)⟩, hMX9.below hbv5 (Nat.le_refl _)⟩
    · have hlm : 1 < L := by omega
      have HROWX := HROW
      have HWX := Lib.hid (fun (b o : Nat) (hbb : b < W3.heap.size) (_ : b ≠ T) => HW4.out.cell (p := ⟨b, o, none⟩) hbb)
      have hbW := HB4.out
      go_upto_region 11 with ((with_reducible (show wpList _ _ _ (Oper.mk _ (Op.store 3 _ _) _ _ _ _ :: _) _ _)); refine wpList_store_at rfl 3 _ _ rfl T 1 rfl _ rfl [.int .i64 n0] rfl (row6 8 0 0 ByteArray.empty (.slice none 0 0) (.slice none 0 0)).toArray 25 ht4 (Nat.le_of_ble_eq_true rfl) (by simp [Value.oneCell']) (show (Tryd.prog.info? 3).map (·.size) = some 1 by kernel_rfl) ?_; intro v5 hW; (try rw [act_put_none0]); have hMv5 := Moved.row hW; have hrv5 := row_turnN ht4 hW (cur' := (row6 8 n0 0 ByteArray.empty (.slice none 0 0) (.slice none 0 0))) rfl; clear hW )
      have hsv5 := (hMv5.other w.heap.size (by omega)).trans hs4
      have hbv5 := hMv5.below hbW (by omega)
      have hgv5 := (hMv5.other g (by omega)).trans HROWX.out
      have HWv5 := Lib.hid (fun (b o : Nat) (hbb : b < W3.heap.size) (hbT : b ≠ T) => (cell_of_heap (hMv5.other b hbT) o).trans (HWX.out b o hbb hbT))
      clear hs4 ht4 k0
      clear g0
      have e1 : decide ((1 : Int) < (L : Int)) = true := decide_eq_true (by omega)
      have e1n : decide (1 < L) = true := decide_eq_true (by omega)
      obtain ⟨n1, ns2, hns2⟩ : ∃ n1 ns2, ns = n1 :: ns2 := by
        cases ns with
        | nil => simp at hnl; omega
        | cons a b => exact ⟨a, b, rfl⟩
      have HN1 := Lib.hid (nums_one HNS.out hns2)
      have g1 : v5.cell? ⟨g, 1, none⟩ = some (.int .i64 n1) := cell_at0 hgv5 (by rw [hns2]; rfl)
      have i1 : (1 : Int) < (L : Int) := by omega
      have i1n : 1 < L := by omega
      clear hns2
      go_upto_region 13 with ((with_reducible (show wpList _ _ _ (Oper.mk _ (Op.store 3 _ _) _ _ _ _ :: _) _ _)); refine wpList_store_at rfl 3 _ _ rfl T 2 rfl _ rfl [.int .i64 n1] rfl (row6 8 n0 0 ByteArray.empty (.slice none 0 0) (.slice none 0 0)).toArray 25 hrv5 (Nat.le_of_ble_eq_true rfl) (by simp [Value.oneCell']) (show (Tryd.prog.info? 3).map (·.size) = some 1 by kernel_rfl) ?_; intro v6 hW; (try rw [act_put_none0]); have hMv6 := Moved.row hW; have hrv6 := row_turnN hrv5 hW (cur' := (row6 8 n0 n1 ByteArray.empty (.slice none 0 0) (.slice none 0 0))) rfl; clear hW )
      have hsv6 := (hMv6.other w.heap.size (by omega)).trans hsv5
      have hbv6 := hMv6.below hbv5 (by omega)
      obtain ⟨bw, ow, hwa, hcw⟩ := HCELL.out (by intro e; have := HL.out; rw [e] at this; simp at this; omega)
      subst hwa
      have kw0 := hcw 1 _ (List.getElem?_eq_getElem (by rw [← HL.out]; exact hlm))
      have hbw := World.block_lt_of_cell? W3 _ kw0
      have hbT : bw ≠ T := by have := freshS_block HFS.out; have : W2.heap.size ≤ bw := this; omega
      obtain ⟨w1, hw1⟩ : ∃ w1, w1 = (partsOf rs)[1]'(by rw [← HL.out]; exact hlm) := ⟨_, rfl⟩
      rw [← hw1] at kw0
      have HWA := Lib.hid (show wordAt (partsOf rs) 1 = w1 from wordAt_some (by rw [hw1]; exact List.getElem?_eq_getElem _))
      have kw : v6.cell? ⟨bw, ow + 1, none⟩ = some (.string w1) := (cell_of_heap (hMv6.other bw hbT) _).trans ((HWv5.out bw (ow + 1) hbw hbT).trans kw0)
      have kk : v6.cell? ⟨T, 0, none⟩ = some (.int .i64 8) := cell_at0 hrv6 rfl
      clear hw1 kw0 hcw hbw g1
      by_cases hq : w1 = ⟨#[110, 111, 110, 101]⟩
      · have q1 : w1.toList = [110, 111, 110, 101] := (toList_iff _ _).2 hq
        have HQ := Lib.hid hq
        clear hq
        go_wp2_with (first
          | ((with_reducible (show wpList _ _ _ (Oper.mk _ (Op.load 25 _) _ _ _ _ :: _) _ _)); refine wpList_load_agg rfl 25 _ rfl T 0 rfl (row6 8 n0 n1 ByteArray.empty (.slice none 0 0) (.slice none 0 0)) _ (fun j u hu => by rw [Nat.zero_add]; exact cell_at0 hrv6 hu) Tryd.underlying25 size_step6 ?_)
          | ((with_reducible (show wpList _ _ _ (Oper.mk _ (Op.store 25 _ _) _ _ _ _ :: _) _ _)); refine wpList_store_at rfl 25 _ _ rfl w.heap.size 0 rfl _ rfl (row6 8 n0 n1 ByteArray.empty (.slice none 0 0) (.slice none 0 0)) rfl (row6 0 0 0 ByteArray.empty (.slice none 0 0) (.slice none 0 0)).toArray 25 hsv6 (Nat.le_of_ble_eq_true rfl) (by simp [row6, Value.oneCell']) size_step6 ?_; intro X9 hW; (try rw [act_put_none0]); have hMX9 := Moved.row hW; have hrX9 := row_turnN hsv6 hW (cur' := (row6 8 n0 n1 ByteArray.empty (.slice none 0 0) (.slice none 0 0))) rfl; clear hW))
        exact bodyPost_ret (results_cell_row Tryd.results21 _ _ w.heap.size 25 (row6 8 n0 n1 ByteArray.empty (.slice none 0 0) (.slice none 0 0)).toArray (0, 0) _ rfl hrX9 Tryd.underlying25 rfl size_step6) rfl ⟨_, rfl, ⟨(row6 8 n0 n1 ByteArray.empty (.slice none 0 0) (.slice none 0 0)), rfl, (by rw [read_xx8 HK.out.symm HRS.out HN0.out HN1.out HWA.out]; exact ⟨_, _, rfl, nil_freshB _ _, .inl ⟨rfl, rfl⟩, .inl rfl⟩)⟩, hMX9.below hbv6 (Nat.le_refl _)⟩
      · have q1 : ¬ w1.toList = [110, 111, 110, 101] := fun h => hq ((toList_iff _ _).1 h)
        have q2 : decide (w1.toList = [110, 111, 110, 101]) = false := decide_eq_false q1
        have HQ := Lib.hid hq
        clear hq
        go_wp2_with (first
          | ((with_reducible (show wpList _ _ _ (Oper.mk _ (Op.load 25 _) _ _ _ _ :: _) _ _)); refine wpList_load_agg rfl 25 _ rfl T 0 rfl (row6 8 n0 n1 ByteArray.empty (.slice none 0 0) (.slice none 0 0)) _ (fun j u hu => by rw [Nat.zero_add]; exact cell_at0 hrv6 hu) Tryd.underlying25 size_step6 ?_)
          | ((with_reducible (show wpList _ _ _ (Oper.mk _ (Op.store 25 _ _) _ _ _ _ :: _) _ _)); refine wpList_store_at rfl 25 _ _ rfl w.heap.size 0 rfl _ rfl (row6 8 n0 n1 ByteArray.empty (.slice none 0 0) (.slice none 0 0)) rfl (row6 0 0 0 ByteArray.empty (.slice none 0 0) (.slice none 0 0)).toArray 25 hsv6 (Nat.le_of_ble_eq_true rfl) (by simp [row6, Value.oneCell']) size_step6 ?_; intro X9 hW; (try rw [act_put_none0]); have hMX9 := Moved.row hW; have hrX9 := row_turnN hsv6 hW (cur' := (row6 8 n0 n1 ByteArray.empty (.slice none 0 0) (.slice none 0 0))) rfl; clear hW))
        exact bodyPost_ret (results_cell_row Tryd.results21 _ _ w.heap.size 25 (row6 8 n0 n1 ByteArray.empty (.slice none 0 0) (.slice none 0 0)).toArray (0, 0) _ rfl hrX9 Tryd.underlying25 rfl size_step6) rfl ⟨_, rfl, ⟨(row6 8 n0 n1 ByteArray.empty (.slice none 0 0) (.slice none 0 0)), rfl, (by rw [read_xx8 HK.out.symm HRS.out HN0.out HN1.out HWA.out]; exact ⟨_, _, rfl, nil_freshB _ _, .inl ⟨rfl, rfl⟩, .inl rfl⟩)⟩, hMX9.below hbv6 (Nat.le_refl _)⟩
  have d4 : (K == 4) = false := by rw [beq_eq_false_iff_ne]; exact h4
  have f4 : decide (K = 4) = false := decide_eq_false h4
  have d5 : (K == 5) = false := by rw [beq_eq_false_iff_ne]; exact h5
  have f5 : decide (K = 5) = false := decide_eq_false h5
  have d6 : (K == 6) = false := by rw [beq_eq_false_iff_ne]; exact h6
  have f6 : decide (K = 6) = false := decide_eq_false h6
  have d7 : (K == 7) = false := by rw [beq_eq_false_iff_ne]; exact h7
  have f7 : decide (K = 7) = false := decide_eq_false h7
  have d8 : (K == 8) = false := by rw [beq_eq_false_iff_ne]; exact h8
  have f8 : decide (K = 8) = false := decide_eq_false h8
  have hs4' := hs4
  have ht4' := ht4
  have hb4' := HB4.out
  go_wp2_with (first
    | ((with_reducible (show wpList _ _ _ (Oper.mk _ (Op.load 25 _) _ _ _ _ :: _) _ _)); refine wpList_load_agg rfl 25 _ rfl T 0 rfl (row6 K 0 0 ByteArray.empty (.slice none 0 0) (.slice none 0 0)) _ (fun j u hu => by rw [Nat.zero_add]; exact cell_at0 ht4' hu) Tryd.underlying25 size_step6 ?_)
    | ((with_reducible (show wpList _ _ _ (Oper.mk _ (Op.store 25 _ _) _ _ _ _ :: _) _ _)); refine wpList_store_at rfl 25 _ _ rfl w.heap.size 0 rfl _ rfl (row6 K 0 0 ByteArray.empty (.slice none 0 0) (.slice none 0 0)) rfl (row6 0 0 0 ByteArray.empty (.slice none 0 0) (.slice none 0 0)).toArray 25 hs4' (Nat.le_of_ble_eq_true rfl) (by simp [row6, Value.oneCell']) size_step6 ?_; intro X9 hW; (try rw [act_put_none0]); have hMX9 := Moved.row hW; have hrX9 := row_turnN hs4' hW (cur' := (row6 K 0 0 ByteArray.empty (.slice none 0 0) (.slice none 0 0))) rfl; clear hW))
  exact bodyPost_ret (results_cell_row Tryd.results21 _ _ w.heap.size 25 (row6 K 0 0 ByteArray.empty (.slice none 0 0) (.slice none 0 0)).toArray (0, 0) _ rfl hrX9 Tryd.underlying25 rfl size_step6) rfl ⟨_, rfl, ⟨(row6 K 0 0 ByteArray.empty (.slice none 0 0) (.slice none 0 0)), rfl, (by rw [read_else HK.out.symm h4 h5 h6 h7 h8]; exact ⟨_, _, rfl, nil_freshB _ _, .inl ⟨rfl, rfl⟩, .inl rfl⟩)⟩, hMX9.below hb4' (Nat.le_refl _)⟩
end Go.Proofs.YtjglknaojfnllaaDoor
