/- The walk of the program's TextStep. -/
import Derived.Test.YtjglknaojfnllaaDoorFnStepRead
import Derived.Test.YtjglknaojfnllaaDoorFnStepI
set_option linter.unusedSimpArgs false
set_option linter.unusedVariables false
namespace Go.Mux
open Go.RowKit
theorem num_bounds (s : ByteArray) : 0 ≤ (textNum s).1 ∧ (textNum s).1 ≤ 4294967295 := by
  rcases textNum_cases s with ⟨n, h1, _, h3⟩ | ⟨_, h3⟩
  · rw [h3]; exact isNum_pos h1
  · rw [h3]; exact ⟨Int.le_refl _, by decide⟩
theorem kind_bounds (w : ByteArray) : 0 ≤ kindOf w ∧ kindOf w ≤ 8 := by
  unfold kindOf
  repeat (split; · decide)
  decide
theorem unhexS_bulk (l : List UInt8) : (unhexS l).length ≤ l.length := by have := unhexS_len l; omega
theorem unhexI_bulk (l : List UInt8) : (unhexI l).length ≤ l.length := by have := unhexI_len l; omega
theorem wordAt_size (s : ByteArray) (i : Nat) : (wordAt (partsOf s) i).size ≤ s.size := by
  by_cases h : i < (partsOf s).length
  · rw [wordAt_some (List.getElem?_eq_getElem h)]; exact parts_size (List.getElem_mem h)
  · rw [wordAt_none (by omega)]; exact Nat.zero_le _
/-- What a read step holds is small. -/
structure Small (x : DStep) (n : Nat) : Prop where
  kind : 0 ≤ x.Kind ∧ x.Kind ≤ 8
  a : 0 ≤ x.A ∧ x.A ≤ 4294967295
  b : -1 ≤ x.B ∧ x.B ≤ 4294967295
  text : x.Text.size ≤ n
  data : x.Data.length ≤ n
  cuts : x.Cuts.length ≤ n
  nums : ∀ c ∈ x.Cuts, I64 c
  one : x.Text.size + x.Data.length + x.Cuts.length ≤ n
theorem small_zero (n : Nat) : Small zeroStep n := ⟨by unfold zeroStep; decide, by unfold zeroStep; decide, by unfold zeroStep; decide, Nat.zero_le _, Nat.zero_le _, Nat.zero_le _, by simp [zeroStep], Nat.zero_le _⟩
theorem read_small {dec : List UInt8 → List UInt8} (hd : ∀ l, (dec l).length ≤ l.length) (s : ByteArray) : Small (readStep dec s) s.size := by
  have q0 : (0 : Int) ≤ 0 ∧ (0 : Int) ≤ 4294967295 := by decide
  have qb : (-1 : Int) ≤ 0 ∧ (0 : Int) ≤ 4294967295 := by decide
  have q4 : (0 : Int) ≤ 4 ∧ (4 : Int) ≤ 8 := by decide
  have q5 : (0 : Int) ≤ 5 ∧ (5 : Int) ≤ 8 := by decide
  have q6 : (0 : Int) ≤ 6 ∧ (6 : Int) ≤ 8 := by decide
  have q7 : (0 : Int) ≤ 7 ∧ (7 : Int) ≤ 8 := by decide
  have q8 : (0 : Int) ≤ 8 ∧ (8 : Int) ≤ 8 := by decide
  have hlen := partsOf_len s
  have hcnt : s.data.toList.count 32 ≤ s.size := Nat.le_trans List.count_le_length (Nat.le_of_eq Array.length_toList)
  have hk := kind_bounds (wordAt (partsOf s) 0)
  have ha : ∀ i, 0 ≤ numAt (partsOf s) i ∧ numAt (partsOf s) i ≤ 4294967295 := fun i => num_bounds _
  have h1 := ha 1
  have h2 := ha 2
  have hw : (dec (wordAt (partsOf s) 2).data.toList).length ≤ s.size := by
    have q1 := hd (wordAt (partsOf s) 2).data.toList
    have q2 := wordAt_size s 2
    have q3 : (wordAt (partsOf s) 2).data.toList.length = (wordAt (partsOf s) 2).size := Array.length_toList
    omega
  have hz := rest_size s 1
  unfold readStep
  simp only
  split
  · refine ⟨q4, h1, qb, Nat.zero_le _, Nat.zero_le _, ?_, ?_, ?_⟩
    · show (((partsOf s).drop 2).map _).length ≤ _; rw [List.length_map, List.length_drop]; omega
    · intro c hc
      obtain ⟨q, _, rfl⟩ := List.mem_map.1 hc
      have := num_bounds q
      exact ⟨by omega, by omega⟩
    · show 0 + 0 + (((partsOf s).drop 2).map _).length ≤ _; rw [List.length_map, List.length_drop]; omega
  · split
    · refine ⟨q5, h1, ?_, Nat.zero_le _, Nat.zero_le _, Nat.zero_le _, by simp [zeroStep], Nat.zero_le _⟩
      show -1 ≤ (if _ then (-1 : Int) else _) ∧ (if _ then (-1 : Int) else _) ≤ _
      split
      · decide
      · omega
    · split
      · exact ⟨q6, q0, qb, by show (restOf s 1).size ≤ _; omega, Nat.zero_le _, Nat.zero_le _, by simp [zeroStep], by show (restOf s 1).size + 0 + 0 ≤ _; omega⟩
      · split
        · exact ⟨q7, h1, qb, Nat.zero_le _, by show (dec _).length ≤ _; omega, Nat.zero_le _, by simp [zeroStep], by show 0 + (dec _).length + 0 ≤ _; omega⟩
        · split
          · exact ⟨q8, h1, by show -1 ≤ numAt _ _ ∧ numAt _ _ ≤ _; omega, Nat.zero_le _, Nat.zero_le _, Nat.zero_le _, by simp [zeroStep], Nat.zero_le _⟩
          · exact ⟨hk, q0, qb, Nat.zero_le _, Nat.zero_le _, Nat.zero_le _, by simp [zeroStep], Nat.zero_le _⟩
theorem cuts_rep {lo : Nat} {W : World} {v : Value} {l : List Int} (h : CutsAt lo W v l) (hn : ∀ c ∈ l, I64 c) : RepS W v l := by
  rcases h with ⟨rfl, rfl⟩ | ⟨g, pre, post, rfl, _, hl, hr⟩
  · exact ⟨none, 0, rfl, ⟨by simp, by simp⟩, fun h => absurd rfl h⟩
  · refine ⟨_, l.length, rfl, ⟨by omega, Nat.le_refl _⟩, fun _ => ⟨g, pre.length, rfl, fun i x hx => ⟨[.int .i64 x], ⟨rfl, hn x (List.mem_of_getElem? hx)⟩, fun j u hu => ?_⟩⟩⟩
    match j, hu with
    | 0, hu =>
      simp only [List.getElem?_cons_zero, Option.some.injEq] at hu
      subst hu
      have hi := (List.getElem?_eq_some_iff.1 hx).1
      refine cell_at0 hr ?_
      show _ = some (Value.int .i64 x)
      rw [List.getElem?_map, List.append_assoc, List.getElem?_append_right (by simp [Rep.size]), List.getElem?_append_left (by simp [Rep.size]; omega)]
      have e : pre.length + i * Rep.size Int + 0 - pre.length = i := by simp [Rep.size]
      rw [e, hx]
      rfl
theorem StepAt.rep {lo n : Nat} {W : World} {cs : List Value} {x : DStep} (h : StepAt lo W cs x) (hs : Small x n) (hn : n ≤ 4294967296) : Rep.rep W cs x := by
  obtain ⟨vd, vc, rfl, hd, hc, _⟩ := h
  have hk := hs.kind
  have ha := hs.a
  have hb := hs.b
  have ht := hs.text
  refine DStep.rep_iff.2 ⟨vd, vc, rfl, ?_, ?_, ?_, ?_, hd.repS, cuts_rep hc hs.nums⟩
  · exact ⟨by omega, by omega⟩
  · exact ⟨by omega, by omega⟩
  · exact ⟨by omega, by omega⟩
  · omega
end Go.Mux
namespace Go.Mux
open Go.RowKit
theorem Small.bulk {x : DStep} {n : Nat} (h : Small x n) : x.bulk ≤ n := by unfold DStep.bulk; exact h.one
theorem zero_at (lo : Nat) (W : World) : StepAt lo W (row6 0 0 0 ByteArray.empty (.slice none 0 0) (.slice none 0 0)) zeroStep := ⟨_, _, rfl, nil_freshB _ _, .inl ⟨rfl, rfl⟩, .inl rfl⟩
theorem StepAt.one {lo : Nat} {W : World} {cs : List Value} {x : DStep} (h : StepAt lo W cs x) : cs.length = 6 ∧ ∀ u ∈ cs, u.oneCell' = true := by
  obtain ⟨vd, vc, rfl, hd, hc, _⟩ := h
  refine ⟨rfl, fun u hu => ?_⟩
  simp only [List.mem_cons, List.not_mem_nil, or_false] at hu
  rcases hu with rfl | rfl | rfl | rfl | rfl | rfl
  · rfl
  · rfl
  · rfl
  · rfl
  · obtain ⟨_, _, _, rfl⟩ := hd.repS.shape; rfl
  · rcases hc with ⟨rfl, _⟩ | ⟨_, _, _, rfl, _⟩ <;> rfl
theorem StepAt.keep {lo lo' : Nat} {W W1 : World} {cs : List Value} {x : DStep} (h : StepAt lo W cs x) (hk : ∀ b, lo ≤ b → b < W.heap.size → W1.heap[b]? = W.heap[b]?) (hl : lo' ≤ lo) : StepAt lo' W1 cs x := by
  obtain ⟨vd, vc, rfl, ⟨fp, ho, hn, hf⟩, hc, h4⟩ := h
  refine ⟨vd, vc, rfl, ⟨fp, ho.mono fun b hb => hk b (hf b hb) (ho.lt b hb), hn, fun b hb => Nat.le_trans hl (hf b hb)⟩, ?_, h4⟩
  rcases hc with ⟨h1, h2⟩ | ⟨g, pre, post, h1, h2, h3, h4⟩
  · exact .inl ⟨h1, h2⟩
  · exact .inr ⟨g, pre, post, h1, Nat.le_trans hl h2, h3, (hk g h2 (Array.getElem?_eq_some_iff.1 h4).1).trans h4⟩
theorem textStep_no {dec : List UInt8 → List UInt8} {s : ByteArray} (h : s.toList = [] ∨ stepText (readStep dec s) ≠ s) : textStep dec s = (zeroStep, false) := by unfold textStep; rw [if_pos h]
theorem textStep_yes {dec : List UInt8 → List UInt8} {s : ByteArray} (h : ¬ s.toList = []) (h2 : stepText (readStep dec s) = s) : textStep dec s = (readStep dec s, true) := by
  unfold textStep
  rw [if_neg (fun hh => hh.elim h (fun h3 => h3 h2))]
section
variable {P : Program}
/-- Two results: a struct in a box, and a slot. -/
theorem results_cell_slot0 {fn : Func} {p q : Tmp} {ty : TypeId} (h : fn.results = #[.cell p ty, .tmp q]) (tmps : Array Value) (w : World) (g : Nat) (t : TypeId) (cs : Array Value) (fr : Nat × Nat) (d : TypeDesc) (v : Value)
    (hp : tmps.getD p undef = .pointer (some ⟨g, 0, none⟩)) (hq : tmps.getD q undef = v) (hg : w.heap[g]? = some (.cells cs t fr))
    (hu : P.underlying ty = some d) (hd : (match d with | .struct _ | .array _ _ => true | _ => false) = true) (hi : (P.info? ty).map (·.size) = some cs.size) :
    (results fn tmps).run P w = .ok (.tuple #[.agg cs, v]) w := by
  have hp' : tmps[p]?.getD undef = .pointer (some ⟨g, 0, none⟩) := by simpa using hp
  have hq' : tmps[q]?.getD undef = v := by simpa using hq
  simp [results, h, hp', hq', asAddr, run_loadVar_row w g t ty cs fr d hg hu hd hi]
end
end Go.Mux
namespace Go.Proofs.YtjglknaojfnllaaDoor
open Go.RowKit Go.Mux
set_option maxRecDepth 100000 in
set_option maxHeartbeats 1000000 in
theorem impl_TextStep' (w : World) (s : ByteArray) (hs : s.size ≤ 1048576) (he : ENV w) : Calls Tryd.prog 6 #[.string s] w (Gives w fun r w' => ∃ cs, r = .tuple #[.agg cs.toArray, .bool (textStep unhexI s).2] ∧ StepAt w.heap.size w' cs (textStep unhexI s).1) := by
  have HE := Lib.hid he
  have hsm := read_small unhexI_bulk s
  have HSM := Lib.hid hsm
  clear he hsm
  obtain ⟨x, hx⟩ : ∃ x, x = readStep unhexI s := ⟨_, rfl⟩
  have HX := Lib.hid hx
  rw [← hx] at HSM
  clear hx
  go_enter Tryd.func6, Tryd.ntmps6
  go_wp2_with fail
  generalize hwb : World.alloc w _ = W0
  have hb0 : Below w.heap.size w W0 := by rw [← hwb]; exact bel_alloc (Below.refl _ _) _
  have hr0 : W0.heap[w.heap.size]? = some (.cells (row6 0 0 0 ByteArray.empty (.slice none 0 0) (.slice none 0 0)).toArray 25 (0, 0)) := by rw [← hwb]; exact heap_alloc_new w _
  have hz0 : w.heap.size < W0.heap.size := (Array.getElem?_eq_some_iff.1 hr0).1
  have HB0 := Lib.hid hb0
  clear hwb hb0
  refine (impl_stepRead W0 s hs (HE.out.mono HB0.out)).mono ?_
  rintro e W1 ⟨_, rfl, ⟨cs, rfl, hst⟩, hb⟩
  rw [← HX.out] at hst
  have HB1 := Lib.hid (bel_next HB0.out hb)
  have hr1 := (hb.block w.heap.size hz0).trans hr0
  have hz1 : w.heap.size < W1.heap.size := Nat.lt_of_lt_of_le hz0 hb.size
  have HST := Lib.hid hst
  obtain ⟨hl6, hone⟩ := hst.one
  obtain ⟨vd, vc, rfl, -⟩ := hst
  have h6 : (List.length [Value.int .i64 x.Kind, .int .i64 x.A, .int .i64 x.B, .string x.Text, vd, vc]) = 6 := rfl
  have HONE := Lib.hid hone
  clear hb hr0 hone hl6
  go_upto_region 2 with ((with_reducible (show wpList _ _ _ (Oper.mk _ (Op.store 25 _ _) _ _ _ _ :: _) _ _)); have HAL := Lib.hid (heap_alloc_new W1 (.cells (row6 0 0 0 ByteArray.empty (.slice none 0 0) (.slice none 0 0)).toArray 25 (0, 0))); refine wpList_store_at rfl 25 _ _ rfl W1.heap.size 0 rfl _ rfl [Value.int .i64 x.Kind, .int .i64 x.A, .int .i64 x.B, .string x.Text, vd, vc] rfl (row6 0 0 0 ByteArray.empty (.slice none 0 0) (.slice none 0 0)).toArray 25 HAL.out (by rw [h6]; decide) HONE.out (by rw [h6]; exact size_step6) ?_; intro W2 hW; (try rw [act_put_none0]); have hM2 := Moved.row hW; have ht2 := row_turnN HAL.out hW (cur' := [Value.int .i64 x.Kind, .int .i64 x.A, .int .i64 x.B, .string x.Text, vd, vc]) (by rw [List.take_zero, List.nil_append, List.drop_eq_nil_of_le (by rw [h6]; decide), List.append_nil]); clear hW HAL)
  have hal2 := bel_alloc (Below.refl W1.heap.size W1) (.cells (row6 0 0 0 ByteArray.empty (.slice none 0 0) (.slice none 0 0)).toArray 25 (0, 0))
  have hb2 := hM2.below hal2 (Nat.le_refl _)
  have hs2 := (hb2.block w.heap.size hz1).trans hr1
  have HB2 := Lib.hid (bel_next HB1.out hb2)
  have HST2 := Lib.hid (HST.out.keep (lo' := W0.heap.size) (fun b _ h => hb2.block b h) (Nat.le_refl _))
  obtain ⟨T, hT⟩ : ∃ T, T = W1.heap.size := ⟨_, rfl⟩
  rw [← hT] at ht2 ⊢
  have hTw : w.heap.size < T := by omega
  have hT2 : T < W2.heap.size := (Array.getElem?_eq_some_iff.1 ht2).1
  clear hal2 hb2 hM2 hr1 hT
  (try simp only [Act.put, List.getElem_toArray, List.getElem_cons_succ, List.getElem_cons_zero, List.setIfInBounds_toArray, List.set_cons_zero, List.set_cons_succ])
  by_cases hemp : s.toList = []
  · have HN := Lib.hid (textStep_no (dec := unhexI) (.inl hemp))
    have q1 : (s.toList == []) = true := by rw [hemp]; rfl
    clear hemp
    go_wp2_with ((with_reducible (show wpList _ _ _ (Oper.mk _ (Op.store 25 _ _) _ _ _ _ :: _) _ _)); refine wpList_store_at rfl 25 _ _ rfl w.heap.size 0 rfl _ rfl (row6 0 0 0 ByteArray.empty (.slice none 0 0) (.slice none 0 0)) rfl (row6 0 0 0 ByteArray.empty (.slice none 0 0) (.slice none 0 0)).toArray 25 hs2 (Nat.le_of_ble_eq_true rfl) (by simp [row6, Value.oneCell']) size_step6 ?_; intro X9 hW; (try rw [act_put_none0]); have hMX9 := Moved.row hW; have hrX9 := row_turnN hs2 hW (cur' := (row6 0 0 0 ByteArray.empty (.slice none 0 0) (.slice none 0 0))) rfl; clear hW)
    exact bodyPost_ret (results_cell_slot0 Tryd.results6 _ _ w.heap.size 25 (row6 0 0 0 ByteArray.empty (.slice none 0 0) (.slice none 0 0)).toArray (0, 0) _ (.bool false) rfl rfl hrX9 Tryd.underlying25 rfl size_step6) rfl ⟨_, rfl, ⟨(row6 0 0 0 ByteArray.empty (.slice none 0 0) (.slice none 0 0)), by rw [HN.out], by rw [HN.out]; exact zero_at _ _⟩, hMX9.below HB2.out (Nat.le_refl _)⟩
  · have q1 : (s.toList == []) = false := by rw [beq_eq_false_iff_ne]; exact hemp
    have HEM := Lib.hid hemp
    clear hemp
    have c0 : W2.cell? ⟨T, 0, none⟩ = some (.int .i64 x.Kind) := cell_at0 ht2 rfl
    have c1 : W2.cell? ⟨T, 1, none⟩ = some (.int .i64 x.A) := cell_at0 ht2 rfl
    have c2 : W2.cell? ⟨T, 2, none⟩ = some (.int .i64 x.B) := cell_at0 ht2 rfl
    have c3 : W2.cell? ⟨T, 3, none⟩ = some (.string x.Text) := cell_at0 ht2 rfl
    have c4 : W2.cell? ⟨T, 4, none⟩ = some vd := cell_at0 ht2 rfl
    have c5 : W2.cell? ⟨T, 5, none⟩ = some vc := cell_at0 ht2 rfl
    go_wp2_with fail
    refine (impl_StepText' _ [Value.int .i64 x.Kind, .int .i64 x.A, .int .i64 x.B, .string x.Text, vd, vc] x (HST2.out.rep HSM.out (by omega)) (Nat.le_trans HSM.out.bulk hs) (HE.out.mono HB2.out).tab).mono ?_
    rintro e W3 ⟨_, rfl, rfl, hb⟩
    have HB3 := Lib.hid (bel_next HB2.out hb)
    have HST3 := Lib.hid (HST2.out.keep (lo' := W0.heap.size) (fun b _ h => hb.block b h) (Nat.le_refl _))
    have hs3 := (hb.block w.heap.size (by omega)).trans hs2
    have ht3 := (hb.block T hT2).trans ht2
    clear hb hs2 ht2 c0 c1 c2 c3 c4 c5
    by_cases hq : stepText x = s
    · have q2 : ((stepText x).toList == s.toList) = true := by rw [str_beq]; exact decide_eq_true hq
      have HN := Lib.hid (textStep_yes HEM.out (by rw [← HX.out]; exact hq))
      clear hq
      have c0 : W3.cell? ⟨T, 0, none⟩ = some (.int .i64 x.Kind) := cell_at0 ht3 rfl
      have c1 : W3.cell? ⟨T, 1, none⟩ = some (.int .i64 x.A) := cell_at0 ht3 rfl
      have c2 : W3.cell? ⟨T, 2, none⟩ = some (.int .i64 x.B) := cell_at0 ht3 rfl
      have c3 : W3.cell? ⟨T, 3, none⟩ = some (.string x.Text) := cell_at0 ht3 rfl
      have c4 : W3.cell? ⟨T, 4, none⟩ = some vd := cell_at0 ht3 rfl
      have c5 : W3.cell? ⟨T, 5, none⟩ = some vc := cell_at0 ht3 rfl
      have ONE6 := HONE.out
      go_wp2_with ((with_reducible (show wpList _ _ _ (Oper.mk _ (Op.store 25 _ _) _ _ _ _ :: _) _ _)); refine wpList_store_at rfl 25 _ _ rfl w.heap.size 0 rfl _ rfl [Value.int .i64 x.Kind, .int .i64 x.A, .int .i64 x.B, .string x.Text, vd, vc] rfl (row6 0 0 0 ByteArray.empty (.slice none 0 0) (.slice none 0 0)).toArray 25 hs3 (Nat.le_of_ble_eq_true rfl) ONE6 size_step6 ?_; intro X9 hW; (try rw [act_put_none0]); have hMX9 := Moved.row hW; have hrX9 := row_turnN hs3 hW (cur' := [Value.int .i64 x.Kind, .int .i64 x.A, .int .i64 x.B, .string x.Text, vd, vc]) rfl; clear hW)
      exact bodyPost_ret (results_cell_slot0 Tryd.results6 _ _ w.heap.size 25 [Value.int .i64 x.Kind, .int .i64 x.A, .int .i64 x.B, .string x.Text, vd, vc].toArray (0, 0) _ (.bool true) rfl rfl hrX9 Tryd.underlying25 rfl size_step6) rfl ⟨_, rfl, ⟨[Value.int .i64 x.Kind, .int .i64 x.A, .int .i64 x.B, .string x.Text, vd, vc], by rw [HN.out], by rw [HN.out, ← HX.out]; exact HST3.out.keep (fun b h1 h2 => hMX9.other b (by omega)) (by omega)⟩, hMX9.below HB3.out (Nat.le_refl _)⟩
    · have q2 : ((stepText x).toList == s.toList) = false := by rw [str_beq]; exact decide_eq_false hq
      have HN := Lib.hid (textStep_no (dec := unhexI) (s := s) (.inr (by rw [← HX.out]; exact hq)))
      clear hq
      have ONE6 : ∀ u ∈ (row6 0 0 0 ByteArray.empty (.slice none 0 0) (.slice none 0 0)), u.oneCell' = true := by simp [row6, Value.oneCell']
      go_wp2_with ((with_reducible (show wpList _ _ _ (Oper.mk _ (Op.store 25 _ _) _ _ _ _ :: _) _ _)); refine wpList_store_at rfl 25 _ _ rfl w.heap.size 0 rfl _ rfl (row6 0 0 0 ByteArray.empty (.slice none 0 0) (.slice none 0 0)) rfl (row6 0 0 0 ByteArray.empty (.slice none 0 0) (.slice none 0 0)).toArray 25 hs3 (Nat.le_of_ble_eq_true rfl) ONE6 size_step6 ?_; intro X9 hW; (try rw [act_put_none0]); have hMX9 := Moved.row hW; have hrX9 := row_turnN hs3 hW (cur' := (row6 0 0 0 ByteArray.empty (.slice none 0 0) (.slice none 0 0))) rfl; clear hW)
      exact bodyPost_ret (results_cell_slot0 Tryd.results6 _ _ w.heap.size 25 (row6 0 0 0 ByteArray.empty (.slice none 0 0) (.slice none 0 0)).toArray (0, 0) _ (.bool false) rfl rfl hrX9 Tryd.underlying25 rfl size_step6) rfl ⟨_, rfl, ⟨(row6 0 0 0 ByteArray.empty (.slice none 0 0) (.slice none 0 0)), by rw [HN.out], by rw [HN.out]; exact zero_at _ _⟩, hMX9.below HB3.out (Nat.le_refl _)⟩
end Go.Proofs.YtjglknaojfnllaaDoor
