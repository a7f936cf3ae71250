/- What is drawn shows: runes and attributes from the cursor. -/
import Derived.Test.YtaobgfneeijpmaaFnCur
import Derived.Test.YtaobgfneeijpmaaFnGrid
import Derived.Test.YtaobgfneeijpmaaFnBlank
set_option linter.unusedSimpArgs false
set_option linter.unusedVariables false
namespace Go.Mux
open Go.RowKit
theorem shows_in {r : Int} (h : (32 ≤ r ∧ r ≤ 126) ∨ (160 ≤ r ∧ r ≤ 55295)) : showsB r = true := by
  unfold showsB withinB
  rcases h with ⟨h1, h2⟩ | ⟨h1, h2⟩
  · simp [h1, h2]
  · have : ¬ (55296 ≤ r) := by omega
    have h3 : r ≤ 65535 := by omega
    simp [h1, h3, this]
theorem attr_in {a : DAttr} (h0 : 0 ≤ a.Fg) (h1 : a.Fg ≤ 8) (h2 : 0 ≤ a.Bg) (h3 : a.Bg ≤ 8) : attrOkB a = true := by
  unfold attrOkB withinB
  simp [h0, h1, h2, h3]
theorem cur_size {w0 w : World} {C : Nat} (hc : Cur w0 C w) (hb : Below w0.heap.size w0 w) : w0.heap.size ≤ w.heap.size := hb.size
/-- The cursor lives through a call that makes memory alone. -/
theorem Cur.call {w0 w w' : World} {C : Nat} (h : Cur w0 C w) (hb : Below w.heap.size w w') : Cur w0 C w' := h.keep (hb.block C h.lt)
theorem attr_row {w : World} {a : DAttr} (h : attrOkB a = true) : Rep.rep w [.int .i64 a.Fg, .int .i64 a.Bg, .bool a.Bold, .bool a.Under, .bool a.Turn] a := by
  unfold attrOkB withinB at h
  simp only [Bool.and_eq_true, decide_eq_true_eq] at h
  refine DAttr.rep_iff.2 ⟨rfl, ?_, ?_⟩ <;> (unfold I64; omega)
/-- A turn in a block that is newer. -/
theorem Part.fresh {G g : Nat} {W W1 W2 : World} (h : Part G W W1) (hm : Moved g W1 W2) (hg : W.heap.size ≤ g) : Part G W W2 :=
  ⟨hm.os.trans h.os, hm.tape.trans h.tape, hm.output.trans h.output, Nat.le_trans h.size (Nat.le_of_eq hm.size.symm), fun k hk hg' => (hm.other k (by omega)).trans (h.other k hk hg')⟩
theorem Cur.moved {w0 w w' : World} {C g : Nat} (h : Cur w0 C w) (hm : Moved g w w') (hg : g ≠ C) : Cur w0 C w' := h.keep (hm.other C (Ne.symm hg))
/-- The runes that are drawn most. -/
def fewRunes : List Int := [97, 98, 99, 120, 49, 32, 46, 45, 233, 20013]
theorem few_shows {m : Nat} {x : Int} (h : fewRunes[m]? = some x) : showsB x = true := by
  have hm := List.mem_of_getElem? h
  simp only [fewRunes, List.mem_cons, List.not_mem_nil, or_false] at hm
  rcases hm with rfl | rfl | rfl | rfl | rfl | rfl | rfl | rfl | rfl | rfl <;> exact shows_in (by omega)
section
variable {P : Program}
/-- Two results: a struct in a box, and a slot. -/
theorem results_cell_slot {fn : Func} {p q : Tmp} {ty : TypeId} (h : fn.results = #[.cell p ty, .tmp q]) (tmps : Array Value) (w : World) (g : Nat) (t : TypeId) (cs : Array Value) (fr : Nat × Nat) (d : TypeDesc) (v : Value)
    (hp : tmps.getD p undef = .pointer (some ⟨g, 0, none⟩)) (hq : tmps.getD q undef = v) (hg : w.heap[g]? = some (.cells cs t fr))
    (hu : P.underlying ty = some d) (hd : (match d with | .struct _ | .array _ _ => true | _ => false) = true) (hi : (P.info? ty).map (·.size) = some cs.size) :
    (results fn tmps).run P w = .ok (.tuple #[.agg cs, v]) w := by
  have hp' : tmps[p]?.getD undef = .pointer (some ⟨g, 0, none⟩) := by simpa using hp
  have hq' : tmps[q]?.getD undef = v := by simpa using hq
  simp [results, h, hp', hq', asAddr, run_loadVar_row w g t ty cs fr d hg hu hd hi]
end
end Go.Mux
namespace Go.Proofs.Ytaobgfneeijpmaa
open Go.RowKit Go.Mux
set_option maxRecDepth 100000 in
set_option maxHeartbeats 1000000 in
theorem spec_l06Rune (w0 w : World) (C : Nat) (hc : Cur w0 C w) (hb : Below w0.heap.size w0 w) : Calls Try.prog 52 #[.pointer (some ⟨C, 0, none⟩)] w (fun e w' => ∃ n : Int, e = .returned (.int .i64 n) ∧ showsB n = true ∧ Cur w0 C w' ∧ Part C w w') := by
  have HC := Lib.hid hc
  have HB := Lib.hid hb
  have hC := hc.base
  clear hc hb
  go_enter Try.func52, Try.ntmps52
  go_wp2_with fail
  refine (spec_l01Below w0 _ C 10 HC.out HB.out (by omega) (by omega)).mono ?_
  rintro e W1 ⟨x, rfl, hx0, hx1, hc1, hp1⟩
  have HC1 := Lib.hid hc1
  have HP1 := Lib.hid hp1
  have HB1 := Lib.hid (hp1.below HB.out hC HB.out.size)
  clear hc1 hp1
  by_cases h7 : x < 7
  · have d1 : decide (x < 7) = true := decide_eq_true h7
    go_wp2_with fail
    generalize hwb : World.alloc W1 _ = W2
    have hbl : W2.heap[W1.heap.size]? = some (.cells #[.int .i64 97, .int .i64 98, .int .i64 99, .int .i64 120, .int .i64 49, .int .i64 32, .int .i64 46, .int .i64 45, .int .i64 233, .int .i64 20013] 3 (0, 0)) := by rw [← hwb]; exact new_at _ _ rfl
    have hba : Below W1.heap.size W1 W2 := by rw [← hwb]; exact bel_alloc (Below.refl _ _) _
    have HC2 := Lib.hid (HC1.out.call hba)
    have HB2 := Lib.hid (HB1.out.trans (hba.mono HB1.out.size))
    have HP2 := Lib.hid (HP1.out.call hba)
    have hlt := HC1.out.lt
    clear hwb hba
    have hs2 : W1.heap.size < W2.heap.size := (Array.getElem?_eq_some_iff.1 hbl).1
    refine (spec_l01Below w0 _ C 10 HC2.out HB2.out (by omega) (by omega)).mono ?_
    rintro e W3 ⟨y, rfl, hy0, hy1, hc3, hp3⟩
    have HC3 := Lib.hid hc3
    have HP3 := Lib.hid (HP2.out.trans hp3)
    have hbl3 := (hp3.other W1.heap.size hs2 (by omega)).trans hbl
    clear hc3 hp3 hbl
    obtain ⟨m, rfl⟩ : ∃ m : Nat, y = (m : Int) := ⟨y.toNat, by omega⟩
    obtain ⟨z, hz⟩ : ∃ z, fewRunes[m]? = some z := ⟨fewRunes[m]'(by simp [fewRunes]; omega), by simp⟩
    have HZ := Lib.hid (few_shows hz)
    have hcell : W3.cell? ⟨W1.heap.size, m, none⟩ = some (.int .i64 z) := by
      rw [cell_of_row W3 _ m _ _ _ hbl3]
      have : (#[Value.int .i64 97, .int .i64 98, .int .i64 99, .int .i64 120, .int .i64 49, .int .i64 32, .int .i64 46, .int .i64 45, .int .i64 233, .int .i64 20013] : Array Value) = (fewRunes.map (Value.int .i64 ·)).toArray := rfl
      rw [this, List.getElem?_toArray, List.getElem?_map, hz]
      rfl
    have m0 : (0 : Int) ≤ (m : Int) := by omega
    have m1 : (m : Int) < 10 := by omega
    clear hz hbl3
    go_wp2_with fail
    go_ret
    exact ⟨_, rfl, HZ.out, HC3.out, HP3.out⟩
  · have d1 : decide (x < 7) = false := decide_eq_false h7
    by_cases h8 : x = 7
    · have d2 : decide (x = 7) = true := decide_eq_true h8
      go_wp2_with fail
      refine (spec_l01Below w0 _ C 94 HC1.out HB1.out (by omega) (by omega)).mono ?_
      rintro e W3 ⟨y, rfl, hy0, hy1, hc3, hp3⟩
      have HC3 := Lib.hid hc3
      have HP3 := Lib.hid (HP1.out.trans hp3)
      clear hc3 hp3
      have hw : IntKind.i64.wrap (33 + y) = 33 + y := by rw [IntKind.wrap_i64]; omega
      have HZ := Lib.hid (shows_in (r := 33 + y) (by omega))
      go_wp2_with fail
      go_ret
      exact ⟨_, rfl, HZ.out, HC3.out, HP3.out⟩
    · have d2 : decide (x = 7) = false := decide_eq_false h8
      go_wp2_with fail
      refine (spec_l01Below w0 _ C 3000 HC1.out HB1.out (by omega) (by omega)).mono ?_
      rintro e W3 ⟨y, rfl, hy0, hy1, hc3, hp3⟩
      have HC3 := Lib.hid hc3
      have HP3 := Lib.hid (HP1.out.trans hp3)
      clear hc3 hp3
      have hw : IntKind.i64.wrap (160 + y) = 160 + y := by rw [IntKind.wrap_i64]; omega
      have HZ := Lib.hid (shows_in (r := 160 + y) (by omega))
      go_wp2_with fail
      go_ret
      exact ⟨_, rfl, HZ.out, HC3.out, HP3.out⟩
set_option maxRecDepth 100000 in
set_option maxHeartbeats 1000000 in
theorem spec_NumAttr (w : World) (n : Int) (h0 : 0 ≤ n) (h1 : n < 648) : Calls Try.prog 82 #[.int .i64 n] w (Gives w fun r w' => ∃ a : DAttr, r = .tuple #[.agg #[.int .i64 a.Fg, .int .i64 a.Bg, .bool a.Bold, .bool a.Under, .bool a.Turn], .bool true] ∧ attrOkB a = true) := by
  have d1 : decide (n < 0) = false := decide_eq_false (by omega)
  have d2 : decide (648 ≤ n) = false := decide_eq_false (by omega)
  have e1 : Int.tdiv n 72 = n / 72 := Int.tdiv_eq_ediv_of_nonneg h0
  have e2 : Int.tdiv n 8 = n / 8 := Int.tdiv_eq_ediv_of_nonneg h0
  have e3 : IntKind.i64.wrap (n / 72) = n / 72 := by rw [IntKind.wrap_i64]; omega
  have e4 : IntKind.i64.wrap (n / 8) = n / 8 := by rw [IntKind.wrap_i64]; omega
  have HA := Lib.hid (show 0 ≤ n / 8 % 9 ∧ n / 8 % 9 ≤ 8 ∧ 0 ≤ n / 72 ∧ n / 72 ≤ 8 from by omega)
  go_enter Try.func82, Try.ntmps82
  go_wp2_with fail
  exact bodyPost_ret (results_cell_slot Try.results82 _ _ w.heap.size 27 #[.int .i64 (n / 8 % 9), .int .i64 (n / 72), .bool (n % 2 == 1), .bool (n / 2 % 2 == 1), .bool (n / 4 % 2 == 1)] (0, 0) _ (.bool true) rfl rfl (new_at _ _ rfl) Try.underlying27 rfl size_implAttr) rfl ⟨_, rfl, ⟨⟨n / 8 % 9, n / 72, n % 2 == 1, n / 2 % 2 == 1, n / 4 % 2 == 1⟩, rfl, attr_in HA.out.1 HA.out.2.1 HA.out.2.2.1 HA.out.2.2.2⟩, bel_alloc (Below.refl _ _) _⟩
set_option maxRecDepth 100000 in
set_option maxHeartbeats 1000000 in
theorem spec_l06Attr (w0 w : World) (C : Nat) (hc : Cur w0 C w) (hb : Below w0.heap.size w0 w) : Calls Try.prog 55 #[.pointer (some ⟨C, 0, none⟩)] w (fun e w' => ∃ a : DAttr, e = .returned (.agg #[.int .i64 a.Fg, .int .i64 a.Bg, .bool a.Bold, .bool a.Under, .bool a.Turn]) ∧ attrOkB a = true ∧ Cur w0 C w' ∧ Part C w w') := by
  have HC := Lib.hid hc
  have HB := Lib.hid hb
  have hC := hc.base
  have hCl := hc.lt
  clear hc hb
  go_enter Try.func55, Try.ntmps55
  go_wp2_with fail
  generalize hwb : World.alloc w _ = W0
  have hb0 : Below w.heap.size w W0 := by rw [← hwb]; exact bel_alloc (Below.refl _ _) _
  have hr0 : W0.heap[w.heap.size]? = some (.cells #[.int .i64 0, .int .i64 0, .bool false, .bool false, .bool false] 27 (0, 0)) := by rw [← hwb]; exact new_at _ _ rfl
  have hz0 : w.heap.size < W0.heap.size := by rw [← hwb]; simp
  have HB0 := Lib.hid (HB.out.trans (hb0.mono HB.out.size))
  have HP0 := Lib.hid ((Part.refl C w).call hb0)
  have HC0 := Lib.hid (HC.out.call hb0)
  clear hwb hb0
  refine (spec_l01Below w0 _ C 2 HC0.out HB0.out (by omega) (by omega)).mono ?_
  rintro e W1 ⟨x, rfl, hx0, hx1, hc1, hp1⟩
  have hs1 := (hp1.other w.heap.size hz0 (by omega)).trans hr0
  have HC1 := Lib.hid hc1
  have HP1 := Lib.hid (HP0.out.trans hp1)
  have HB1 := Lib.hid (hp1.below HB0.out hC HB0.out.size)
  clear hc1 hp1 hr0
  have hz1 : w.heap.size < W1.heap.size := (Array.getElem?_eq_some_iff.1 hs1).1
  by_cases h0 : x = 0
  · have d1 : decide (x = 0) = true := decide_eq_true h0
    go_wp2_with (((with_reducible (show wpList _ _ _ (Oper.mk _ (Op.store 27 _ _) _ _ _ _ :: _) _ _)); refine wpList_store_at rfl 27 _ _ rfl (w.heap.size) 0 rfl _ rfl [.int .i64 0, .int .i64 0, .bool false, .bool false, .bool false] rfl #[.int .i64 0, .int .i64 0, .bool false, .bool false, .bool false] 27 hs1 (Nat.le_of_ble_eq_true rfl) (by simp [Value.oneCell']) size_implAttr ?_; intro W3 hW; have hM3 := Moved.row hW; have hr3 : W3.heap[w.heap.size]? = some (.cells #[.int .i64 0, .int .i64 0, .bool false, .bool false, .bool false] 27 (0, 0)) := (by rw [hW, setRow_heap _ _ _ _ _ _ hs1]; rfl); clear hW))
    exact bodyPost_ret (results_cell_row Try.results55 _ _ w.heap.size 27 #[.int .i64 0, .int .i64 0, .bool false, .bool false, .bool false] (0, 0) _ rfl hr3 Try.underlying27 rfl size_implAttr) rfl ⟨⟨0, 0, false, false, false⟩, rfl, attr_in (by decide) (by decide) (by decide) (by decide), HC1.out.moved hM3 (by omega), HP1.out.fresh hM3 (Nat.le_refl _)⟩
  · have d1 : decide (x = 0) = false := decide_eq_false h0
    go_wp2_with fail
    refine (spec_l01Below w0 _ C 648 HC1.out HB1.out (by omega) (by omega)).mono ?_
    rintro e W2 ⟨y, rfl, hy0, hy1, hc2, hp2⟩
    have hs2 := (hp2.other w.heap.size hz1 (by omega)).trans hs1
    have HC2 := Lib.hid hc2
    have HP2 := Lib.hid (HP1.out.trans hp2)
    have hz2 : w.heap.size < W2.heap.size := (Array.getElem?_eq_some_iff.1 hs2).1
    clear hc2 hp2
    go_wp2_with fail
    refine (spec_NumAttr W2 y (by omega) (by omega)).mono ?_
    rintro e W3 ⟨_, rfl, ⟨a, rfl, ha⟩, hb⟩
    have HA := Lib.hid ha
    have hs3 := (hb.block w.heap.size hz2).trans hs2
    have HC3 := Lib.hid (HC2.out.call hb)
    have HP3 := Lib.hid (HP2.out.call hb)
    have hz3 : w.heap.size < W3.heap.size := (Array.getElem?_eq_some_iff.1 hs3).1
    have hcl3 := HC3.out.lt
    clear ha hb
    go_wp2_with (first
      | ((with_reducible (show wpList _ _ _ (Oper.mk _ (Op.load 27 _) _ _ _ _ :: _) _ _)); generalize hwb : World.alloc W3 _ = W4; have hb4 : Below W3.heap.size W3 W4 := (by rw [← hwb]; exact bel_alloc (Below.refl _ _) _); have hr4 : W4.heap[W3.heap.size]? = some (.cells #[.int .i64 a.Fg, .int .i64 a.Bg, .bool a.Bold, .bool a.Under, .bool a.Turn] 27 (0, 0)) := (by rw [← hwb]; exact new_at _ _ rfl); clear hwb; refine wpList_load_row rfl 27 _ rfl W3.heap.size rfl 27 #[.int .i64 a.Fg, .int .i64 a.Bg, .bool a.Bold, .bool a.Under, .bool a.Turn] (0, 0) _ hr4 Try.underlying27 rfl size_implAttr ?_; have hs4 := (hb4.block w.heap.size hz3).trans hs3; have HC4 := Lib.hid (HC3.out.call hb4); have HP4 := Lib.hid (HP3.out.call hb4); clear hb4)
      | ((with_reducible (show wpList _ _ _ (Oper.mk _ (Op.store 27 _ _) _ _ _ _ :: _) _ _)); refine wpList_store_at rfl 27 _ _ rfl (w.heap.size) 0 rfl _ rfl [.int .i64 a.Fg, .int .i64 a.Bg, .bool a.Bold, .bool a.Under, .bool a.Turn] rfl #[.int .i64 0, .int .i64 0, .bool false, .bool false, .bool false] 27 hs4 (Nat.le_of_ble_eq_true rfl) (by simp [Value.oneCell']) size_implAttr ?_; intro W5 hW; have hM5 := Moved.row hW; have hr5 : W5.heap[w.heap.size]? = some (.cells #[.int .i64 a.Fg, .int .i64 a.Bg, .bool a.Bold, .bool a.Under, .bool a.Turn] 27 (0, 0)) := (by rw [hW, setRow_heap _ _ _ _ _ _ hs4]; rfl); clear hW))
    exact bodyPost_ret (results_cell_row Try.results55 _ _ w.heap.size 27 #[.int .i64 a.Fg, .int .i64 a.Bg, .bool a.Bold, .bool a.Under, .bool a.Turn] (0, 0) _ rfl hr5 Try.underlying27 rfl size_implAttr) rfl ⟨a, rfl, HA.out, HC4.out.moved hM5 (by omega), HP4.out.fresh hM5 (Nat.le_refl _)⟩
end Go.Proofs.Ytaobgfneeijpmaa
