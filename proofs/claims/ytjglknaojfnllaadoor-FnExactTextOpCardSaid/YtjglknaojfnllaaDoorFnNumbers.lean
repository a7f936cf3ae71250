/- The walk of the program's numbersOf: the numbers that words tell. -/
import Derived.Test.YtjglknaojfnllaaDoorFnSplit
import Derived.Test.YtjglknaojfnllaaDoorFnTextS
import Derived.Test.YtjglknaojfnllaaDoorBig
namespace Go.Mux
open Go.RowKit
/-- The first words' numbers. -/
@[irreducible] def numsOf (many : Nat) (ws : List ByteArray) : List Int := (List.range many).map fun i => numAt ws i
def rowN (many k : Nat) (ws : List ByteArray) : List Value := (List.range many).map fun i => Value.int .i64 (if i < k then numAt ws i else 0)
theorem rowN_length (many k : Nat) (ws : List ByteArray) : (rowN many k ws).length = many := by unfold rowN; simp
theorem rowN_get {many k i : Nat} {ws : List ByteArray} (h : i < many) : (rowN many k ws)[i]? = some (.int .i64 (if i < k then numAt ws i else 0)) := by
  unfold rowN
  rw [List.getElem?_map, List.getElem?_range h]
  rfl
theorem rowN_zero (many : Nat) (ws : List ByteArray) : rowN many 0 ws = List.replicate many (.int .i64 0) := by
  refine List.ext_getElem? fun i => ?_
  by_cases h : i < many
  · rw [rowN_get h, List.getElem?_replicate_of_lt h]; simp
  · rw [List.getElem?_eq_none (by rw [rowN_length]; omega), List.getElem?_eq_none (by simp; omega)]
theorem rowN_set {many k : Nat} {ws : List ByteArray} (h : k < many) : (rowN many k ws).take k ++ [.int .i64 (numAt ws k)] ++ (rowN many k ws).drop (k + 1) = rowN many (k + 1) ws := by
  refine List.ext_getElem? fun i => ?_
  have hl := rowN_length many k ws
  by_cases hi : i < many
  · rw [rowN_get hi]
    by_cases h1 : i < k
    · rw [List.append_assoc, List.getElem?_append_left (by rw [List.length_take]; omega), List.getElem?_take_of_lt h1, rowN_get hi]
      simp [h1, show i < k + 1 by omega]
    · by_cases h2 : i = k
      · subst h2
        rw [List.append_assoc, List.getElem?_append_right (by rw [List.length_take]; omega), List.length_take, Nat.min_eq_left (by omega), Nat.sub_self]
        simp
      · rw [List.getElem?_append_right (by simp; omega), List.getElem?_drop]
        have e : k + 1 + (i - ((rowN many k ws).take k ++ [Value.int .i64 (numAt ws k)]).length) = i := by simp; omega
        rw [e, rowN_get hi]
        simp [h1, show ¬ i < k + 1 by omega]
  · rw [List.getElem?_eq_none (by simp; omega), List.getElem?_eq_none (by rw [rowN_length]; omega)]
theorem numAt_none {ws : List ByteArray} {i : Nat} (h : ws.length ≤ i) : numAt ws i = 0 := by
  unfold numAt
  rw [wordAt_none h]
  have : textNum ByteArray.empty = (0, false) := textNum_no fun n hn e => by
    rw [numText_of hn] at e
    have := congrArg (·.data.toList) e
    exact dec_ne _ this
  rw [this]
theorem rowN_full {many k : Nat} {ws : List ByteArray} (h : many ≤ k ∨ ws.length ≤ k) : rowN many k ws = (numsOf many ws).map (Value.int .i64 ·) := by
  unfold rowN numsOf
  rw [List.map_map]
  refine List.map_congr_left fun i hi => ?_
  have hi := List.mem_range.1 hi
  show Value.int .i64 _ = Value.int .i64 _
  by_cases hk : i < k
  · rw [if_pos hk]
  · rw [if_neg hk]
    have : numAt ws i = 0 := numAt_none (by omega)
    exact congrArg (Value.int .i64) this.symm
theorem row_turnN {w W1 : World} {g off : Nat} {cur cs cur' : List Value} {t : TypeId} (h : w.heap[g]? = some (.cells cur.toArray t (0, 0))) (hW : W1 = w.setRow g (putAt cur.toArray off cs)) (he : cur.take off ++ cs ++ cur.drop (off + cs.length) = cur') : W1.heap[g]? = some (.cells cur'.toArray t (0, 0)) := by
  rw [hW, setRow_heap _ _ _ _ _ _ h]
  unfold putAt
  rw [← he]
end Go.Mux
namespace Go.Proofs.YtjglknaojfnllaaDoor
open Go.RowKit Go.Mux
set_option maxRecDepth 100000 in
set_option maxHeartbeats 1000000 in
theorem impl_numbersOf (w : World) (v : Value) (ws : List ByteArray) (many : Nat) (h : RepS w v ws) (hm : many ≤ 1048577) (hs : ∀ s ∈ ws, s.size ≤ 1048576) (he : ENV w) : Calls Tryd.prog 43 #[v, .int .i64 (many : Int)] w (Gives w fun r w' => ∃ g, r = .slice (some ⟨g, 0, none⟩) many many ∧ w.heap.size ≤ g ∧ w'.heap[g]? = some (.cells ((numsOf many ws).map (Value.int .i64 ·)).toArray 3 (0, 0))) := by
  obtain ⟨a, cap, rfl, hl, hcap, hc⟩ := strs_open h
  have HC := Lib.hid hc
  have HE := Lib.hid he
  have HS := Lib.hid hs
  have m0 : (0 : Int) ≤ (many : Int) := by omega
  clear h hc he hs
  obtain ⟨mn, hmn⟩ : ∃ mn : Nat, mn = min many ws.length := ⟨_, rfl⟩
  have hmin : min (many : Int) (ws.length : Int) = (mn : Int) := by omega
  have hmn1 : mn ≤ many ∧ mn ≤ ws.length := by omega
  have HMN := Lib.hid (show many ≤ mn ∨ ws.length ≤ mn from by omega)
  clear hmn
  go_enter Tryd.func43, Tryd.ntmps43
  go_wp2_with (at_make; refine Mux.wpList_make_row rfl _ _ _ rfl many rfl rfl 3 _ _ _ Tryd.underlying23 info_int (by omega) (by omega) ?_)
  generalize hwb : World.alloc w _ = W0
  have hb0 : Below w.heap.size w W0 := by rw [← hwb]; exact bel_alloc (Below.refl _ _) _
  have hr0 : W0.heap[w.heap.size]? = some (.cells (rowN many 0 ws).toArray 3 (0, 0)) := by
    rw [← hwb, rowN_zero]
    refine (heap_alloc_new w _).trans ?_
    have : madeCells #[Value.int .i64 0] many = (List.replicate many (Value.int .i64 0)).toArray := by
      apply Array.ext
      · simp [madeCells]
      · intro i h1 h2
        simp [madeCells, Nat.mod_one]
    rw [this]
  have HB0 := Lib.hid hb0
  have HR0 := Lib.hid hr0
  clear hwb hb0 hr0
  go_loopw [13] (fun iv wr => ∃ k : Nat, k ≤ mn ∧ iv = .int .i64 (k : Int) ∧ Hid (wr.heap[w.heap.size]? = some (.cells (rowN many k ws).toArray 3 (0, 0))) ∧ Hid (Below w.heap.size w wr)) (fun iv _ => mn - (intOf iv).toNat)
  case atStart => exact ⟨0, Nat.zero_le _, rfl, HR0.out, HB0.out⟩
  case round =>
    clear HR0 HB0
    obtain ⟨k, hk, rfl, HR, HB⟩ := hrel
    by_cases hlt : k < mn
    · have d1 : decide ((k : Int) < (mn : Int)) = true := decide_eq_true (by omega)
      obtain ⟨b, off, rfl, hcell⟩ := HC.out (by intro e; rw [e] at hmn1; simp at hmn1; omega)
      obtain ⟨x, hx⟩ : ∃ x, ws[k]? = some x := ⟨ws[k]'(by omega), by simp [show k < ws.length by omega]⟩
      have kx := hcell k x hx
      have kc : wr.cell? ⟨b, off + k, none⟩ = some (.string x) := (HB.out.cell (p := ⟨b, off + k, none⟩) (World.block_lt_of_cell? w _ kx)).trans kx
      have HX := Lib.hid (show numAt ws k = (textNum x).1 from by unfold numAt; rw [wordAt_some hx])
      have HSX := Lib.hid (HS.out x (List.mem_of_getElem? hx))
      have k0 : (0 : Int) ≤ (k : Int) := by omega
      have k1 : (k : Int) < (ws.length : Int) := by omega
      have k2 : (k : Int) < (many : Int) := by omega
      clear hcell kx hx
      go_wp2_with fail
      refine (impl_TextNum _ x HSX.out (HE.out.mono HB.out)).mono ?_
      rintro e W1 ⟨_, rfl, rfl, hb⟩
      have hg1 := (hb.block w.heap.size (Array.getElem?_eq_some_iff.1 HR.out).1).trans HR.out
      have HB1 := Lib.hid (bel_next HB.out hb)
      rw [← HX.out]
      clear hb kc
      have hfit : k + 1 ≤ (rowN many k ws).toArray.size := by rw [List.size_toArray, rowN_length]; omega
      go_wp2_with ((with_reducible (show wpList _ _ _ (Oper.mk _ (Op.store 3 _ _) _ _ _ _ :: _) _ _)); refine wpList_store_at rfl 3 _ _ rfl w.heap.size k rfl _ rfl [.int .i64 (numAt ws k)] rfl (rowN many k ws).toArray 3 hg1 hfit (by simp [Value.oneCell']) (show (Tryd.prog.info? 3).map (·.size) = some 1 by kernel_rfl) ?_; intro W2 hW; have hM2 := Moved.row hW; have hr2 := row_turnN hg1 hW (rowN_set (by omega)); clear hW)
      go_roundw
      case rel => exact ⟨k + 1, by omega, by go_num, hr2, hM2.below HB1.out (Nat.le_refl _)⟩
      case measure => simp [intOf]; omega
    · have d1 : decide ((k : Int) < (mn : Int)) = false := decide_eq_false (by omega)
      obtain rfl : k = mn := by omega
      go_wp2_with fail
      go_ret
      exact ⟨_, rfl, ⟨_, rfl, Nat.le_refl _, by rw [← rowN_full (many := many) HMN.out]; exact HR.out⟩, HB.out⟩
end Go.Proofs.YtjglknaojfnllaaDoor
