/- The library's Join and Contains at this program, and lists of strings in memory. -/
import Derived.Test.YtjglknaojfnllaaDoorFnNum
import Derived.Test.YtjglknaojfnllaaDoorInts
import Derived.Shelf.Strings.OnBuilder
import Derived.Shelf.Strings.Search3
import Derived.Lib.IndexLaws
set_option linter.unusedSimpArgs false
set_option linter.unusedVariables false
namespace Go.Mux
open Go.RowKit
/-- A text holds a byte. -/
@[irreducible] def hasByte (s : ByteArray) (c : UInt8) : Bool := decide (c ∈ s.data.toList)
theorem hasByte_index (s : ByteArray) (c : UInt8) : decide (0 ≤ Lib.indexByte s.data.toList c) = hasByte s c := by
  unfold hasByte
  have hge := Lib.indexByte_ge s.data.toList c
  by_cases h : 0 ≤ Lib.indexByte s.data.toList c
  · obtain ⟨o, ho⟩ : ∃ o : Nat, Lib.indexByte s.data.toList c = o := ⟨(Lib.indexByte s.data.toList c).toNat, by omega⟩
    have := (Lib.indexByte_some ho).1
    rw [decide_eq_true h, decide_eq_true (List.mem_of_getElem? this)]
  · rw [decide_eq_false h]
    refine (decide_eq_false fun hm => ?_).symm
    obtain ⟨i, hi, e⟩ := List.mem_iff_getElem.1 hm
    exact Lib.indexByte_none (l := s.data.toList) (c := c) (by omega) i (by rw [List.getElem?_eq_getElem hi, e])
@[irreducible] def joinT (xs : List ByteArray) (sep : ByteArray) : ByteArray := ⟨(Lib.join (xs.map (·.data.toList)) sep.data.toList).toArray⟩
theorem strs_open {w : World} {v : Value} {l : List ByteArray} (h : RepS w v l) :
    ∃ a cap, v = .slice a l.length cap ∧ l.length ≤ 9223372036854775807 ∧ l.length ≤ cap ∧
      (l ≠ [] → ∃ b off, a = some ⟨b, off, none⟩ ∧ ∀ (i : Nat) x, l[i]? = some x → w.cell? ⟨b, off + i, none⟩ = some (.string x)) := by
  obtain ⟨a, cap, hv, hl, h⟩ := h
  refine ⟨a, cap, hv, hl.1, hl.2, fun hne => ?_⟩
  obtain ⟨b, off, ha, hr⟩ := h hne
  refine ⟨b, off, ha, fun i x hx => ?_⟩
  obtain ⟨r, ⟨hrep, hi⟩, hc⟩ := hr i x hx
  have := hc 0 (.string x) (by rw [hrep]; rfl)
  simpa [Rep.size] using this
end Go.Mux
namespace Go.Proofs.YtjglknaojfnllaaDoor
open Go.RowKit Go.Mux Go.Shelf
shelf_lay Lays.n156 Nm 156 at Tryd as Tryd.laysJoin
theorem extraJoin : Builder.Extra Tryd.prog Tryd.laysJoin_ren where
  sizeBuilder := by kernel_rfl
  liesBuilder := by kernel_rfl
  t5 := Tryd.underlying5
  a5 := Tryd.isAgg5
  z5 := Tryd.sizeOf5
  v5 := Tryd.zeroValue5
  infoByte := by kernel_rfl
  cellsByte := by kernel_rfl
  sizeByte := by kernel_rfl
  neB5 := by decide
theorem strings_join (w : World) (v : Value) (xs : List ByteArray) (sep : ByteArray) (h : RepS w v xs) (hn : xs.length ≤ 140737488355328) (hlen : (joinT xs sep).size ≤ 140737488355328) :
    Calls Tryd.prog 47 #[v, .string sep] w (Gives w fun r _ => r = .string (joinT xs sep)) := by
  obtain ⟨a, cap, rfl, hl, hcap, hc⟩ := strs_open h
  unfold joinT at hlen ⊢
  by_cases hx : xs = []
  · subst hx
    refine (Any.strings_Join_none Tryd.laysJoin extraJoin a cap sep w).mono ?_
    rintro e w' ⟨rfl, rfl⟩
    exact ⟨_, rfl, rfl, Below.refl _ _⟩
  · obtain ⟨b, off, rfl, hcell⟩ := hc hx
    obtain ⟨x, hx0⟩ : ∃ x, xs[0]? = some x := ⟨xs[0]'(List.length_pos_iff.2 hx), by simp⟩
    refine (Any.strings_Join Tryd.laysJoin extraJoin b off cap xs sep w hcell (World.block_lt_of_cell? w _ (hcell 0 x hx0)) hn hcap (by simpa [ByteArray.size] using hlen)).mono ?_
    rintro e w' ⟨rfl, hb⟩
    exact ⟨_, rfl, rfl, hb⟩
shelf_lay Lays.n144 Nm 144 at Tryd as Tryd.laysContains
theorem strings_contains (w : World) (s : ByteArray) (c : UInt8) : Calls Tryd.prog 64 #[.string s, .string ⟨#[c]⟩] w (Pure w (.bool (hasByte s c))) := by
  refine (Any.strings_Contains_one Tryd.laysContains s c w).mono ?_
  rintro e w' ⟨rfl, rfl⟩
  exact ⟨by rw [hasByte_index], rfl⟩
theorem impl_isNum (w : World) (n : Int) : Calls Tryd.prog 61 #[.int .i64 n] w (Pure w (.bool (isNumB n))) := by
  go_enter Tryd.func61, Tryd.ntmps61
  go_wp2_with (go_at_call 76; refine (impl_within _ _ _ _).mono ?_; rintro e w' ⟨rfl, rfl⟩)
  go_ret
  exact pure_ret (by unfold isNumB; rfl)
set_option maxHeartbeats 400000 in
theorem spec_l23Line (w : World) (s : ByteArray) (hs : s.size ≤ 1048576) : Calls Tryd.prog 40 #[.string s] w (Pure w (.bool (!(decide (s.toList = [])) && !(hasByte s 10)))) := by
  go_enter Tryd.func40, Tryd.ntmps40
  go_wp2
  go_loopw [3] (fun i wr => ∃ k : Nat, k ≤ s.size ∧ i = .int .i64 (k : Int) ∧ (∀ j, j < k → s.data.toList[j]? ≠ some 10) ∧ wr = w) (fun i _ => s.size - (intOf i).toNat)
  case atStart => exact ⟨0, Nat.zero_le _, rfl, fun j hj => absurd hj (Nat.not_lt_zero _), rfl⟩
  case round =>
    obtain ⟨k, hk, rfl, hn, rfl⟩ := hrel
    have HN := Lib.hid hn
    clear hn
    by_cases hlt : k < s.size
    · have d1 : decide ((k : Int) < (s.size : Int)) = true := decide_eq_true (by omega)
      have k0 : (0 : Int) ≤ (k : Int) := by omega
      have k1 : (k : Int) < (s.size : Int) := by omega
      have hat : s.data.toList[k]? = some s[k] := by simp [ByteArray.getElem_eq_getElem_data, show k < s.data.size from hlt]
      have HAT := Lib.hid hat
      clear hat
      by_cases hc : s[k] = 10
      · have d3 : ((s[k].toNat : Int) == 10) = true := by rw [hc]; rfl
        have hne : ¬ s.toList = [] := fun e => by
          have h := ByteArray.toList_eq s
          rw [e] at h
          have := congrArg List.length h
          simp at this
          have h2 : s.data.size = s.size := rfl
          omega
        have HF := Lib.hid (show hasByte s 10 = true by unfold hasByte; exact decide_eq_true (List.mem_of_getElem? (by rw [HAT.out, hc])))
        clear hc
        go_wp2
        go_ret
        exact pure_ret (by rw [HF.out]; simp)
      · have d3 : ((s[k].toNat : Int) == 10) = false := by
          simp
          intro e
          exact hc (UInt8.toNat_inj.1 (by show _ = 10; omega))
        have HC := Lib.hid hc
        clear hc
        go_wp2
        go_roundw
        case rel => exact ⟨k + 1, by omega, by go_num, fun j hj => (by
          by_cases h : j = k
          · subst h; rw [HAT.out]; intro e; exact HC.out (Option.some.inj e)
          · exact HN.out j (by omega)), (by first | rfl | trivial)⟩
        case measure => simp [intOf]; omega
    · have d1 : decide ((k : Int) < (s.size : Int)) = false := decide_eq_false (by omega)
      have HF := Lib.hid (show hasByte s 10 = false by
        unfold hasByte
        refine decide_eq_false fun hm => ?_
        obtain ⟨i, hi, e⟩ := List.mem_iff_getElem.1 hm
        have h2 : s.data.toList.length = s.size := Array.length_toList
        exact HN.out i (by omega) (by rw [List.getElem?_eq_getElem hi, e]))
      go_wp2
      go_ret
      exact pure_ret (by rw [HF.out]; by_cases h : s.toList = [] <;> simp [h])
end Go.Proofs.YtjglknaojfnllaaDoor
