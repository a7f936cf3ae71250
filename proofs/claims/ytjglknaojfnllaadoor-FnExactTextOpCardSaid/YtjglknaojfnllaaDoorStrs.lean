/- The library's Join and Contains at this program, and lists of strings in memory. -/
import Derived.Test.YtjglknaojfnllaaDoorFnNum
import Derived.Test.YtjglknaojfnllaaDoorInts
import Derived.Shelf.Strings.OnBuilder
import Derived.Shelf.Strings.Search3
import Derived.Lib.IndexLaws
set_option linter.unusedSimpArgs false
set_option linter.unusedVariables false
namespace Go.Mux
open Go.RowKit
/-- A text holds a byte. -/
@[irreducible] def hasByte (s : ByteArray) (c : UInt8) : Bool := decide (c ∈ s.data.toList)
theorem hasByte_index (s : ByteArray) (c : UInt8) : decide (0 ≤ Lib.indexByte s.data.toList c) = hasByte s c := by
  unfold hasByte
  have hge := Lib.indexByte_ge s.data.toList c
  by_cases h : 0 ≤ Lib.indexByte s.data.toList c
  · obtain ⟨o, ho⟩ : ∃ o : Nat, Lib.indexByte s.data.toList c = o := ⟨(Lib.indexByte s.data.toList c).toNat, by omega⟩
    have := (Lib.indexByte_some ho).1
    rw [decide_eq_true h, decide_eq_true (List.mem_of_getElem? this)]
  · rw [decide_eq_false h]
    refine (decide_eq_false fun hm => ?_).symm
    obtain ⟨i, hi, e⟩ := List.mem_iff_getElem.1 hm
    exact Lib.indexByte_none (l := s.data.toList) (c := c) (by omega) i (by rw [List.getElem?_eq_getElem hi, e])
@[irreducible] def joinT (xs : List ByteArray) (sep : ByteArray) : ByteArray := ⟨(Lib.join (xs.map (·.data.toList)) sep.data.toList).toArray⟩
theorem strs_open {w : World} {v : Value} {l : List ByteArray} (h : RepS w v l) :
    ∃ a cap, v = .slice a l.length cap ∧ l.length ≤ 9223372036854775807 ∧ l.length ≤ cap ∧
      (l ≠ [] → ∃ b off, a = some ⟨b, off, none⟩ ∧ ∀ (i : Nat) x, l[i]? = some x → w.cell? ⟨b, off + i, none⟩ = some (.string x)) := by
  obtain ⟨a, cap, hv, hl, h⟩ := h
  refine ⟨a, cap, hv, hl.1, hl.2, fun hne => ?_⟩
  obtain ⟨b, off, ha, hr⟩ := h hne
  refine ⟨b, off, ha, fun i x hx => ?_⟩
  obtain ⟨r, ⟨hrep, hi⟩, hc⟩ := hr i x hx
  have := hc 0 (.string x) (by rw [hrep]; rfl)
  simpa [Rep.size] using this
end Go.Mux
namespace Go.Proofs.YtjglknaojfnllaaDoor
open Go.RowKit Go.Mux Go.Shelf
def Tryd.laysJoin_ren : Go.Shelf.Ren := ⟨fun | 156 => 47 | 165 => 66 | 166 => 67 | 169 => 68 | 240 => 85 | 241 => 86 | 276 => 97 | 277 => 98 | n => n, fun | 31 => 37 | 9 => 9 | 3 => 3 | 4 => 4 | 0 => 0 | 20 => 20 | 72 => 81 | 76 => 85 | 70 => 79 | 37 => 22 | 75 => 84 | 127 => 95 | 164 => 101 | 5 => 5 | 80 => 87 | n => n, fun | n => n⟩
theorem Tryd.laysJoin : Go.Proofs.Lays.n156 Tryd.prog Tryd.laysJoin_ren := {
  mixed := by kernel_rfl
  f156 := Tryd.func47.trans (congrArg some (by kernel_rfl))
  f165 := Tryd.func66.trans (congrArg some (by kernel_rfl))
  f166 := Tryd.func67.trans (congrArg some (by kernel_rfl))
  f169 := Tryd.func68.trans (congrArg some (by kernel_rfl))
  f240 := Tryd.func85.trans (congrArg some (by kernel_rfl))
  f241 := Tryd.func86.trans (congrArg some (by kernel_rfl))
  f276 := Tryd.func97.trans (congrArg some (by kernel_rfl))
  f277 := Tryd.func98.trans (congrArg some (by kernel_rfl))
  t0 := Tryd.underlying0
  a0 := Tryd.isAgg0
  z0 := Tryd.sizeOf0
  v0 := Tryd.zeroValue0
  t3 := Tryd.underlying3
  a3 := Tryd.isAgg3
  z3 := Tryd.sizeOf3
  v3 := Tryd.zeroValue3
  t4 := Tryd.underlying4
  a4 := Tryd.isAgg4
  z4 := Tryd.sizeOf4
  v4 := Tryd.zeroValue4
  t9 := Tryd.underlying9
  a9 := Tryd.isAgg9
  z9 := Tryd.sizeOf9
  v9 := Tryd.zeroValue9
  t20 := Tryd.underlying20
  a20 := Tryd.isAgg20
  z20 := Tryd.sizeOf20
  v20 := Tryd.zeroValue20
  t31 := Tryd.underlying37
  a31 := Tryd.isAgg37
  z31 := Tryd.sizeOf37
  v31 := Tryd.zeroValue37
  t37 := Tryd.underlying22
  a37 := Tryd.isAgg22
  z37 := Tryd.sizeOf22
  v37 := Tryd.zeroValue22
  t70 := Tryd.underlying79
  a70 := Tryd.isAgg79
  z70 := Tryd.sizeOf79
  v70 := Tryd.zeroValue79
  t72 := Tryd.underlying81
  a72 := Tryd.isAgg81
  z72 := Tryd.sizeOf81
  v72 := Tryd.zeroValue81
  t75 := Tryd.underlying84
  a75 := Tryd.isAgg84
  z75 := Tryd.sizeOf84
  v75 := Tryd.zeroValue84
  t76 := Tryd.underlying85
  a76 := Tryd.isAgg85
  z76 := Tryd.sizeOf85
  v76 := Tryd.zeroValue85
  t127 := Tryd.underlying95
  a127 := Tryd.isAgg95
  z127 := Tryd.sizeOf95
  v127 := Tryd.zeroValue95
  t164 := Tryd.underlying101
  a164 := Tryd.isAgg101
  z164 := Tryd.sizeOf101
  v164 := Tryd.zeroValue101 }
theorem extraJoin : Builder.Extra Tryd.prog Tryd.laysJoin_ren where
  sizeBuilder := by kernel_rfl
  liesBuilder := by kernel_rfl
  t5 := Tryd.underlying5
  a5 := Tryd.isAgg5
  z5 := Tryd.sizeOf5
  v5 := Tryd.zeroValue5
  infoByte := by kernel_rfl
  cellsByte := by kernel_rfl
  sizeByte := by kernel_rfl
  neB5 := by decide
theorem strings_join (w : World) (v : Value) (xs : List ByteArray) (sep : ByteArray) (h : RepS w v xs) (hn : xs.length ≤ 140737488355328) (hlen : (joinT xs sep).size ≤ 140737488355328) :
    Calls Tryd.prog 47 #[v, .string sep] w (Gives w fun r _ => r = .string (joinT xs sep)) := by
  obtain ⟨a, cap, rfl, hl, hcap, hc⟩ := strs_open h
  unfold joinT at hlen ⊢
  by_cases hx : xs = []
  · subst hx
    refine (Any.strings_Join_none Tryd.laysJoin extraJoin a cap sep w).mono ?_
    rintro e w' ⟨rfl, rfl⟩
    exact ⟨_, rfl, rfl, Below.refl _ _⟩
  · obtain ⟨b, off, rfl, hcell⟩ := hc hx
    obtain ⟨x, hx0⟩ : ∃ x, xs[0]? = some x := ⟨xs[0]'(List.length_pos_iff.2 hx), by simp⟩
    refine (Any.strings_Join Tryd.laysJoin extraJoin b off cap xs sep w hcell (World.block_lt_of_cell? w _ (hcell 0 x hx0)) hn hcap (by simpa [ByteArray.size] using hlen)).mono ?_
    rintro e w' ⟨rfl, hb⟩
    exact ⟨_, rfl, rfl, hb⟩
def Tryd.laysContains_ren : Go.Shelf.Ren := ⟨fun | 144 => 64 | 143 => 83 | 219 => 79 | 217 => 81 | 225 => 90 | 224 => 91 | 267 => 92 | 266 => 95 | 314 => 102 | n => n, fun | 9 => 9 | 4 => 4 | 3 => 3 | 5 => 5 | 46 => 76 | 146 => 107 | 51 => 106 | n => n, fun | 1 => 0 | n => n⟩
theorem Tryd.laysContains : Go.Proofs.Lays.n144 Tryd.prog Tryd.laysContains_ren := {
  mixed := by kernel_rfl
  f143 := Tryd.func83.trans (congrArg some (by kernel_rfl))
  f144 := Tryd.func64.trans (congrArg some (by kernel_rfl))
  f217 := Tryd.func81.trans (congrArg some (by kernel_rfl))
  f219 := Tryd.func79.trans (congrArg some (by kernel_rfl))
  f224 := Tryd.func91.trans (congrArg some (by kernel_rfl))
  f225 := Tryd.func90.trans (congrArg some (by kernel_rfl))
  f266 := Tryd.func95.trans (congrArg some (by kernel_rfl))
  f267 := Tryd.func92.trans (congrArg some (by kernel_rfl))
  f314 := Tryd.func102.trans (congrArg some (by kernel_rfl))
  t3 := Tryd.underlying3
  a3 := Tryd.isAgg3
  z3 := Tryd.sizeOf3
  v3 := Tryd.zeroValue3
  t4 := Tryd.underlying4
  a4 := Tryd.isAgg4
  z4 := Tryd.sizeOf4
  v4 := Tryd.zeroValue4
  t5 := Tryd.underlying5
  a5 := Tryd.isAgg5
  z5 := Tryd.sizeOf5
  v5 := Tryd.zeroValue5
  t9 := Tryd.underlying9
  a9 := Tryd.isAgg9
  z9 := Tryd.sizeOf9
  v9 := Tryd.zeroValue9
  t46 := Tryd.underlying76
  a46 := Tryd.isAgg76
  z46 := Tryd.sizeOf76
  v46 := Tryd.zeroValue76
  t51 := Tryd.underlying106
  a51 := Tryd.isAgg106
  z51 := Tryd.sizeOf106
  v51 := Tryd.zeroValue106
  t146 := Tryd.underlying107
  a146 := Tryd.isAgg107
  z146 := Tryd.sizeOf107
  v146 := Tryd.zeroValue107
  g1 := by kernel_rfl }
theorem strings_contains (w : World) (s : ByteArray) (c : UInt8) : Calls Tryd.prog 64 #[.string s, .string ⟨#[c]⟩] w (Pure w (.bool (hasByte s c))) := by
  refine (Any.strings_Contains_one Tryd.laysContains s c w).mono ?_
  rintro e w' ⟨rfl, rfl⟩
  exact ⟨by rw [hasByte_index], rfl⟩
theorem impl_isNum (w : World) (n : Int) : Calls Tryd.prog 61 #[.int .i64 n] w (Pure w (.bool (isNumB n))) := by
  go_enter Tryd.func61, Tryd.ntmps61
  go_wp2_with (go_at_call 76; refine (impl_within _ _ _ _).mono ?_; rintro e w' ⟨rfl, rfl⟩)
  go_ret
  exact pure_ret (by unfold isNumB; rfl)
set_option maxHeartbeats 400000 in
theorem spec_l23Line (w : World) (s : ByteArray) (hs : s.size ≤ 1048576) : Calls Tryd.prog 40 #[.string s] w (Pure w (.bool (!(decide (s.toList = [])) && !(hasByte s 10)))) := by
  go_enter Tryd.func40, Tryd.ntmps40
  go_wp2
  go_loopw [3] (fun i wr => ∃ k : Nat, k ≤ s.size ∧ i = .int .i64 (k : Int) ∧ (∀ j, j < k → s.data.toList[j]? ≠ some 10) ∧ wr = w) (fun i _ => s.size - (intOf i).toNat)
  case atStart => exact ⟨0, Nat.zero_le _, rfl, fun j hj => absurd hj (Nat.not_lt_zero _), rfl⟩
  case round =>
    obtain ⟨k, hk, rfl, hn, rfl⟩ := hrel
    have HN := Lib.hid hn
    clear hn
    by_cases hlt : k < s.size
    · have d1 : decide ((k : Int) < (s.size : Int)) = true := decide_eq_true (by omega)
      have k0 : (0 : Int) ≤ (k : Int) := by omega
      have k1 : (k : Int) < (s.size : Int) := by omega
      have hat : s.data.toList[k]? = some s[k] := by simp [ByteArray.getElem_eq_getElem_data, show k < s.data.size from hlt]
      have HAT := Lib.hid hat
      clear hat
      by_cases hc : s[k] = 10
      · have d3 : ((s[k].toNat : Int) == 10) = true := by rw [hc]; rfl
        have hne : ¬ s.toList = [] := fun e => by
          have h := ByteArray.toList_eq s
          rw [e] at h
          have := congrArg List.length h
          simp at this
          have h2 : s.data.size = s.size := rfl
          omega
        have HF := Lib.hid (show hasByte s 10 = true by unfold hasByte; exact decide_eq_true (List.mem_of_getElem? (by rw [HAT.out, hc])))
        clear hc
        go_wp2
        go_ret
        exact pure_ret (by rw [HF.out]; simp)
      · have d3 : ((s[k].toNat : Int) == 10) = false := by
          simp
          intro e
          exact hc (UInt8.toNat_inj.1 (by show _ = 10; omega))
        have HC := Lib.hid hc
        clear hc
        go_wp2
        go_roundw
        case rel => exact ⟨k + 1, by omega, by go_num, fun j hj => (by
          by_cases h : j = k
          · subst h; rw [HAT.out]; intro e; exact HC.out (Option.some.inj e)
          · exact HN.out j (by omega)), (by first | rfl | trivial)⟩
        case measure => simp [intOf]; omega
    · have d1 : decide ((k : Int) < (s.size : Int)) = false := decide_eq_false (by omega)
      have HF := Lib.hid (show hasByte s 10 = false by
        unfold hasByte
        refine decide_eq_false fun hm => ?_
        obtain ⟨i, hi, e⟩ := List.mem_iff_getElem.1 hm
        have h2 : s.data.toList.length = s.size := Array.length_toList
        exact HN.out i (by omega) (by rw [List.getElem?_eq_getElem hi, e]))
      go_wp2
      go_ret
      exact pure_ret (by rw [HF.out]; by_cases h : s.toList = [] <;> simp [h])
end Go.Proofs.YtjglknaojfnllaaDoor
