/- A line cut at its blanks by the library: Parts, Cut. -/
import Derived.Test.YtjglknaojfnllaaDoorFnTextNum
import Derived.Test.YtjglknaojfnllaaDoorFnParts
import Derived.Test.YtjglknaojfnllaaDoorTxtW
namespace Go.Mux
open Go.RowKit
theorem index_no (c : UInt8) (l : List UInt8) (h : c ∉ l) : Lib.index l [c] = -1 := by
  induction l with
  | nil => simp [Lib.index]
  | cons b l ih =>
    simp only [List.mem_cons, not_or] at h
    have hp : ([c] : List UInt8).isPrefixOf (b :: l) = false := by simp [List.isPrefixOf, h.1]
    rw [Lib.index, hp, ih h.2]
    rfl
theorem index_at (c : UInt8) (a b : List UInt8) (h : c ∉ a) : Lib.index (a ++ c :: b) [c] = (a.length : Int) := by
  induction a with
  | nil =>
    have hp : ([c] : List UInt8).isPrefixOf (c :: b) = true := by simp [List.isPrefixOf]
    rw [List.nil_append, Lib.index, hp]
    rfl
  | cons x a ih =>
    simp only [List.mem_cons, not_or] at h
    have hp : ([c] : List UInt8).isPrefixOf (x :: (a ++ c :: b)) = false := by simp [List.isPrefixOf, h.1]
    rw [List.cons_append, Lib.index, hp, ih h.2]
    have : ((a.length : Int) == -1) = false := by rw [beq_eq_false_iff_ne]; omega
    rw [this]
    simp
theorem splitK_parts : ∀ (n : Nat) (l : List UInt8), l.length ≤ n → Lib.splitK [32] 0 (l.count 32) l = partsL [] l
  | n, l, hn => by
    rcases line_cases l with h | ⟨a, b, e, h⟩
    · rw [partsL_plain _ _ h, List.count_eq_zero.2 h]
      rfl
    · have hlen : a.length + 1 + b.length ≤ n := by rw [e] at hn; simp at hn; omega
      match n, hlen with
      | 0, hlen => omega
      | n + 1, hlen =>
        have hc : l.count 32 = b.count 32 + 1 := by rw [e, List.count_append, List.count_eq_zero.2 h, List.count_cons_self]; omega
        rw [hc, Lib.splitK, e, index_at 32 a b h]
        have : ((a.length : Int) == -1) = false := by rw [beq_eq_false_iff_ne]; omega
        rw [this]
        simp only [Bool.false_eq_true, if_false, Int.toNat_natCast, Nat.add_zero, List.length_singleton]
        have e1 : (a ++ 32 :: b).take a.length = a := List.take_left
        have e2 : (a ++ 32 :: b).drop (a.length + 1) = b := by
          rw [show a ++ 32 :: b = (a ++ [32]) ++ b from by simp]
          exact List.drop_left' (by simp)
        rw [e1, e2, splitK_parts n b (by omega), partsL_cut _ _ _ h]
        rfl
theorem map_data_inj : ∀ (a b : List ByteArray), a.map (·.data.toList) = b.map (·.data.toList) → a = b
  | [], b, h => by cases b with | nil => rfl | cons _ _ => simp at h
  | x :: a, b, h => by
    cases b with
    | nil => simp at h
    | cons y b =>
      simp only [List.map_cons, List.cons.injEq] at h
      rw [map_data_inj a b h.2]
      congr 1
      exact ByteArray.ext (Array.ext' h.1)
theorem splitB_parts (s : ByteArray) : Lib.splitB ⟨#[32]⟩ 0 (Lib.countB s ⟨#[32]⟩) s = partsOf s := by
  refine map_data_inj _ _ ?_
  have hc : Lib.countB s ⟨#[32]⟩ = s.data.toList.count 32 := Lib.count_one 32 s.data.toList
  rw [Lib.splitB_data, hc]
  have h1 : (partsOf s).map (·.data.toList) = partsL [] s.data.toList := by unfold partsOf; rw [List.map_map]; simp [Function.comp_def]
  rw [h1]
  exact splitK_parts _ _ (Nat.le_refl _)
theorem partsL_size (l : List UInt8) : ∀ cur, ∀ p ∈ partsL cur l, p.length ≤ cur.length + l.length := by
  induction l with
  | nil => intro cur p hp; simp only [partsL, List.mem_singleton] at hp; rw [hp]; omega
  | cons b l ih =>
    intro cur p hp
    unfold partsL at hp
    split at hp
    · rcases List.mem_cons.1 hp with rfl | hp
      · omega
      · have := ih [] p hp; simp at this ⊢; omega
    · have := ih _ p hp; simp at this ⊢; omega
theorem parts_size {s p : ByteArray} (h : p ∈ partsOf s) : p.size ≤ s.size := by
  unfold partsOf at h
  obtain ⟨l, hl, rfl⟩ := List.mem_map.1 h
  have := partsL_size s.data.toList [] l hl
  have h2 : s.data.toList.length = s.size := Array.length_toList
  have h3 : (ByteArray.mk l.toArray).size = l.length := rfl
  simp at this
  omega
theorem countB_parts (s : ByteArray) : Lib.countB s ⟨#[32]⟩ + 1 = (partsOf s).length := by
  have hc : Lib.countB s ⟨#[32]⟩ = s.data.toList.count 32 := Lib.count_one 32 s.data.toList
  rw [hc, partsOf_len]
  omega
/-- The first word, and what stands behind it. -/
theorem cut_parts (s : ByteArray) : (⟨(Lib.cut s.data.toList [32]).1.toArray⟩ : ByteArray) = wordAt (partsOf s) 0 ∧ (⟨(Lib.cut s.data.toList [32]).2.1.toArray⟩ : ByteArray) = restOf s 1 := by
  rcases line_cases s.data.toList with h | ⟨a, b, e, h⟩
  · have e1 : Lib.cut s.data.toList [32] = (s.data.toList, [], false) := by
      unfold Lib.cut
      rw [index_no 32 _ h, if_neg (by decide)]
    rw [e1]
    refine ⟨?_, ?_⟩
    · unfold wordAt partsOf
      rw [partsL_plain _ _ h]
      rfl
    · unfold restOf
      rw [restL_plain _ _ h]
  · have e1 : Lib.cut s.data.toList [32] = (a, b, true) := by
      unfold Lib.cut
      rw [e, index_at 32 a b h, if_pos (by omega)]
      have e2 : (a ++ 32 :: b).drop (a.length + 1) = b := by
        rw [show a ++ 32 :: b = (a ++ [32]) ++ b from by simp]
        exact List.drop_left' (by simp)
      simp only [Int.toNat_natCast, List.length_singleton]
      rw [List.take_left, e2]
    rw [e1]
    refine ⟨?_, ?_⟩
    · unfold wordAt partsOf
      rw [e, partsL_cut _ _ _ h]
      rfl
    · unfold restOf
      rw [e, restL_cut _ _ h]
end Go.Mux
namespace Go.Proofs.YtjglknaojfnllaaDoor
open Go.RowKit Go.Mux Go.Shelf
def Tryd.laysSplit_ren : Go.Shelf.Ren := ⟨fun | 146 => 54 | 221 => 72 | 268 => 87 | 138 => 88 | 143 => 83 | 195 => 99 | 197 => 100 | 218 => 101 | 219 => 79 | 260 => 112 | 217 => 81 | 225 => 90 | 224 => 91 | 267 => 92 | 266 => 95 | 314 => 102 | n => n, fun | 9 => 9 | 31 => 37 | 3 => 3 | 4 => 4 | 0 => 0 | 105 => 104 | 21 => 21 | 5 => 5 | 46 => 76 | 119 => 130 | 139 => 133 | 138 => 132 | 146 => 107 | 51 => 106 | n => n, fun | 1 => 0 | 3 => 4 | 4 => 5 | n => n⟩
theorem Tryd.laysSplit : Go.Proofs.Lays.n146 Tryd.prog Tryd.laysSplit_ren := {
  mixed := by kernel_rfl
  f138 := Tryd.func88.trans (congrArg some (by kernel_rfl))
  f143 := Tryd.func83.trans (congrArg some (by kernel_rfl))
  f146 := Tryd.func54.trans (congrArg some (by kernel_rfl))
  f195 := Tryd.func99.trans (congrArg some (by kernel_rfl))
  f197 := Tryd.func100.trans (congrArg some (by kernel_rfl))
  f217 := Tryd.func81.trans (congrArg some (by kernel_rfl))
  f218 := Tryd.func101.trans (congrArg some (by kernel_rfl))
  f219 := Tryd.func79.trans (congrArg some (by kernel_rfl))
  f221 := Tryd.func72.trans (congrArg some (by kernel_rfl))
  f224 := Tryd.func91.trans (congrArg some (by kernel_rfl))
  f225 := Tryd.func90.trans (congrArg some (by kernel_rfl))
  f260 := Tryd.func112.trans (congrArg some (by kernel_rfl))
  f266 := Tryd.func95.trans (congrArg some (by kernel_rfl))
  f267 := Tryd.func92.trans (congrArg some (by kernel_rfl))
  f268 := Tryd.func87.trans (congrArg some (by kernel_rfl))
  f314 := Tryd.func102.trans (congrArg some (by kernel_rfl))
  t0 := Tryd.underlying0
  a0 := Tryd.isAgg0
  z0 := Tryd.sizeOf0
  v0 := Tryd.zeroValue0
  t3 := Tryd.underlying3
  a3 := Tryd.isAgg3
  z3 := Tryd.sizeOf3
  v3 := Tryd.zeroValue3
  t4 := Tryd.underlying4
  a4 := Tryd.isAgg4
  z4 := Tryd.sizeOf4
  v4 := Tryd.zeroValue4
  t5 := Tryd.underlying5
  a5 := Tryd.isAgg5
  z5 := Tryd.sizeOf5
  v5 := Tryd.zeroValue5
  t9 := Tryd.underlying9
  a9 := Tryd.isAgg9
  z9 := Tryd.sizeOf9
  v9 := Tryd.zeroValue9
  t21 := Tryd.underlying21
  a21 := Tryd.isAgg21
  z21 := Tryd.sizeOf21
  v21 := Tryd.zeroValue21
  t31 := Tryd.underlying37
  a31 := Tryd.isAgg37
  z31 := Tryd.sizeOf37
  v31 := Tryd.zeroValue37
  t46 := Tryd.underlying76
  a46 := Tryd.isAgg76
  z46 := Tryd.sizeOf76
  v46 := Tryd.zeroValue76
  t51 := Tryd.underlying106
  a51 := Tryd.isAgg106
  z51 := Tryd.sizeOf106
  v51 := Tryd.zeroValue106
  t105 := Tryd.underlying104
  a105 := Tryd.isAgg104
  z105 := Tryd.sizeOf104
  v105 := Tryd.zeroValue104
  t119 := Tryd.underlying130
  a119 := Tryd.isAgg130
  z119 := Tryd.sizeOf130
  t138 := Tryd.underlying132
  a138 := Tryd.isAgg132
  z138 := Tryd.sizeOf132
  v138 := Tryd.zeroValue132
  t139 := Tryd.underlying133
  a139 := Tryd.isAgg133
  z139 := Tryd.sizeOf133
  v139 := Tryd.zeroValue133
  t146 := Tryd.underlying107
  a146 := Tryd.isAgg107
  z146 := Tryd.sizeOf107
  v146 := Tryd.zeroValue107
  g1 := by kernel_rfl
  g3 := by kernel_rfl
  g4 := by kernel_rfl }
theorem info_string : (Tryd.prog.info? 9).map (fun i => (i.zero, i.size, i.bytes)) = some (some (.string ByteArray.empty), 1, 16) := by kernel_rfl
theorem strings_split (w : World) (s : ByteArray) (hs : s.size ≤ 1048576) (he : ENV w) : Calls Tryd.prog 54 #[.string s, .string ⟨#[32]⟩] w (Gives w fun r w' => FreshS w.heap.size w' r (partsOf s)) := by
  obtain ⟨m, hm⟩ := he.max
  refine (Any.strings_Split Tryd.laysSplit info_string s ⟨#[32]⟩ m w (by omega) hm (by decide)).mono ?_
  rintro e w' ⟨rfl, rfl⟩
  rw [splitB_parts, countB_parts]
  have hlen := partsOf_len s
  have hcl : s.data.toList.count 32 ≤ s.data.toList.length := List.count_le_length
  have hdl : s.data.toList.length = s.size := Array.length_toList
  refine ⟨_, rfl, freshS_lit (α := ByteArray) rfl w (partsOf s) ((partsOf s).map Value.string) _ rfl (by simp) (by omega) (fun i x u hx hu w => ?_), bel_alloc (Below.refl _ _) _⟩
  rw [List.getElem?_map, hx] at hu
  cases hu
  exact ⟨rfl, by have := parts_size (List.mem_of_getElem? hx); omega⟩
def Tryd.laysCut_ren : Go.Shelf.Ren := ⟨fun | 145 => 42 | 220 => 58 | 219 => 79 | 217 => 81 | 225 => 90 | 224 => 91 | 267 => 92 | 266 => 95 | 314 => 102 | n => n, fun | 9 => 9 | 4 => 4 | 59 => 59 | 3 => 3 | 5 => 5 | 46 => 76 | 146 => 107 | 51 => 106 | n => n, fun | 1 => 0 | n => n⟩
theorem Tryd.laysCut : Go.Proofs.Lays.n145 Tryd.prog Tryd.laysCut_ren := {
  mixed := by kernel_rfl
  f145 := Tryd.func42.trans (congrArg some (by kernel_rfl))
  f217 := Tryd.func81.trans (congrArg some (by kernel_rfl))
  f219 := Tryd.func79.trans (congrArg some (by kernel_rfl))
  f220 := Tryd.func58.trans (congrArg some (by kernel_rfl))
  f224 := Tryd.func91.trans (congrArg some (by kernel_rfl))
  f225 := Tryd.func90.trans (congrArg some (by kernel_rfl))
  f266 := Tryd.func95.trans (congrArg some (by kernel_rfl))
  f267 := Tryd.func92.trans (congrArg some (by kernel_rfl))
  f314 := Tryd.func102.trans (congrArg some (by kernel_rfl))
  t3 := Tryd.underlying3
  a3 := Tryd.isAgg3
  z3 := Tryd.sizeOf3
  v3 := Tryd.zeroValue3
  t4 := Tryd.underlying4
  a4 := Tryd.isAgg4
  z4 := Tryd.sizeOf4
  v4 := Tryd.zeroValue4
  t5 := Tryd.underlying5
  a5 := Tryd.isAgg5
  z5 := Tryd.sizeOf5
  v5 := Tryd.zeroValue5
  t9 := Tryd.underlying9
  a9 := Tryd.isAgg9
  z9 := Tryd.sizeOf9
  v9 := Tryd.zeroValue9
  t46 := Tryd.underlying76
  a46 := Tryd.isAgg76
  z46 := Tryd.sizeOf76
  v46 := Tryd.zeroValue76
  t51 := Tryd.underlying106
  a51 := Tryd.isAgg106
  z51 := Tryd.sizeOf106
  v51 := Tryd.zeroValue106
  t59 := Tryd.underlying59
  a59 := Tryd.isAgg59
  z59 := Tryd.sizeOf59
  v59 := Tryd.zeroValue59
  t146 := Tryd.underlying107
  a146 := Tryd.isAgg107
  z146 := Tryd.sizeOf107
  v146 := Tryd.zeroValue107
  g1 := by kernel_rfl }
theorem strings_cut (w : World) (s : ByteArray) (hs : s.size ≤ 1048576) (he : ENV w) : Calls Tryd.prog 42 #[.string s, .string ⟨#[32]⟩] w (Gives w fun r _ => ∃ b, r = .tuple #[.string (wordAt (partsOf s) 0), .string (restOf s 1), .bool b]) := by
  obtain ⟨m, hm⟩ := he.max
  refine (Any.strings_Cut Tryd.laysCut s ⟨#[32]⟩ m w (by omega) hm).mono ?_
  rintro e w' ⟨rfl, n, rfl⟩
  obtain ⟨e1, e2⟩ := cut_parts s
  exact ⟨_, rfl, ⟨_, by rw [← e1, ← e2]⟩, below_drewN (Below.refl w.heap.size w) n⟩
theorem impl_Parts (w : World) (s : ByteArray) (hs : s.size ≤ 1048576) (he : ENV w) : Calls Tryd.prog 32 #[.string s] w (Gives w fun r w' => FreshS w.heap.size w' r (partsOf s)) := by
  go_enter Tryd.func32, Tryd.ntmps32
  go_wp2_with fail
  refine (strings_split w s hs he).mono ?_
  rintro e W1 ⟨_, rfl, hF, hb⟩
  have HF := Lib.hid hF
  have HB := Lib.hid hb
  clear hF hb
  go_wp2_with fail
  go_ret
  exact ⟨_, rfl, HF.out, HB.out⟩
end Go.Proofs.YtjglknaojfnllaaDoor
