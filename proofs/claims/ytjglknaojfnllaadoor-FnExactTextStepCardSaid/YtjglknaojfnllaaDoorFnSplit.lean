/- A line cut at its blanks by the library: Parts, Cut. -/
import Derived.Test.YtjglknaojfnllaaDoorFnUnhexI
set_option linter.unusedSimpArgs false
set_option linter.unusedVariables false
namespace Go.Mux
open Go.RowKit
theorem index_no (c : UInt8) (l : List UInt8) (h : c ∉ l) : Lib.index l [c] = -1 := by
  induction l with
  | nil => simp [Lib.index]
  | cons b l ih =>
    simp only [List.mem_cons, not_or] at h
    have hp : ([c] : List UInt8).isPrefixOf (b :: l) = false := by simp [List.isPrefixOf, h.1]
    rw [Lib.index, hp, ih h.2]
    rfl
theorem index_at (c : UInt8) (a b : List UInt8) (h : c ∉ a) : Lib.index (a ++ c :: b) [c] = (a.length : Int) := by
  induction a with
  | nil =>
    have hp : ([c] : List UInt8).isPrefixOf (c :: b) = true := by simp [List.isPrefixOf]
    rw [List.nil_append, Lib.index, hp]
    rfl
  | cons x a ih =>
    simp only [List.mem_cons, not_or] at h
    have hp : ([c] : List UInt8).isPrefixOf (x :: (a ++ c :: b)) = false := by simp [List.isPrefixOf, h.1]
    rw [List.cons_append, Lib.index, hp, ih h.2]
    have : ((a.length : Int) == -1) = false := by rw [beq_eq_false_iff_ne]; omega
    rw [this]
    simp
theorem splitK_parts : ∀ (n : Nat) (l : List UInt8), l.length ≤ n → Lib.splitK [32] 0 (l.count 32) l = partsL [] l
  | n, l, hn => by
    rcases line_cases l with h | ⟨a, b, e, h⟩
    · rw [partsL_plain _ _ h, List.count_eq_zero.2 h]
      rfl
    · have hlen : a.length + 1 + b.length ≤ n := by rw [e] at hn; simp at hn; omega
      match n, hlen with
      | 0, hlen => omega
      | n + 1, hlen =>
        have hc : l.count 32 = b.count 32 + 1 := by rw [e, List.count_append, List.count_eq_zero.2 h, List.count_cons_self]; omega
        rw [hc, Lib.splitK, e, index_at 32 a b h]
        have : ((a.length : Int) == -1) = false := by rw [beq_eq_false_iff_ne]; omega
        rw [this]
        simp only [Bool.false_eq_true, if_false, Int.toNat_natCast, Nat.add_zero, List.length_singleton]
        have e1 : (a ++ 32 :: b).take a.length = a := List.take_left
        have e2 : (a ++ 32 :: b).drop (a.length + 1) = b := by
          rw [show a ++ 32 :: b = (a ++ [32]) ++ b from by simp]
          exact List.drop_left' (by simp)
        rw [e1, e2, splitK_parts n b (by omega), partsL_cut _ _ _ h]
        rfl
theorem map_data_inj : ∀ (a b : List ByteArray), a.map (·.data.toList) = b.map (·.data.toList) → a = b
  | [], b, h => by cases b with | nil => rfl | cons _ _ => simp at h
  | x :: a, b, h => by
    cases b with
    | nil => simp at h
    | cons y b =>
      simp only [List.map_cons, List.cons.injEq] at h
      rw [map_data_inj a b h.2]
      congr 1
      exact ByteArray.ext (Array.ext' h.1)
theorem splitB_parts (s : ByteArray) : Lib.splitB ⟨#[32]⟩ 0 (Lib.countB s ⟨#[32]⟩) s = partsOf s := by
  refine map_data_inj _ _ ?_
  have hc : Lib.countB s ⟨#[32]⟩ = s.data.toList.count 32 := Lib.count_one 32 s.data.toList
  rw [Lib.splitB_data, hc]
  have h1 : (partsOf s).map (·.data.toList) = partsL [] s.data.toList := by unfold partsOf; rw [List.map_map]; simp [Function.comp_def]
  rw [h1]
  exact splitK_parts _ _ (Nat.le_refl _)
theorem partsL_size (l : List UInt8) : ∀ cur, ∀ p ∈ partsL cur l, p.length ≤ cur.length + l.length := by
  induction l with
  | nil => intro cur p hp; simp only [partsL, List.mem_singleton] at hp; rw [hp]; omega
  | cons b l ih =>
    intro cur p hp
    unfold partsL at hp
    split at hp
    · rcases List.mem_cons.1 hp with rfl | hp
      · omega
      · have := ih [] p hp; simp at this ⊢; omega
    · have := ih _ p hp; simp at this ⊢; omega
theorem parts_size {s p : ByteArray} (h : p ∈ partsOf s) : p.size ≤ s.size := by
  unfold partsOf at h
  obtain ⟨l, hl, rfl⟩ := List.mem_map.1 h
  have := partsL_size s.data.toList [] l hl
  have h2 : s.data.toList.length = s.size := Array.length_toList
  have h3 : (ByteArray.mk l.toArray).size = l.length := rfl
  simp at this
  omega
theorem countB_parts (s : ByteArray) : Lib.countB s ⟨#[32]⟩ + 1 = (partsOf s).length := by
  have hc : Lib.countB s ⟨#[32]⟩ = s.data.toList.count 32 := Lib.count_one 32 s.data.toList
  rw [hc, partsOf_len]
  omega
/-- The first word, and what stands behind it. -/
theorem cut_parts (s : ByteArray) : (⟨(Lib.cut s.data.toList [32]).1.toArray⟩ : ByteArray) = wordAt (partsOf s) 0 ∧ (⟨(Lib.cut s.data.toList [32]).2.1.toArray⟩ : ByteArray) = restOf s 1 := by
  rcases line_cases s.data.toList with h | ⟨a, b, e, h⟩
  · have e1 : Lib.cut s.data.toList [32] = (s.data.toList, [], false) := by
      unfold Lib.cut
      rw [index_no 32 _ h, if_neg (by decide)]
    rw [e1]
    refine ⟨?_, ?_⟩
    · unfold wordAt partsOf
      rw [partsL_plain _ _ h]
      rfl
    · unfold restOf
      rw [restL_plain _ _ h]
  · have e1 : Lib.cut s.data.toList [32] = (a, b, true) := by
      unfold Lib.cut
      rw [e, index_at 32 a b h, if_pos (by omega)]
      have e2 : (a ++ 32 :: b).drop (a.length + 1) = b := by
        rw [show a ++ 32 :: b = (a ++ [32]) ++ b from by simp]
        exact List.drop_left' (by simp)
      simp only [Int.toNat_natCast, List.length_singleton]
      rw [List.take_left, e2]
    rw [e1]
    refine ⟨?_, ?_⟩
    · unfold wordAt partsOf
      rw [e, partsL_cut _ _ _ h]
      rfl
    · unfold restOf
      rw [e, restL_cut _ _ h]
end Go.Mux
namespace Go.Proofs.YtjglknaojfnllaaDoor
open Go.RowKit Go.Mux Go.Shelf
shelf_lay Lays.n146 Nm 146 at Tryd as Tryd.laysSplit
theorem info_string : (Tryd.prog.info? 9).map (fun i => (i.zero, i.size, i.bytes)) = some (some (.string ByteArray.empty), 1, 16) := by kernel_rfl
theorem strings_split (w : World) (s : ByteArray) (hs : s.size ≤ 1048576) (he : ENV w) : Calls Tryd.prog 54 #[.string s, .string ⟨#[32]⟩] w (Gives w fun r w' => FreshS w.heap.size w' r (partsOf s)) := by
  obtain ⟨m, hm⟩ := he.max
  refine (Any.strings_Split Tryd.laysSplit info_string s ⟨#[32]⟩ m w (by omega) hm (by decide)).mono ?_
  rintro e w' ⟨rfl, rfl⟩
  rw [splitB_parts, countB_parts]
  have hlen := partsOf_len s
  have hcl : s.data.toList.count 32 ≤ s.data.toList.length := List.count_le_length
  have hdl : s.data.toList.length = s.size := Array.length_toList
  refine ⟨_, rfl, freshS_lit (α := ByteArray) rfl w (partsOf s) ((partsOf s).map Value.string) _ rfl (by simp) (by omega) (fun i x u hx hu w => ?_), bel_alloc (Below.refl _ _) _⟩
  rw [List.getElem?_map, hx] at hu
  cases hu
  exact ⟨rfl, by have := parts_size (List.mem_of_getElem? hx); omega⟩
shelf_lay Lays.n145 Nm 145 at Tryd as Tryd.laysCut
theorem strings_cut (w : World) (s : ByteArray) (hs : s.size ≤ 1048576) (he : ENV w) : Calls Tryd.prog 42 #[.string s, .string ⟨#[32]⟩] w (Gives w fun r _ => ∃ b, r = .tuple #[.string (wordAt (partsOf s) 0), .string (restOf s 1), .bool b]) := by
  obtain ⟨m, hm⟩ := he.max
  refine (Any.strings_Cut Tryd.laysCut s ⟨#[32]⟩ m w (by omega) hm).mono ?_
  rintro e w' ⟨rfl, n, rfl⟩
  obtain ⟨e1, e2⟩ := cut_parts s
  exact ⟨_, rfl, ⟨_, by rw [← e1, ← e2]⟩, below_drewN (Below.refl w.heap.size w) n⟩
theorem impl_Parts (w : World) (s : ByteArray) (hs : s.size ≤ 1048576) (he : ENV w) : Calls Tryd.prog 32 #[.string s] w (Gives w fun r w' => FreshS w.heap.size w' r (partsOf s)) := by
  go_enter Tryd.func32, Tryd.ntmps32
  go_wp2_with fail
  refine (strings_split w s hs he).mono ?_
  rintro e W1 ⟨_, rfl, hF, hb⟩
  have HF := Lib.hid hF
  have HB := Lib.hid hb
  clear hF hb
  go_wp2_with fail
  go_ret
  exact ⟨_, rfl, HF.out, HB.out⟩
end Go.Proofs.YtjglknaojfnllaaDoor
