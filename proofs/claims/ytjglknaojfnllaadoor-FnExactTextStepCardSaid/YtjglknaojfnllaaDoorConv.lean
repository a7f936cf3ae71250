/- []byte(s) of a string: the new slice is the call's own. -/
import Derived.Test.YtjglknaojfnllaaDoorApp
import Derived.Lib.ConvBytes
set_option linter.unusedSimpArgs false
set_option linter.unusedVariables false
namespace Go.Mux
open Go.RowKit
theorem below_bytes (w : World) (e : TypeId) (s : ByteArray) : Below w.heap.size w (Lib.bytesWorld w e s) :=
  ⟨by simp [Lib.bytesWorld, World.freeze, World.alloc, World.drew, -World.alloc_eq, -World.drew_eq], by simp [Lib.bytesWorld, World.freeze, World.alloc, World.drew, -World.alloc_eq, -World.drew_eq], by simp [Lib.bytesWorld, World.freeze, World.alloc, World.drew, -World.alloc_eq, -World.drew_eq], by rw [Lib.bytesWorld_size]; omega, fun b hb => Lib.bytesWorld_at_old w e s b hb⟩
theorem flatten_one {α β : Type} (f : α → β) : ∀ (l : List α), (l.map fun a => [f a]).flatten = l.map f
  | [] => rfl
  | a :: l => by rw [List.map_cons, List.flatten_cons, flatten_one f l]; rfl
theorem freshS_bytes (w : World) (s : ByteArray) (hs : s.size ≤ 9223372036854775807) : FreshS w.heap.size (Lib.bytesWorld w (Rep.tid UInt8) s) (.slice (some ⟨w.heap.size, 0, none⟩) s.size (grownCap w s.size 0 (Rep.tid UInt8))) s.data.toList := by
  have hge := grownCap_ge w s.size 0 (Rep.tid UInt8)
  have hcm : grownCap w s.size 0 (Rep.tid UInt8) ≤ maxLen := grownCap_le_maxLen w s.size 0 (Rep.tid UInt8) hs
  have hlen : s.data.toList.length = s.size := Array.length_toList
  have hcs : (Lib.bytesCells w (Rep.tid UInt8) s).size = grownCap w s.size 0 (Rep.tid UInt8) := by
    unfold Lib.bytesCells
    simp only [Array.size_append, Array.size_map, Array.size_replicate]
    show s.size + _ = _
    omega
  have hfl : (s.data.toList.map fun b => [Value.int .u8 b.toNat]).flatten = s.data.toList.map fun b => Value.int .u8 b.toNat := flatten_one _ _
  refine ⟨[w.heap.size], ⟨s.data.toList.map fun b => [Value.int .u8 b.toNat], List.replicate s.size [], ⟨?_, .inr ⟨w.heap.size, grownCap w s.size 0 (Rep.tid UInt8), Lib.bytesCells w (Rep.tid UInt8) s, by rw [hlen], Nat.zero_le _, ⟨_, Lib.bytesWorld_at_new w (Rep.tid UInt8) s, .inr (Nat.le_refl _)⟩, by omega, hcm, ?_, ?_⟩⟩, by omega, by simp, by simp [hlen], ?_, ?_⟩, by simp, by simp⟩
  · rw [hfl]; simp [Rep.size]
  · rw [hcs]; simp [Rep.size]
  · rw [hfl, hlen]
    unfold Lib.bytesCells
    simp only [Array.toList_append, Array.toList_map, show Rep.size UInt8 = 1 from rfl, Nat.mul_one]
    rw [List.take_left' (by simp [hlen])]
  · intro i x r f hx hr hf
    rw [List.getElem?_map, hx] at hr
    cases hr
    rw [List.getElem?_replicate] at hf
    split at hf
    · cases hf
      exact ⟨rfl, rfl⟩
    · cases hf
  · simp [Value.ownBlock]
end Go.Mux
