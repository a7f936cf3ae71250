/- Facts that are carried over a marking. -/
import Derived.Test.YtjglknaojfnllaaDoorLawBase
import Derived.Test.YtjglknaojfnllaaDoorWt
set_option linter.unusedSimpArgs false
set_option linter.unusedVariables false
namespace Go.Mux
open Go.RowKit
theorem FrIn.marked {α : Type} [Rep α] {fp : List Nat} {lo hi lo' hi' : Nat} {w w' : World} {cs : List Value} {x : α} (hm : MarkedOn fp w w') (hb : ∀ b ∈ fp, lo ≤ b ∧ b < hi) (h : FrIn lo' hi' w cs x) (hd : hi' ≤ lo ∨ hi ≤ lo') : FrIn lo' hi' w' cs x :=
  h.keep fun b h1 h2 h3 => hm.block b h3 fun hmem => by have := hb b hmem; omega
theorem range_marked {fp : List Nat} {lo hi : Nat} {w w' : World} {g o : Nat} {cs : List Value} (hm : MarkedOn fp w w') (hb : ∀ b ∈ fp, lo ≤ b ∧ b < hi) (h : w.rangeAt g o cs) (hd : g < lo ∨ hi ≤ g) : w'.rangeAt g o cs := fun j v hv => by
  have h1 := h j v hv
  have hlt : g < w.heap.size := World.block_lt_of_cell? w _ h1
  exact (World.cell?_of_block (a := ⟨g, o + j, none⟩) (hm.block g hlt fun hmem => by have := hb g hmem; omega)).trans h1
end Go.Mux
