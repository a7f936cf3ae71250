/- A region that draws its order, whose operations only read and whose callees only make new memory: one walk, in the order of the text. The class of worlds: those that hold all that the world at the region's head holds. -/
import Derived.Test.YtjglknaojfnllaaDoorFnBase
import Derived.Deep.QuietTactic
import Derived.BigQuiet
set_option linter.unusedSimpArgs false
set_option linter.unusedVariables false
namespace Go.Mux
open Go.RowKit
/-- A world in which nothing has turned that was there in W. -/
structure Ext (W : World) where
  w : World
  bel : Below W.heap.size W w
instance (W : World) : Nonempty (Ext W) := ⟨⟨W, Below.refl _ _⟩⟩
section
variable {P : Program}
theorem wp_region_ext {id : Nat} {Q : Exit → Act → World → Prop} {a : Act} {w : World} {l : List Oper} (hm : P.follows .mixedOrders = true) (hB : Region.lexB .any l.toArray = true)
    (h : wpQuiet P l.toArray (fun w' => ∃ e : Ext w, w' = e.w) (fun a' => ∀ w', (∃ e : Ext w, w' = e.w) → Q .normal a' w') l a) : (Code.region id l.toArray true).wp P Q a w :=
  wp_region_quiet (C := fun w' => ∃ e : Ext w, w' = e.w) hm hB ⟨⟨_, (Below.refl _ _).drew⟩, rfl⟩ (by simpa using h)
/-- A callee whose answer is one value whatever the world. -/
theorem ext_gives {f : FuncId} {args : Array Value} {W : World} {x : Ext W} {v : Value} (h : Calls P f args x.w (Gives x.w fun r _ => r = v)) :
    Calls P f args x.w fun e w'' => e = .returned v ∧ ∃ y : Ext W, w'' = y.w :=
  h.mono fun _ w'' ⟨_, he, hv, hb⟩ => ⟨by rw [he, hv], ⟨w'', bel_next x.bel hb⟩, rfl⟩
theorem ext_pure {f : FuncId} {args : Array Value} {W : World} {x : Ext W} {v : Value} (h : Calls P f args x.w (Pure x.w v)) :
    Calls P f args x.w fun e w'' => e = .returned v ∧ ∃ y : Ext W, w'' = y.w :=
  h.mono fun _ w'' ⟨he, hw⟩ => ⟨he, x, hw.symm⟩
theorem ext_cell {W : World} {b o : Nat} {v : Value} (h : W.cell? ⟨b, o, none⟩ = some v) : ∀ x : Ext W, x.w.cell? ⟨b, o, none⟩ = some v := fun x =>
  (x.bel.cell (p := ⟨b, o, none⟩) (World.block_lt_of_cell? W _ h)).trans h
theorem ext_cell_alloc {W : World} {b o : Nat} {v : Value} (x : Obj) (h : W.cell? ⟨b, o, none⟩ = some v) : ∀ e : Ext (W.alloc x), e.w.cell? ⟨b, o, none⟩ = some v :=
  ext_cell ((World.cell?_alloc_lt W x ⟨b, o, none⟩ (World.block_lt_of_cell? W _ h)).trans h)
end
end Go.Mux
