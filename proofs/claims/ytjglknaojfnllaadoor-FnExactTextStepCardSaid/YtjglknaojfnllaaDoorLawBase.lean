/- Words and lemmas for the walks of the laws themselves: variables that hold structs, facts that are carried from world to world. -/
import Derived.Test.YtjglknaojfnllaaDoorBase
import Derived.Deep.MidRow
import Derived.Deep.RegionHeld3
set_option linter.unusedSimpArgs false
set_option linter.unusedVariables false
namespace Go.Mux
open Go.RowKit

theorem cell_step {w w' : World} {p : Addr} {v : Value} (hb : Below w.heap.size w w') (h : w.cell? p = some v) : w'.cell? p = some v := (hb.cell (World.block_lt_of_cell? w p h)).trans h
theorem range_step {w w' : World} {g o : Nat} {cs : List Value} (hb : Below w.heap.size w w') (h : w.rangeAt g o cs) : w'.rangeAt g o cs := fun j v hv =>
  have h1 := h j v hv
  (hb.cell (p := ⟨g, _, none⟩) (World.block_lt_of_cell? w _ h1)).trans h1
theorem range_alloc {w : World} {g o : Nat} {cs : List Value} (x : Obj) (h : w.rangeAt g o cs) : (w.alloc x).rangeAt g o cs := range_step ((Below.refl _ _).alloc (Nat.le_refl _) _) h
theorem range_box (w : World) (t : TypeId) (cs : List Value) : (w.alloc (.cells cs.toArray t)).rangeAt w.heap.size 0 cs := fun j v hv => by
  rw [Nat.zero_add]
  have := cell_of_row (w.alloc (.cells cs.toArray t)) w.heap.size j cs.toArray t (0, 0) (heap_alloc_new w _)
  rw [this]
  simpa using hv
theorem putAt_whole {z : Array Value} {cs : List Value} (hl : cs.length = z.size) : putAt z 0 cs = cs.toArray := by
  unfold putAt
  rw [List.take_zero, List.nil_append, Nat.zero_add, List.drop_of_length_le (by simp; omega), List.append_nil]
/-- A struct stored into a variable that was just made. -/
theorem store_new {w W1 : World} {z : Array Value} {t : TypeId} {cs : List Value} (h : W1 = (w.alloc (.cells z t)).setRow w.heap.size (putAt z 0 cs)) (hl : cs.length = z.size) :
    Below w.heap.size w W1 ∧ W1.rangeAt w.heap.size 0 cs ∧ W1.heap.size = w.heap.size + 1 := by
  rw [putAt_whole hl] at h
  subst h
  refine ⟨below_row ((Below.refl _ _).alloc (Nat.le_refl _) _) (Nat.le_refl _) rfl, fun j v hv => ?_, by simp [World.setRow]⟩
  rw [Nat.zero_add, cell_setRow_same _ _ _ z _ t (0, 0) (heap_alloc_new w _)]
  simpa using hv
theorem FrIn.step {α : Type} [Rep α] {lo hi : Nat} {w w' : World} {cs : List Value} {x : α} (hb : Below w.heap.size w w') (h : FrIn lo hi w cs x) : FrIn lo hi w' cs x := FrIn.below hb h
theorem FrIn.repS {α : Type} [Rep α] {lo hi : Nat} {w : World} {v : Value} {l : List α} (h : FrIn lo hi w [v] l) : RepS w v l := (h.freshS (B := 0) (Nat.zero_le _)).repS
theorem bel_drew (W : World) : Below W.heap.size W W.drew := (Below.refl _ _).drew
theorem drew_size (W : World) : W.drew.heap.size = W.heap.size := rfl
/-- What is known of an argument of the law, at every later world. -/
theorem bel_step {w W W' : World} (h : Below w.heap.size w W) (hb : Below W.heap.size W W') : Below w.heap.size w W' := bel_next h hb
end Go.Mux
namespace Go.Mux
open Go.RowKit
/-- A variable that holds a struct is read. -/
theorem wpList_load_box {P : Program} {ops : Array Oper} {rest : List Oper} {o : Oper} {a : Act} {w : World} {Q : Exit → Act → World → Prop} (hw : Region.wanted o (yielded ops a.tmps) = true) (ty : TypeId) (x : Operand) (ho : o.op = .load ty x) (b off : Nat) (hx : a.eval x = .pointer (some ⟨b, off, none⟩))
    (cs : List Value) (hc : w.rangeAt b off cs) {fs : Array Field}
    (hu : P.underlying ty = some (.struct fs)) (hi : (P.info? ty).map (·.size) = some cs.length)
    (h : wpList P ops Q rest (a.put o.dst (.agg cs.toArray)) w) : wpList P ops Q (o :: rest) a w := by
  refine wpList_step fun K hK => ?_
  rw [if_pos hw]
  unfold Oper.wp execOp
  simp only [ho, hx, Instr.loadAt, Instr.sureAddr, Sem.run_bind, Sem.run_pure, Result.andThen_ok, run_load_row ty b off cs fs hc hu hi]
  exact hK _ _ h
end Go.Mux
