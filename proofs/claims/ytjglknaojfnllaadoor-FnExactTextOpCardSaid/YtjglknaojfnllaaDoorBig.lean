/- A great struct, filled field by field in a box of the call's own: the third box; the first holds the argument, the second the result. -/
import Derived.Test.YtjglknaojfnllaaDoorBase
set_option linter.unusedSimpArgs false
set_option linter.unusedVariables false
namespace Go.Mux
open Go.RowKit
def putL (cur : List Value) (off : Nat) (cs : List Value) : List Value := cur.take off ++ cs ++ cur.drop (off + cs.length)
theorem putL_len {cur cs : List Value} {off : Nat} (h : off + cs.length ≤ cur.length) : (putL cur off cs).length = cur.length := by
  unfold putL
  simp only [List.length_append, List.length_take, List.length_drop]
  omega
theorem new_at (w : World) (o : Obj) {g : Nat} (h : g = w.heap.size) : (w.alloc o).heap[g]? = some o := by
  subst h
  exact heap_alloc_new w o
/-- Block g alone has turned. -/
structure Moved (g : Nat) (W W1 : World) : Prop where
  os : W1.os = W.os
  tape : W1.tape = W.tape
  output : W1.output = W.output
  size : W1.heap.size = W.heap.size
  other : ∀ k, k ≠ g → W1.heap[k]? = W.heap[k]?
theorem cell_of_heap {W W1 : World} {b : Nat} (h : W1.heap[b]? = W.heap[b]?) (o : Nat) : W1.cell? ⟨b, o, none⟩ = W.cell? ⟨b, o, none⟩ := by
  simp only [World.cell?, h]
theorem Moved.row {g : Nat} {W W1 : World} {cs : Array Value} (h : W1 = W.setRow g cs) : Moved g W W1 := by
  subst h
  exact ⟨rfl, rfl, rfl, by simp, fun k hk => setRow_other W g k cs hk⟩
structure Big (w Wb : World) (t : TypeId) (N : Nat) (cur : List Value) (W : World) : Prop where
  bel : Below w.heap.size w W
  lt : w.heap.size + 1 + 1 < W.heap.size
  arg : ∀ o, W.cell? ⟨w.heap.size, o, none⟩ = Wb.cell? ⟨w.heap.size, o, none⟩
  out : W.heap[w.heap.size + 1]? = Wb.heap[w.heap.size + 1]?
  len : cur.length = N
  row : W.heap[w.heap.size + 1 + 1]? = some (.cells cur.toArray t (0, 0))
theorem Big.call {w Wb W W1 : World} {t : TypeId} {N : Nat} {cur : List Value} (h : Big w Wb t N cur W) (hb : Below W.heap.size W W1) : Big w Wb t N cur W1 :=
  ⟨bel_next h.bel hb, Nat.lt_of_lt_of_le h.lt hb.size, fun o => (cell_of_heap (hb.block _ (by have := h.lt; omega)) o).trans (h.arg o), (hb.block _ (by have := h.lt; omega)).trans h.out, h.len, (hb.block _ h.lt).trans h.row⟩
theorem Big.cells {w Wb W : World} {t : TypeId} {N : Nat} {cur : List Value} (h : Big w Wb t N cur W) (j : Nat) (u : Value) (hu : cur[j]? = some u) : W.cell? ⟨w.heap.size + 1 + 1, 0 + j, none⟩ = some u := by
  rw [Nat.zero_add, cell_of_row W _ j cur.toArray t (0, 0) h.row]
  simpa using hu
theorem Moved.below {B g : Nat} {W W1 w : World} (h : Moved g W W1) (hb : Below B w W) (hg : B ≤ g) : Below B w W1 :=
  hb.trans ⟨h.os, h.tape, h.output, Nat.le_of_eq h.size.symm, fun k hk => h.other k (by omega)⟩
theorem FrIn.moved {α : Type} [Rep α] {lo hi g : Nat} {W W1 : World} {cs : List Value} {x : α} (h : FrIn lo hi W cs x) (hM : Moved g W W1) (hg : g < lo) : FrIn lo hi W1 cs x :=
  h.keep fun b h1 _ _ => hM.other b (by omega)
section
variable {P : Program} {ops : Array Oper} {Q : Exit → Act → World → Prop} {a : Act} {w : World} {rest : List Oper} {o : Oper}
theorem wpList_store_box (hgd : o.guard = none) (ty : TypeId) (x y : Operand) (ho : o.op = .store ty x y) {w0 Wb : World} {t : TypeId} {N : Nat} {cur : List Value} (hS : Big w0 Wb t N cur w) (off : Nat) (hx : a.eval x = .pointer (some ⟨w0.heap.size + 1 + 1, off, none⟩))
    (v : Value) (hy : a.eval y = v) (cs : List Value) (hv : v.cells = cs.toArray) (hfit : off + cs.length ≤ N) (h1 : ∀ u ∈ cs, u.oneCell' = true) (hi : (P.info? ty).map (·.size) = some cs.length)
    (h : ∀ W1, Moved (w0.heap.size + 1 + 1) w W1 → Big w0 Wb t N (putL cur off cs) W1 → wpList P ops Q rest (a.put o.dst undef) W1) : wpList P ops Q (o :: rest) a w := by
  refine wpList_store_at hgd ty x y ho _ off hx v hy cs hv cur.toArray t hS.row (by simpa [hS.len] using hfit) h1 hi fun W1 hW => ?_
  have hM := Moved.row hW
  refine h W1 hM ⟨hM.below hS.bel (by omega), by have := hS.lt; have := hM.size; omega, fun o => (cell_of_heap (hM.other _ (by omega)) o).trans (hS.arg o), (hM.other _ (by omega)).trans hS.out, (putL_len (by rw [hS.len]; exact hfit)).trans hS.len, ?_⟩
  rw [hW]
  have := setRow_heap w (w0.heap.size + 1 + 1) cur.toArray (putAt cur.toArray off cs) t (0, 0) hS.row
  rw [this]
  simp [putAt, putL]
end
end Go.Mux
