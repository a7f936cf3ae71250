/- Copies of slices whose elements own nothing: slices.Clone. -/
import Derived.Test.YtjglknaojfnllaaDoorApp
import Derived.Test.YtjglknaojfnllaaDoorData
import Derived.Test.YtjglknaojfnllaaDoorSz
import Derived.WalkSpells
set_option linter.unusedSimpArgs false
set_option linter.unusedVariables false
namespace Go.Mux
open Go.RowKit
/-- Values that own no memory. -/
class Flat (α : Type) [Rep α] : Prop where
  own : ∀ {w : World} {cs : List Value} {x : α}, Rep.rep w cs x → Rep.own w cs x []
instance : Flat Int := ⟨fun h => ⟨h, rfl⟩⟩
instance : Flat Bool := ⟨fun h => ⟨h, rfl⟩⟩
instance : Flat UInt8 := ⟨fun h => ⟨h, rfl⟩⟩
instance : Flat ByteArray := ⟨fun h => ⟨h, rfl⟩⟩
instance {α β : Type} [Rep α] [Rep β] [Flat α] [Flat β] : Flat (α × β) := ⟨fun h => by
  obtain ⟨c1, c2, rfl, h1, h2⟩ := h
  exact ⟨c1, c2, [], [], rfl, Flat.own h1, Flat.own h2, rfl⟩⟩
theorem flatten_get {β : Type} (size : Nat) (hs : 0 < size) (rows : List (List β)) (h : ∀ r ∈ rows, r.length = size) (j : Nat) (u : β) (hu : rows.flatten[j]? = some u) :
    ∃ r, rows[j / size]? = some r ∧ r[j % size]? = some u := by
  have hlen : rows.flatten.length = rows.length * size := by
    rw [List.length_flatten]
    have hm : rows.map List.length = List.replicate rows.length size := by
      rw [List.eq_replicate_iff]; exact ⟨by simp, fun b hb => by obtain ⟨r, hr, rfl⟩ := List.mem_map.1 hb; exact h r hr⟩
    rw [hm, List.sum_replicate_nat]
  have hj : j < rows.length * size := by rw [← hlen]; rw [List.getElem?_eq_some_iff] at hu; exact hu.1
  have hi : j / size < rows.length := Nat.div_lt_of_lt_mul (by rw [Nat.mul_comm]; exact hj)
  have hr := h rows[j / size] (List.getElem_mem hi)
  have hm : j % size < rows[j / size].length := by rw [hr]; exact Nat.mod_lt _ hs
  refine ⟨rows[j / size], List.getElem?_eq_getElem hi, ?_⟩
  have e := getElem?_flatten_rows size rows h (j / size) rows[j / size] (j % size) _ (List.getElem?_eq_getElem hi) (List.getElem?_eq_getElem hm)
  rw [show j / size * size + j % size = j from by rw [Nat.mul_comm]; exact Nat.div_add_mod _ _] at e
  rw [hu] at e
  rw [List.getElem?_eq_getElem hm]
  exact e.symm
theorem RepS.rows {α : Type} [Rep α] [Flat α] (hs : 0 < Rep.size α) {w : World} {a : Option Addr} {n cap : Nat} {l : List α} (h : RepS w (.slice a n cap) l) :
    ∃ (rows : List (List Value)) (fps : List (List Nat)), Rows w l rows fps ∧ fps.flatten = [] ∧
      (l ≠ [] → ∃ b off, a = some ⟨b, off, none⟩ ∧ ∀ (j : Nat) u, rows.flatten[j]? = some u → w.cell? ⟨b, off + j, none⟩ = some u) := by
  obtain ⟨a', cap', hv, hl, hc⟩ := h
  injection hv with ha hn hcap
  subst ha hn hcap
  by_cases hne : l = []
  · subst hne
    exact ⟨[], [], Rows.nil w, rfl, fun h => absurd rfl h⟩
  obtain ⟨b, off, rfl, hi⟩ := hc hne
  have H : ∀ i : Fin l.length, ∃ r, Rep.rep w r l[i] ∧ ∀ (j : Nat) u, r[j]? = some u → w.cell? ⟨b, off + i.1 * Rep.size α + j, none⟩ = some u := fun i => hi i l[i] (by simp)
  have hr0 : ∀ (i : Nat) (h : i < l.length), (List.ofFn fun i => (H i).choose)[i]? = some (H ⟨i, h⟩).choose := fun i h => by simp [h]
  refine ⟨List.ofFn fun i => (H i).choose, List.replicate l.length [], ⟨by simp, by simp, fun i x r f hx hr hf => ?_⟩, by simp, fun _ => ⟨b, off, rfl, fun j u hu => ?_⟩⟩
  · have hil : i < l.length := by rw [List.getElem?_eq_some_iff] at hx; exact hx.1
    rw [hr0 i hil] at hr
    cases hr
    have : f = [] := by
      rw [List.getElem?_replicate] at hf
      simp [hil] at hf
      exact hf
    subst this
    have hx' : x = l[i] := by rw [List.getElem?_eq_getElem hil] at hx; exact (Option.some.inj hx).symm
    rw [hx']
    exact Flat.own (H ⟨i, hil⟩).choose_spec.1
  · have hsz : ∀ r ∈ (List.ofFn fun i => (H i).choose), r.length = Rep.size α := by
      intro r hr
      obtain ⟨i, hil, rfl⟩ := List.mem_iff_getElem.1 hr
      have hil' : i < l.length := by simpa using hil
      have e := hr0 i hil'
      rw [List.getElem?_eq_getElem hil] at e
      rw [Option.some.inj e]
      exact Rep.len (H ⟨i, hil'⟩).choose_spec.1
    obtain ⟨r, hr, hu'⟩ := flatten_get (Rep.size α) hs _ hsz j u hu
    have hil : j / Rep.size α < l.length := by
      rw [List.getElem?_eq_some_iff] at hr
      obtain ⟨h, _⟩ := hr
      simpa using h
    rw [hr0 _ hil] at hr
    cases hr
    have := (H ⟨_, hil⟩).choose_spec.2 _ u hu'
    rw [Nat.add_assoc, show j / Rep.size α * Rep.size α + j % Rep.size α = j from by rw [Nat.mul_comm]; exact Nat.div_add_mod _ _] at this
    exact this
/-- append to an empty row of the call's own: a copy. -/
theorem wpList_append_copy {P : Program} {α : Type} [Rep α] [Flat α] {ops : Array Oper} {rest : List Oper} {o : Oper} {a : Act} {w : World} {Q : Exit → Act → World → Prop} (hw : Region.wanted o (yielded ops a.tmps) = true) (s x : Operand) (t : TypeId)
    (ho : o.op = .call { callee := .builtin .append, args := #[s, x], argTypes := #[t, t] })
    (e : TypeId) (z : Value) (bytes : Nat) (ht : P.underlying t = some (.slice e)) (hi : (P.info? e).map (fun i => (i.zero, i.size, i.bytes)) = some (some z, Rep.size α, bytes)) (he : e = Rep.tid α)
    (hzs : z.cells.size = Rep.size α) (hsz : 0 < Rep.size α)
    (g : Nat) (hs : a.eval s = .slice (some ⟨g, 0, none⟩) 0 0) (hg : w.heap[g]? = some (.cells #[] e (0, 0)))
    (v : Value) (l : List α) (hx : a.eval x = v) (hv : RepS w v l) (hbytes : l.length * bytes ≤ 140737488355328)
    (h : ∀ v' w', FreshS g w' v' l → Below g w w' → wpList P ops Q rest (a.put o.dst v') w') : wpList P ops Q (o :: rest) a w := by
  obtain ⟨A, n, cap, rfl⟩ := hv.shape
  obtain ⟨rows, fps, hr, hf, hc⟩ := RepS.rows hsz hv
  obtain ⟨_, _, e1, hl, _⟩ := hv
  injection e1 with ea en ec
  have hgl : g < w.heap.size := (Array.getElem?_eq_some_iff.1 hg).1
  refine wpList_append_rep (α := α) hw s x t ho e z bytes ht hi he hzs hsz _ [] _ hs (OwnS.empty he hg) A n cap hx l en rows fps hr (by rw [hf]; simp) hc (fun _ => .inr trivial) (by simpa using hl.1) (by simpa using hbytes) ?_
  intro v' w' fp' HO HN HF HG HOB
  refine h v' w' ⟨fp', by simpa using HO, HN, fun b hb => ?_⟩ ⟨HG.os, HG.tape, HG.output, HG.size, fun k hk => HG.block k (by omega) (fun e => ?_)⟩
  · rcases HF b hb with h | h | h
    · simp at h; omega
    · rw [hf] at h; simp at h
    · omega
  · have := HOB k e.symm
    simp at this
    omega
theorem heap_new_at (w : World) (o : Obj) {g : Nat} (h : g = w.heap.size) : (w.alloc o).heap[g]? = some o := by
  subst h
  exact heap_alloc_new w o
theorem FrIn.belowB {α : Type} [Rep α] {lo hi B : Nat} {w w' : World} {cs : List Value} {x : α} (h : FrIn lo hi w cs x) (hb : Below B w w') (hB : hi ≤ B) : FrIn lo hi w' cs x := h.keep fun b _ h2 _ => hb.block b (by omega)
theorem bel_upto {B : Nat} {w W W' : World} (h : Below w.heap.size w W) (hb : Below B W W') (hB : w.heap.size ≤ B) : Below w.heap.size w W' := h.trans (hb.mono hB)
end Go.Mux
