/- Slices of the call's own of one-cell elements that own nothing (numbers, strings): literals, and append onto them. -/
import Derived.Test.YtjglknaojfnllaaDoorClone
set_option linter.unusedSimpArgs false
set_option linter.unusedVariables false
namespace Go.Mux
open Go.RowKit
section
variable {P : Program} {α : Type} [Rep α] [Flat α]
theorem wpList_append_flat {ops : Array Oper} {rest : List Oper} {o : Oper} {a : Act} {w : World} {Q : Exit → Act → World → Prop} (hw : Region.wanted o (yielded ops a.tmps) = true) (s x : Operand) (t : TypeId)
    (ho : o.op = .call { callee := .builtin .append, args := #[s, x], argTypes := #[t, t] })
    (e : TypeId) (z : Value) (bytes : Nat) (ht : P.underlying t = some (.slice e)) (hi : (P.info? e).map (fun i => (i.zero, i.size, i.bytes)) = some (some z, Rep.size α, bytes)) (he : e = Rep.tid α)
    (hzs : z.cells.size = Rep.size α) (hsz : 0 < Rep.size α)
    (B : Nat) (hB : B ≤ w.heap.size) (v : Value) (l : List α) (hs : a.eval s = v) (hv : FreshS B w v l) (u : Value) (l2 : List α) (hx : a.eval x = u) (hr2 : RepS w u l2)
    (h63 : l.length + l2.length ≤ 9223372036854775807) (hbytes : (l.length + l2.length) * bytes ≤ 140737488355328)
    (h : ∀ v' w', FreshS B w' v' (l ++ l2) → Below B w w' → wpList P ops Q rest (a.put o.dst v') w') : wpList P ops Q (o :: rest) a w := by
  obtain ⟨A, n, cap, rfl⟩ := hr2.shape
  obtain ⟨rows, fps, hr, hf, hc⟩ := RepS.rows hsz hr2
  have en : n = l2.length := by obtain ⟨_, _, e, _⟩ := hr2; injection e
  obtain ⟨fp, ho1, hn1, hb1⟩ := hv
  refine wpList_append_rep (α := α) hw s x t ho e z bytes ht hi he hzs hsz v l fp hs ho1 A n cap hx l2 en rows fps hr (by rw [hf]; simpa using hn1) hc (fun _ => .inr trivial) h63 hbytes ?_
  intro v' w' fp' HO HN HF HG HOB
  refine h v' w' ⟨fp', HO, HN, fun b hb => ?_⟩ ⟨HG.os, HG.tape, HG.output, HG.size, fun k hk => HG.block k (by omega) (fun e => ?_)⟩
  · rcases HF b hb with h | h | h
    · exact hb1 b h
    · rw [hf] at h; simp at h
    · omega
  · have := hb1 k (HOB k e.symm)
    omega
/-- A literal of one-cell elements. -/
theorem freshS_lit (hs1 : Rep.size α = 1) (w : World) (xs : List α) (vs : List Value) (e : TypeId) (he : e = Rep.tid α) (hl : vs.length = xs.length) (hn : xs.length ≤ 9223372036854775807)
    (hel : ∀ (i : Nat) x u, xs[i]? = some x → vs[i]? = some u → ∀ w, Rep.rep w [u] x) : FreshS w.heap.size (w.alloc (.cells vs.toArray e)) (.slice (some ⟨w.heap.size, 0, none⟩) xs.length xs.length) xs := by
  subst he
  have hfl : (vs.map fun u => [u]).flatten = vs := by
    clear hl hel
    induction vs with
    | nil => rfl
    | cons a l ih => rw [List.map_cons, List.flatten_cons, ih]; rfl
  refine ⟨[w.heap.size], ⟨vs.map fun u => [u], List.replicate xs.length [], ⟨?_, .inr ⟨w.heap.size, xs.length, vs.toArray, rfl, Nat.zero_le _, RowAt.of (heap_alloc_new w _), Nat.le_refl _, by unfold maxLen; omega, ?_, ?_⟩⟩, hn, by simp [hl], by simp, ?_, by simp [Value.ownBlock]⟩, by simp, by simp⟩
  · rw [hfl, hs1, hl, Nat.mul_one]
  · simp [hs1, hl]
  · rw [hfl, hs1, Nat.mul_one, ← hl]
    simp
  · intro i x r f hx hr hf
    rw [List.getElem?_map] at hr
    cases hv : vs[i]? with
    | none => rw [hv] at hr; cases hr
    | some u =>
      rw [hv] at hr
      cases hr
      rw [List.getElem?_replicate] at hf
      split at hf
      · cases hf
        exact Flat.own (hel i x u hx hv _)
      · cases hf
end
theorem FreshS.grow {α : Type} [Rep α] {B : Nat} {w w' : World} {v : Value} {l : List α} (h : FreshS B w v l) (hb : Below w.heap.size w w') : FreshS B w' v l := by
  obtain ⟨fp, ho, hn, hg⟩ := h
  exact ⟨fp, ho.grow hb, hn, hg⟩
end Go.Mux
