/- append as one step of a region that draws its order. -/
import Derived.Test.YtjglknaojfnllaaDoorFlatApp
set_option linter.unusedSimpArgs false
set_option linter.unusedVariables false
namespace Go.Mux
open Go.RowKit
section
variable {P : Program} {α : Type} [Rep α]
theorem oper_append_rep {o : Oper} {a : Act} {w : World} {K : Act → World → Prop} {Q : Exit → Act → World → Prop} (s x : Operand) (t : TypeId)
    (ho : o.op = .call { callee := .builtin .append, args := #[s, x], argTypes := #[t, t] })
    (e : TypeId) (z : Value) (bytes : Nat) (ht : P.underlying t = some (.slice e)) (hi : (P.info? e).map (fun i => (i.zero, i.size, i.bytes)) = some (some z, Rep.size α, bytes)) (he : e = Rep.tid α)
    (hzs : z.cells.size = Rep.size α) (hsz : 0 < Rep.size α)
    (v : Value) (l : List α) (fp : List Nat) (hs : a.eval s = v) (hv : OwnS w v l fp)
    (A : Option Addr) (m c : Nat) (hx : a.eval x = .slice A m c) (ys : List α) (hm : m = ys.length) (rows : List (List Value)) (fps : List (List Nat)) (hr : Rows w ys rows fps) (hnd : (fp ++ fps.flatten).Nodup)
    (hc : ys ≠ [] → ∃ b off, A = some ⟨b, off, none⟩ ∧ ∀ (j : Nat) u, rows.flatten[j]? = some u → w.cell? ⟨b, off + j, none⟩ = some u) (hA : A = none → c = 0 ∨ True)
    (h63 : l.length + ys.length ≤ 9223372036854775807) (hbytes : (l.length + ys.length) * bytes ≤ 140737488355328)
    (h : ∀ v' w' fp', OwnS w' v' (l ++ ys) fp' → fp'.Nodup → (∀ b ∈ fp', b ∈ fp ∨ b ∈ fps.flatten ∨ b = w.heap.size) → w.grownBy w' v.ownBlock → (∀ g, v.ownBlock = some g → g ∈ fp) → K (a.put o.dst v') w') :
    Oper.wp P o a w K Q := by
  subst he hm
  have hv0 := hv
  obtain ⟨rows0, fps0, hown, hl, hrl, hfl, hel, rfl⟩ := hv
  have hR0 : Rows w l rows0 fps0 := ⟨hrl, hfl, hel⟩
  have hobl : ∀ g, v.ownBlock = some g → g ∈ v.ownBlock.toList ++ fps0.flatten := fun g hg => by simp [hg]
  obtain ⟨i, hi', hz, hsize, hby⟩ := info_parts hi
  have key : ∀ v' w', OwnsRow w' (Rep.tid α) (Rep.size α) v' (l.length + ys.length) (rows0.flatten ++ rows.flatten) → w.grownBy w' v.ownBlock →
      (v'.ownBlock = v.ownBlock ∨ v'.ownBlock = some w.heap.size) → K (a.put o.dst v') w' := by
    intro v' w' hown' hg hat
    have hk : ∀ b ∈ (fps0 ++ fps).flatten, w'.heap[b]? = w.heap[b]? := by
      intro b hb
      rw [List.flatten_append] at hb
      have hlt : b < w.heap.size := by
        rcases List.mem_append.1 hb with hb | hb
        · exact hR0.lt b hb
        · exact hr.lt b hb
      refine hg.block b hlt (fun e => ?_)
      rw [List.append_assoc, List.nodup_append] at hnd
      exact hnd.2.2 b (by simp [← e]) b hb rfl
    have hR : Rows w' (l ++ ys) (rows0 ++ rows) (fps0 ++ fps) := (hR0.append hr).keep hk
    refine h v' w' (v'.ownBlock.toList ++ (fps0 ++ fps).flatten) ⟨rows0 ++ rows, fps0 ++ fps, ?_, by simpa using h63, hR.1, hR.2.1, hR.2.2, rfl⟩ ?_ ?_ hg hobl
    · rw [List.flatten_append, List.length_append]; exact hown'
    · rcases hat with e | e
      · rw [e, List.flatten_append, ← List.append_assoc]; exact hnd
      · rw [e]
        simp only [Option.toList_some, List.singleton_append, List.nodup_cons]
        refine ⟨fun hm => ?_, ?_⟩
        · rw [List.flatten_append] at hm
          rcases List.mem_append.1 hm with hb | hb
          · have := hR0.lt _ hb; omega
          · have := hr.lt _ hb; omega
        · rw [List.flatten_append]
          rw [List.append_assoc, List.nodup_append] at hnd
          exact hnd.2.1
    · intro b hb
      rcases List.mem_append.1 hb with hb | hb
      · rcases hat with e | e
        · rw [e] at hb; exact .inl (List.mem_append.2 (.inl hb))
        · rw [e] at hb; simp at hb; exact .inr (.inr hb)
      · rw [List.flatten_append] at hb
        rcases List.mem_append.1 hb with hb | hb
        · exact .inl (List.mem_append.2 (.inr hb))
        · exact .inr (.inl hb)
  by_cases hys : ys = []
  · subst hys
    have hrows : rows = [] := List.eq_nil_of_length_eq_zero hr.1
    subst hrows
    cases A with
    | none =>
      have hrun : (Builtin.append_ #[t, t] o.type #[v, .slice none 0 c]).run P w = .ok v w := by
        rcases hown.2 with ⟨rfl, hn⟩ | ⟨g, cap, cur, rfl, _, _, hnc, _⟩
        · simp [Builtin.append_, run_underlying ht, sizeOf, typeInfo, hi', Builtin.lenOf, Builtin.firstCells]
        · simp [Builtin.append_, run_underlying ht, sizeOf, typeInfo, hi', Builtin.lenOf, Builtin.firstCells, hnc, storeCells]
      unfold Oper.wp execOp
      simp only [ho, resolve, invoke, builtin, Sem.run_bind, Sem.run_pure, Result.andThen_ok, List.map_toArray, List.map_cons, List.map_nil, hs, hx, List.length_nil, hrun]
      exact (key v w (by simpa using hown) (World.grownBy.refl w _) (.inl rfl))
    | some ad =>
      obtain ⟨v', w', hrun, h2, h3, h5⟩ := run_append_row (P := P) w t o.type (Rep.tid α) i z (Rep.size α) bytes ht hi' hz hsize hby hzs hsz v l.length rows0.flatten hown ad 0 c [] (by simp) (by simp) (by simp) (by simp only [maxLen]; omega) (by simpa using hbytes)
      unfold Oper.wp execOp
      simp only [ho, resolve, invoke, builtin, Sem.run_bind, Sem.run_pure, Result.andThen_ok, List.map_toArray, List.map_cons, List.map_nil, hs, hx, List.length_nil, hrun]
      exact (key v' w' (by simpa using h2) h3 h5)
  · obtain ⟨b, off, rfl, hcell⟩ := hc hys
    obtain ⟨v', w', hrun, h2, h3, h5⟩ := run_append_row (P := P) w t o.type (Rep.tid α) i z (Rep.size α) bytes ht hi' hz hsize hby hzs hsz v l.length rows0.flatten hown ⟨b, off, none⟩ ys.length c rows.flatten hr.length_flatten (fun j u hu => by rw [addr_add]; exact hcell j u hu) hr.one_cell (by simp only [maxLen]; omega) hbytes
    unfold Oper.wp execOp
    simp only [ho, resolve, invoke, builtin, Sem.run_bind, Sem.run_pure, Result.andThen_ok, List.map_toArray, List.map_cons, List.map_nil, hs, hx, hrun]
    exact (key v' w' h2 h3 h5)
variable [Flat α]
theorem step_append_flat {ops : Array Oper} {o : Oper} {a : Act} {w : World} {K : Act → World → Prop} {Q : Exit → Act → World → Prop} {E : Prop} (hgd : o.guard = none) (s x : Operand) (t : TypeId)
    (ho : o.op = .call { callee := .builtin .append, args := #[s, x], argTypes := #[t, t] })
    (e : TypeId) (z : Value) (bytes : Nat) (ht : P.underlying t = some (.slice e)) (hi : (P.info? e).map (fun i => (i.zero, i.size, i.bytes)) = some (some z, Rep.size α, bytes)) (he : e = Rep.tid α)
    (hzs : z.cells.size = Rep.size α) (hsz : 0 < Rep.size α)
    (B : Nat) (hB : B ≤ w.heap.size) (v : Value) (l : List α) (hs : a.eval s = v) (hv : FreshS B w v l) (u : Value) (l2 : List α) (hx : a.eval x = u) (hr2 : RepS w u l2)
    (h63 : l.length + l2.length ≤ 9223372036854775807) (hbytes : (l.length + l2.length) * bytes ≤ 140737488355328)
    (h : ∀ v' w', FreshS B w' v' (l ++ l2) → Below B w w' → K (a.put o.dst v') w') : if Region.wanted o (yielded ops a.tmps) = true then Oper.wp P o a w K Q else E := by
  have hw : Region.wanted o (yielded ops a.tmps) = true := by simp [Region.wanted, hgd]
  rw [if_pos hw]
  obtain ⟨A, n, cap, rfl⟩ := hr2.shape
  obtain ⟨rows, fps, hr, hf, hc⟩ := RepS.rows hsz hr2
  have en : n = l2.length := by obtain ⟨_, _, e, _⟩ := hr2; injection e
  obtain ⟨fp, ho1, hn1, hb1⟩ := hv
  refine oper_append_rep (α := α) s x t ho e z bytes ht hi he hzs hsz v l fp hs ho1 A n cap hx l2 en rows fps hr (by rw [hf]; simpa using hn1) hc (fun _ => .inr trivial) h63 hbytes ?_
  intro v' w' fp' HO HN HF HG HOB
  refine h v' w' ⟨fp', HO, HN, fun b hb => ?_⟩ ⟨HG.os, HG.tape, HG.output, HG.size, fun k hk => HG.block k (by omega) (fun e => ?_)⟩
  · rcases HF b hb with h | h | h
    · exact hb1 b h
    · rw [hf] at h; simp at h
    · omega
  · have := hb1 k (HOB k e.symm)
    omega
end
end Go.Mux
